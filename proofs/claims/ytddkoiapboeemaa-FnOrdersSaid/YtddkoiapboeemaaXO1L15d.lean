/- The least order: two searches that find the same one. -/
import Derived.Test.YtddkoiapboeemaaXO1L15b
set_option linter.unusedVariables false
set_option linter.unusedSimpArgs false
namespace Go.Proofs.Ytddkoiapboeemaa.X
open Go

def Full (n:Nat)(leg:List Int→Bool)(R:Int→Int→Bool)(o:List Int) : Prop:=o.length=n∧o.Nodup∧(∀ x∈o,0≤x∧x<n)∧leg o=true∧o.Pairwise (fun a b=>R a b=true)
instance (n:Nat) (leg:List Int→Bool) (R:Int→Int→Bool) (o:List Int) : Decidable (Full n leg R o):=by unfold Full; infer_instance
def js (n:Nat)(leg:List Int→Bool)(R:Int→Int→Bool) : Nat→List Int→Option (List Int)
 | 0,p=>if Full n leg R p then some p else none
 | m+1,p=>(List.range' 0 n).findSome? (fun (i:Nat)=>js n leg R m (p++[(i:Int)]))
section
variable {n:Nat}{leg:List Int→Bool}{R:Int→Int→Bool}
theorem qa4:∀ (m:Nat) (p o:List Int),js n leg R m p=some o→Full n leg R o∧∃ q,o=p++q:=by
 intro m
 induction m with
 | zero =>
  intro p o h
  simp only [js] at h
  split at h
  ·cases h
   exact ⟨by assumption,[],by simp⟩
  ·cases h
 | succ m ih =>
  intro p o h
  simp only [js] at h
  obtain ⟨i,hi,h⟩:=List.exists_of_findSome?_eq_some h
  obtain ⟨h1,q,rfl⟩:=ih _ _ h
  exact ⟨h1,[(i:Int)]++q,by simp⟩
theorem qew {m:Nat}{p:List Int}(h:∀ q,¬ Full n leg R (p++q)) : js n leg R m p=none:=by
 cases hb:js n leg R m p with
 | none=>rfl
 | some o =>
  obtain ⟨h1,q,rfl⟩:=qa4 m p o hb
  exact absurd h1 (h q)
theorem qmk:∀ (n:Nat) (l:List Nat),l.Nodup→(∀ x∈l,x<n)→l.length≤n:=by
 intro n
 induction n with
 | zero =>
  intro l _ h
  cases l with
  | nil=>simp
  | cons a r=>exact absurd (h a (by simp)) (by omega)
 | succ n ih =>
  intro l hn h
  have h1:=ih (l.erase n) (hn.erase n) (fun x hx=>by
   rw [hn.mem_erase_iff] at hx
   have:=h x hx.2
   omega)
  rw [List.length_erase] at h1
  split at h1 <;> omega
theorem Full.all {o:List Int}(h:Full n leg R o){j:Int}(h0:0≤j)(h1:j<n) : j∈o:=by
 have hsub:(o.map Int.toNat).Nodup:=by
  rw [List.Nodup,List.pairwise_map]
  exact (List.pairwise_iff_forall_sublist.2 fun {a b} hab=>by
   have hn:a≠b:=List.pairwise_iff_forall_sublist.1 h.2.1 hab
   have ha:=h.2.2.1 a (hab.subset (by simp))
   have hb:=h.2.2.1 b (hab.subset (by simp))
   omega)
 have hall:∀ x∈o.map Int.toNat,x<n:=by
  intro x hx
  obtain ⟨y,hy,rfl⟩:=List.mem_map.1 hx
  have:=h.2.2.1 y hy
  omega
 have hlen:(o.map Int.toNat).length=n:=by rw [List.length_map,h.1]
 have:j.toNat∈o.map Int.toNat:=by
  apply Classical.byContradiction
  intro hno
  have hnd:(j.toNat::o.map Int.toNat).Nodup:=List.nodup_cons.2 ⟨hno,hsub⟩
  have:=qmk n _ hnd (by
   intro x hx
   rcases List.mem_cons.1 hx with rfl | hx
   ·omega
   ·exact hall x hx)
  rw [List.length_cons] at this
  omega
 obtain ⟨y,hy,e⟩:=List.mem_map.1 this
 have:=h.2.2.1 y hy
 have:y=j:=by omega
 exact this▸hy
end

theorem qf9 {l:List Int}(hl:l.length≤1048576)(n:Int) : ud l n=some (decide (n∈l)):=by
 unfold ud
 rw [qbj (p:=fun _ x=>decide (x=n)) (q:=true) (by omega) (fun j x hx=>?_)]
 ·have:(l.zipIdx.any fun c=>decide (c.1=n))=decide (n∈l):=by
   rw [Bool.eq_iff_iff,List.any_eq_true,decide_eq_true_eq]
   constructor
   ·rintro ⟨⟨x,i⟩,hx,e⟩
    rw [decide_eq_true_eq] at e
    simp only at e
    subst e
    rw [List.mem_zipIdx_iff_getElem?] at hx
    exact List.mem_of_getElem? hx
   ·intro h
    obtain ⟨i,hi,rfl⟩:=List.mem_iff_getElem.1 h
    exact ⟨(l[i],i),by rw [List.mem_zipIdx_iff_getElem?]; simp,by simp⟩
  rw [this]
  rcases Bool.eq_false_or_eq_true (decide (n∈l)) with h | h
  ·rw [h]; rfl
  ·rw [h]; rfl
 ·unfold qal
  rcases Bool.eq_false_or_eq_true (decide (x=n)) with h | h
  ·rw [h]; rfl
  ·rw [h]; rfl
def Inl (n:Nat)(p:List Int) : Prop:=∀ x∈p,0≤x∧x<n
def Oks (l:List Call) : Prop:=∀ x∈l,0≤x.Object∧x.Object≤2
theorem qkn {l:List Call}(hl:Oks l){x:Int}(h0:0≤x)(h1:x<l.length){s:List Int}(hs:s.length=3)(i:Nat) :
  yf l i x s=jf l i x s∧((∃ s',s'.length=3∧jf l i x s=some (.nxt s'))∨jf l i x s=some (.ret false)):=by
 obtain ⟨c,hc,hc'⟩:=kr (l:=l) h0 h1
 have ho:=hl c (List.mem_of_getElem? hc')
 obtain ⟨v,hv,hv'⟩:=kr (l:=s) (i:=c.Object) ho.1 (by omega)
 unfold yf jf
 rw [hc]
 simp only [Option.bind_some,hv,qns (show c.Object<3 by omega)]
 refine ⟨by first | trivial | (split <;> rfl),?_⟩
 split
 ·exact .inl ⟨_,by rw [List.length_set]; exact hs,rfl⟩
 ·split
  ·exact .inr rfl
  ·exact .inl ⟨s,hs,rfl⟩
theorem qhw {l:List Call}(hl:Oks l) : ∀ (p:List Int) (i:Nat) (s:List Int),Inl l.length p→s.length=3 →
  zq (fun i x s=>yf l i x s) p i s=zq (fun i x s=>jf l i x s) p i s∧((∃ s',zq (fun i x s=>jf l i x s) p i s=some (.nxt s'))∨zq (fun i x s=>jf l i x s) p i s=some (.ret false)):=by
 intro p
 induction p with
 | nil=>intro i s _ _; exact ⟨rfl,.inl ⟨s,rfl⟩⟩
 | cons x r ih =>
  intro i s hp hs
  have hx:=hp x (by simp)
  obtain ⟨e,h | h⟩:=qkn hl hx.1 hx.2 hs i
  ·obtain ⟨s',hs',h⟩:=h
   simp only [zq,e,h]
   exact ih _ _ (fun y hy=>hp y (by simp [hy])) hs'
  ·simp only [zq,e,h]
   exact ⟨trivial,.inr trivial⟩
def z8 (l:List Call)(p:List Int) : Bool:=decide (jl l p=some true)
theorem mk3:mkN 8 3 (0:Int)=some [0,0,0]:=by decide
theorem qba {l:List Call}(hl:Oks l){p:List Int}(hp:Inl l.length p)(hn:p.length≤1048576) : jl l p=some (z8 l p)∧yy l p=some (z8 l p):=by
 have h:=qhw hl p 0 [0,0,0] hp rfl
 have e1:jl l p=jn (zq (fun i x s=>jf l i x s) p 0 [0,0,0]) (fun _=>some true):=by
  unfold jl
  rw [mk3,Option.bind_some,zk,if_pos (by omega)]
  rfl
 have e2:yy l p=jn (zq (fun i x s=>yf l i x s) p 0 [0,0,0]) (fun _=>some true):=by
  unfold yy
  rw [zk,if_pos (by omega)]
  rfl
 have e3:jl l p=some (z8 l p):=by
  unfold z8
  rw [e1]
  rcases h.2 with ⟨s',h'⟩ | h' <;> rw [h'] <;> rfl
 exact ⟨e3,by rw [e2,h.1,← e1,e3]⟩
theorem qh1 {l:List Call}(hl:Oks l){p q:List Int}(hp:Inl l.length p)(hn:(p++q).length≤1048576)(h:z8 l p=false) : z8 l (p++q)=false:=by
 rw [List.length_append] at hn
 have e1:∀ p:List Int,p.length≤1048576→jl l p=jn (zq (fun i x s=>jf l i x s) p 0 [0,0,0]) (fun _=>some true):=by
  intro p hn
  unfold jl
  rw [mk3,Option.bind_some,zk,if_pos (by omega)]
  rfl
 have h2:=(qhw hl p 0 [0,0,0] hp rfl).2
 unfold z8 at h ⊢
 rw [decide_eq_false_iff_not,e1 _ (by omega)] at h
 rw [decide_eq_false_iff_not,e1 _ (by rw [List.length_append]; omega)]
 rcases h2 with ⟨s',h'⟩ | h'
 ·rw [h'] at h
  exact absurd rfl h
 ·rw [qkk _ q _ _ h']
  intro e
  cases e
def bef (c:Bool)(a b:Call) : Bool:=if c=true then decide (a.Client=b.Client)&&decide (a.Begin<b.Begin) else decide (a.End≤b.Begin)
theorem qe6 (a b:Call)(c:Bool) : wh a b c=some (bef c a b):=by
 unfold wh bef
 split <;> rfl
def rel (l:List Call)(c:Bool)(a b:Int) : Bool:=match l[a.toNat]?,l[b.toNat]? with
 | some x,some y => !(bef c y x)
 | _,_=>false
theorem qiz {l:List Call}{c:Bool}{a b:Int}{x y:Call}(ha:l[a.toNat]? = some x)(hb:l[b.toNat]? = some y) : rel l c a b = !(bef c y x):=by
 unfold rel
 rw [ha,hb]
theorem qle {p:List Int}(hp:p.length≤1048576)(c:Bool)(i:Nat)(x:Call)(j:Nat)(y:Call)(s:Bool) :
  w7 p c i x j y s=some (.nxt (if ((decide (j≠i) && !(decide ((j:Int)∈p)))&&bef c y x)=true then false else s)):=by
 unfold w7
 rw [qf9 hp,qe6]
 by_cases h:j=i
 ·subst h
  simp
 ·have h':(j:Int)≠i:=by omega
  rcases Bool.eq_false_or_eq_true (decide ((j:Int)∈p)) with h1 | h1
  ·simp [h,h',h1]
  ·rcases Bool.eq_false_or_eq_true (bef c y x) with h2 | h2 <;> simp [h,h',h1,h2]
theorem qh0 {n:Nat}{leg:List Int→Bool}{R:Int→Int→Bool}{m:Nat}{p:List Int}{i k:Nat}{w:Option (List Int)}(h:(List.range' i (k+1)).findSome? (fun (i:Nat)=>js n leg R m (p++[(i:Int)]))=w) :
  (∃ o,js n leg R m (p++[(i:Int)])=some o∧w=some o)∨(js n leg R m (p++[(i:Int)])=none∧(List.range' (i+1) k).findSome? (fun (i:Nat)=>js n leg R m (p++[(i:Int)]))=w):=by
 rw [List.range'_succ,List.findSome?_cons] at h
 split at h
 ·rename_i o ho
  exact .inl ⟨o,ho,h.symm⟩
 ·rename_i ho
  exact .inr ⟨ho,h⟩
theorem qwn {l:List Call}(hl:Oks l)(hn:l.length≤1000)(c:Bool) : ∀ (m:Nat) (p:List Int) (k:Nat),p.length+m=l.length→Inl l.length p→p.Nodup→p.Pairwise (fun a b=>rel l c a b=true) →
  (∀ a∈p,∀ j:Nat,j<l.length→(j:Int) ∉ p→rel l c a j=true)→m<k→kn k l p c=some ((js l.length (z8 l) (rel l c) m p).getD []):=by
 intro m
 induction m with
 | zero =>
  intro p k hpn hin hnd hpw hrest hk
  obtain ⟨k,rfl⟩ : ∃ k',k=k'+1:=⟨k - 1,by omega⟩
  simp only [kn,wk]
  rw [(qba hl hin (by omega)).1,Option.bind_some]
  rcases Bool.eq_false_or_eq_true (z8 l p) with h | h
  ·rw [h,if_neg (by simp),if_pos (by simp only [decide_eq_true_eq]; omega)]
   simp only [js]
   rw [if_pos ⟨by omega,hnd,hin,h,hpw⟩]
   rfl
  ·rw [h,if_pos (by simp)]
   simp only [js]
   rw [if_neg (fun hf=>by rw [hf.2.2.2.1] at h; cases h)]
   rfl
 | succ m ih =>
  intro p k hpn hin hnd hpw hrest hk
  obtain ⟨k,rfl⟩ : ∃ k',k=k'+1:=⟨k - 1,by omega⟩
  simp only [kn,wk]
  rw [(qba hl hin (by omega)).1,Option.bind_some]
  rcases Bool.eq_false_or_eq_true (z8 l p) with h | h
  ·rw [h,if_neg (by simp),if_neg (by simp only [decide_eq_true_eq]; omega)]
   have hr:zk (fun i6 x7 _=>xa l p c (kn k) i6 x7) l ()=some (match js l.length (z8 l) (rel l c) (m+1) p with | some o => .ret o | none => .nxt ()):=by
    refine qc8 (by omega) (fun i r s=>i+r.length=l.length∧r=l.drop i∧(List.range' i r.length).findSome? (fun (i:Nat)=>js l.length (z8 l) (rel l c) m (p++[(i:Int)]))=js l.length (z8 l) (rel l c) (m+1) p) ⟨by simp,by simp,rfl⟩ ?_ ?_
    ·rintro i x r s ⟨h1,h2,h3⟩
     simp only [List.length_cons] at h1 h3
     have hi:i<l.length:=by omega
     have hx:l[i]? = some x:=by
      have:(l.drop i)[0]? = some x:=by rw [←h2]; rfl
      simpa using this
     have h2':r=l.drop (i+1):=by rw [←List.drop_drop,← h2]; rfl
     have hst:=qh0 h3
     unfold xa
     rw [qf9 (by omega),Option.bind_some]
     rw [qky (c:=fun j y=>(decide (j≠i) && !(decide ((j:Int)∈p)))&&bef c y x) (by omega) (fun j y s hy=>qle (by omega) c i x j y s)]
     generalize hany:(l.zipIdx.any fun q=>(decide (q.2≠i) && !(decide ((q.2:Int)∈p)))&&bef c q.1 x)=A
     have hA:A=false→∀ j:Nat,j<l.length→j≠i→(j:Int) ∉ p→rel l c i j=true:=by
      intro hA j hj hji hjp
      rw [hA,List.any_eq_false] at hany
      have:=hany (l[j],j) (by rw [List.mem_zipIdx_iff_getElem?]; simp [hj])
      have hjp':decide ((j:Int)∈p)=false:=decide_eq_false hjp
      simp only [hjp',decide_eq_true hji,Bool.not_false,Bool.true_and,Bool.not_eq_true,ne_eq] at this
      rw [qiz (x:=x) (y:=l[j]) (by simpa using hx) (by simp [hj]),this]
      rfl
     have hA':A=true→∃ j:Nat,j<l.length∧j≠i∧(j:Int) ∉ p∧rel l c i j=false:=by
      intro hA
      rw [hA,List.any_eq_true] at hany
      obtain ⟨⟨y,j⟩,hy,hany⟩:=hany
      rw [List.mem_zipIdx_iff_getElem?] at hy
      simp only [Bool.and_eq_true,decide_eq_true_eq,Bool.not_eq_true',decide_eq_false_iff_not] at hany
      refine ⟨j,(List.getElem?_eq_some_iff.1 hy).1,hany.1.1,hany.1.2,?_⟩
      rw [qiz (x:=x) (y:=y) (by simpa using hx) (by simpa using hy),hany.2]
      rfl
     by_cases hc:(i:Int) ∉ p∧A=false
     ·-- a candidate
      have e1:decide ((i:Int)∈p)=false:=decide_eq_false hc.1
      have ein:Inl l.length (p++[(i:Int)]):=by
       intro y hy
       rcases List.mem_append.1 hy with hy | hy
       ·exact hin y hy
       ·rw [List.mem_singleton] at hy
        subst hy
        omega
      have end':(p++[(i:Int)]).Nodup:=by
       rw [List.nodup_append]
       refine ⟨hnd,by simp,?_⟩
       rintro a ha b hb rfl
       rw [List.mem_singleton] at hb
       exact hc.1 (hb▸ha)
      have epw:(p++[(i:Int)]).Pairwise (fun a b=>rel l c a b=true):=by
       rw [List.pairwise_append]
       refine ⟨hpw,by simp,fun a ha b hb=>?_⟩
       rw [List.mem_singleton] at hb
       subst hb
       exact hrest a ha i hi hc.1
      have erest:∀ a∈p++[(i:Int)],∀ j:Nat,j<l.length→(j:Int) ∉ p++[(i:Int)]→rel l c a j=true:=by
       intro a ha j hj hja
       rw [List.mem_append,List.mem_singleton,not_or] at hja
       rcases List.mem_append.1 ha with ha | ha
       ·exact hrest a ha j hj hja.1
       ·rw [List.mem_singleton] at ha
        subst ha
        exact hA hc.2 j hj (by omega) hja.1
      have hrec:=ih (p++[(i:Int)]) k (by simp; omega) ein end' epw erest (by omega)
      have ea:ku 8 ([] : List Int) p=some p:=by
       unfold ku
       rw [if_pos (by simp only [List.length_nil]; omega)]
       rfl
      have eb:ku 8 p [(i:Int)]=some (p++[(i:Int)]):=by
       unfold ku
       rw [if_pos (by simp only [List.length_cons,List.length_nil]; omega)]
      simp only [e1,hc.2,Bool.not_false,Bool.and_self,jn,Option.bind_some,jnO,qbi,Bool.not_true,Bool.false_eq_true,if_false,ea,eb,hrec]
      rcases hst with ⟨o,ho,hw⟩ | ⟨hnone,hw⟩
      ·refine .inr (.inr ⟨o,?_,?_⟩)
       ·rw [ho,Option.getD_some,if_pos]
        have:=(qa4 _ _ _ ho).1.1
        simp only [decide_eq_true_eq]
        omega
       ·rw [hw]
      ·refine .inl ⟨(),?_,by omega,h2',hw⟩
       rw [hnone]
       rfl
     ·-- none: nothing comes of it
      have hno:js l.length (z8 l) (rel l c) m (p++[(i:Int)])=none:=by
       refine qew fun q hf=>?_
       by_cases hip:(i:Int)∈p
       ·have:=hf.2.1
        rw [List.append_assoc,List.nodup_append] at this
        exact this.2.2 _ hip (i:Int) (by simp) rfl
       ·have hAt:A=true:=by
         rcases Bool.eq_false_or_eq_true A with h | h
         ·exact h
         ·exact absurd ⟨hip,h⟩ hc
        obtain ⟨j,hj,hji,hjp,hrel⟩:=hA' hAt
        have hm:=hf.all (j:=(j:Int)) (by omega) (by omega)
        rw [List.append_assoc,List.mem_append,List.mem_append,List.mem_singleton] at hm
        rcases hm with hm | hm | hm
        ·exact hjp hm
        ·omega
        ·have:=hf.2.2.2.2
         rw [List.append_assoc,List.pairwise_append,List.pairwise_append] at this
         have:=this.2.1.2.2 (i:Int) (by simp) j hm
         rw [hrel] at this
         cases this
      rcases hst with ⟨o,ho,hw⟩ | ⟨_,hw⟩
      ·rw [hno] at ho; cases ho
      ·refine .inl ⟨(),?_,by omega,h2',hw⟩
       have e:((!decide ((i:Int)∈p)) && !A)=false:=by
        rcases Bool.eq_false_or_eq_true A with h | h
        ·rw [h]; simp
        ·by_cases hip:(i:Int)∈p
         ·simp [hip]
         ·exact absurd ⟨hip,h⟩ hc
       rw [e]
       rfl
    ·rintro i s ⟨h1,h2,h3⟩
     rw [←h3]
     rfl
   rw [hr]
   cases js l.length (z8 l) (rel l c) (m+1) p <;> rfl
  ·rw [h,if_pos (by simp)]
   rw [qew (fun q hf=>?_)]
   ·rfl
   ·have:=qh1 (q:=q) hl hin (by rw [hf.1]; omega) h
    rw [hf.2.2.2.1] at this
    cases this
theorem Contains_eq {l:List Int}(hl:l.length≤1048576)(v:Int) : yj l v=some (decide (v∈l)):=by
 have h:∃ r,wu l v=some r∧(0≤r↔v∈l):=by
  unfold wu
  by_cases hv:v∈l
  ·have hr:∃ n:Nat,zk (fun i1 x2 _=>jt v i1 x2) l ()=some (.ret (n:Int)):=by
    obtain ⟨i,hi,hiv⟩:=List.mem_iff_getElem.1 hv
    have key:∀ (r:List Int) (j:Nat),v∈r→∃ n:Nat,zq (fun i1 x2 (_:Unit)=>jt v i1 x2) r j ()=some (.ret (n:Int)):=by
     intro r
     induction r with
     | nil=>intro j h; cases h
     | cons x r ih =>
      intro j h
      simp only [zq,jt]
      by_cases hx:v=x
      ·rw [if_pos (by simpa using hx)]
       exact ⟨j,rfl⟩
      ·rw [if_neg (by simpa using hx)]
       rcases List.mem_cons.1 h with h | h
       ·exact absurd h hx
       ·exact ih _ h
    unfold zk
    rw [if_pos (by omega)]
    exact key l 0 hv
   obtain ⟨n,hn⟩:=hr
   rw [hn]
   exact ⟨n,rfl,by simp [hv]⟩
  ·have hr:zk (fun i1 x2 _=>jt v i1 x2) l ()=some (.nxt ()):=by
    refine qc8 (by omega) (fun i r s=>∀ x∈r,x≠v) (fun x hx e=>hv (e▸hx)) ?_ (fun _ _ _=>rfl)
    intro i x r s h
    refine .inl ⟨(),?_,fun y hy=>h y (by simp [hy])⟩
    unfold jt
    rw [if_neg (by simpa using fun e=>h x (by simp) e.symm)]
   rw [hr]
   exact ⟨-1,rfl,by simp [hv]⟩
 obtain ⟨r,h1,h2⟩:=h
 unfold yj
 rw [h1,Option.bind_some]
 congr 1
 rw [decide_eq_decide]
 exact h2
theorem qgs {p:List Int}(hp:p.length≤1048576){may:Int→Int→Option Bool}{R:Int→Int→Bool}(hm:∀ a∈p,∀ b∈p,may a b=some (R a b)) : yv p may=some (decide (p.Pairwise (fun a b=>R a b=true))):=by
 unfold yv
 rw [qbj (p:=fun i x=>(p.take i).zipIdx.any fun q => !R q.1 x) (q:=false) (by omega) (fun i x hx=>?_)]
 ·have e:(p.zipIdx.any fun c=>(p.take c.2).zipIdx.any fun q => !R q.1 c.1) = !decide (p.Pairwise (fun a b=>R a b=true)):=by
   rw [Bool.eq_iff_iff,List.any_eq_true,Bool.not_eq_true',decide_eq_false_iff_not,List.pairwise_iff_getElem]
   constructor
   ·rintro ⟨⟨x,i⟩,hx,hq⟩ hall
    rw [List.mem_zipIdx_iff_getElem?] at hx
    rw [List.any_eq_true] at hq
    obtain ⟨⟨y,j⟩,hy,hq⟩:=hq
    rw [List.mem_zipIdx_iff_getElem?] at hy
    simp only at hx hy hq
    obtain ⟨hi,rfl⟩:=List.getElem?_eq_some_iff.1 hx
    obtain ⟨hj,rfl⟩:=List.getElem?_eq_some_iff.1 hy
    simp only [List.length_take] at hj
    have:=hall j i (by omega) hi (by omega)
    simp only [List.getElem_take,this,Bool.not_true] at hq
    cases hq
   ·intro hno
    simp only [Classical.not_forall] at hno
    obtain ⟨j,i,hj,hi,hji,hR⟩:=hno
    refine ⟨(p[i],i),by rw [List.mem_zipIdx_iff_getElem?]; simp [hi],?_⟩
    rw [List.any_eq_true]
    refine ⟨(p[j],j),by rw [List.mem_zipIdx_iff_getElem?]; simp [hj,hji],?_⟩
    simpa using hR
  rw [e]
  rcases Bool.eq_false_or_eq_true (decide (p.Pairwise (fun a b=>R a b=true))) with h | h
  ·rw [h]; rfl
  ·rw [h]; rfl
 ·have hi:i<p.length:=(List.getElem?_eq_some_iff.1 hx).1
  unfold uy
  rw [qfe (Nat.le_of_lt hi),Option.bind_some]
  rw [qbj (p:=fun _ y => !R y x) (q := .ret false) (by rw [List.length_take]; omega) (fun j y hy=>?_)]
  ·rcases Bool.eq_false_or_eq_true ((p.take i).zipIdx.any fun q => !R q.1 x) with h | h
   ·rw [h]; rfl
   ·rw [h]; rfl
  ·unfold uz
   rw [hm y (List.mem_of_mem_take (List.mem_of_getElem? hy)) x (List.mem_of_getElem? hx),Option.bind_some]
   rcases Bool.eq_false_or_eq_true (R y x) with h | h <;> rw [h] <;> rfl
theorem qh8 {l:List Call}(hl:Oks l)(hn:l.length≤1000){may:Int→Int→Option Bool}{R:Int→Int→Bool}(hm:∀ a b:Int,0≤a→a<l.length→0≤b→b<l.length→may a b=some (R a b)) :
  ∀ (m:Nat) (p:List Int) (k:Nat),p.length+m=l.length→Inl l.length p→p.Nodup→p.Pairwise (fun a b=>R a b=true)→z8 l p=true→m<k →
   kd k p l may=some (match js l.length (z8 l) R m p with | some o=>(o,true) | none=>([],false)):=by
 intro m
 induction m with
 | zero =>
  intro p k hpn hin hnd hpw hleg hk
  obtain ⟨k,rfl⟩ : ∃ k',k=k'+1:=⟨k - 1,by omega⟩
  simp only [kd,yl]
  rw [if_pos (by simp only [decide_eq_true_eq]; omega)]
  simp only [js]
  rw [if_pos ⟨by omega,hnd,hin,hleg,hpw⟩]
 | succ m ih =>
  intro p k hpn hin hnd hpw hleg hk
  obtain ⟨k,rfl⟩ : ∃ k',k=k'+1:=⟨k - 1,by omega⟩
  simp only [kd,yl]
  rw [if_neg (by simp only [decide_eq_true_eq]; omega)]
  have hr:ua (fun i2 _=>yw p l may (kd k) i2) (l.length:Int) ()=some (match js l.length (z8 l) R (m+1) p with | some o => .ret (o,true) | none => .nxt ()):=by
   refine qmj (by omega) (fun i r s=>i+r=l.length∧(List.range' i r).findSome? (fun (i:Nat)=>js l.length (z8 l) R m (p++[(i:Int)]))=js l.length (z8 l) R (m+1) p) ⟨by simp,rfl⟩ ?_ ?_
   ·rintro i r s ⟨h1,h3⟩
    have hi:i<l.length:=by omega
    have hst:=qh0 h3
    have ea:ku 8 ([] : List Int) p=some p:=by
     unfold ku
     rw [if_pos (by simp only [List.length_nil]; omega)]
     rfl
    have eb:ku 8 p [(i:Int)]=some (p++[(i:Int)]):=by
     unfold ku
     rw [if_pos (by simp only [List.length_cons,List.length_nil]; omega)]
    have ein:Inl l.length (p++[(i:Int)]):=by
     intro y hy
     rcases List.mem_append.1 hy with hy | hy
     ·exact hin y hy
     ·rw [List.mem_singleton] at hy
      subst hy
      omega
    have elen:(p++[(i:Int)]).length≤1048576:=by
     rw [List.length_append]
     simp only [List.length_cons,List.length_nil]
     omega
    unfold yw
    rw [ea,Option.bind_some,eb,Option.bind_some,Contains_eq (by omega),Option.bind_some,(qba hl ein elen).2,qgs elen (R:=R) (fun a ha b hb=>hm a b (ein a ha).1 (ein a ha).2 (ein b hb).1 (ein b hb).2)]
    by_cases hc:(i:Int) ∉ p∧z8 l (p++[(i:Int)])=true∧(p++[(i:Int)]).Pairwise (fun a b=>R a b=true)
    ·have end':(p++[(i:Int)]).Nodup:=by
      rw [List.nodup_append]
      refine ⟨hnd,by simp,?_⟩
      rintro a ha b hb rfl
      rw [List.mem_singleton] at hb
      exact hc.1 (hb▸ha)
     have hrec:=ih (p++[(i:Int)]) k (by simp; omega) ein end' hc.2.2 hc.2.1 (by omega)
     rw [decide_eq_false hc.1,hc.2.1,decide_eq_true hc.2.2,hrec]
     simp only [Bool.false_eq_true,if_false,Option.bind_some,Bool.not_true]
     rcases hst with ⟨o,ho,hw⟩ | ⟨hnone,hw⟩
     ·rw [ho,hw]
      exact .inr (.inr ⟨_,rfl,rfl⟩)
     ·rw [hnone]
      exact .inl ⟨(),rfl,by omega,hw⟩
    ·have hno:js l.length (z8 l) R m (p++[(i:Int)])=none:=by
      refine qew fun q hf=>hc ⟨?_,?_,?_⟩
      ·intro hip
       have:=hf.2.1
       rw [List.append_assoc,List.nodup_append] at this
       exact this.2.2 _ hip (i:Int) (by simp) rfl
      ·rcases Bool.eq_false_or_eq_true (z8 l (p++[(i:Int)])) with h | h
       ·exact h
       ·have:=qh1 (q:=q) hl ein (by rw [hf.1]; omega) h
        rw [hf.2.2.2.1] at this
        cases this
      ·exact (List.pairwise_append.1 hf.2.2.2.2).1
     rcases hst with ⟨o,ho,hw⟩ | ⟨_,hw⟩
     ·rw [hno] at ho; cases ho
     ·refine .inl ⟨(),?_,by omega,hw⟩
      by_cases h1:(i:Int)∈p
      ·rw [decide_eq_true h1]; rfl
      ·rw [decide_eq_false h1]
       rcases Bool.eq_false_or_eq_true (z8 l (p++[(i:Int)])) with h2 | h2
       ·rw [h2,decide_eq_false (fun h=>hc ⟨h1,h2,h⟩)]
        rfl
       ·rw [h2]
        rfl
   ·rintro i s ⟨h1,h3⟩
    rw [←h3]
    rfl
  rw [hr]
  cases js l.length (z8 l) R (m+1) p <;> rfl
theorem qks {n:Nat}{leg:List Int→Bool}{R R':Int→Int→Bool}(h:∀ a b:Int,0≤a→a<n→0≤b→b<n→a≠b→R a b=R' a b) : ∀ (m:Nat) (p:List Int),js n leg R m p=js n leg R' m p:=by
 have hF:∀ o,Full n leg R o↔Full n leg R' o:=by
  intro o
  unfold Full
  constructor
  ·rintro ⟨h1,h2,h3,h4,h5⟩
   refine ⟨h1,h2,h3,h4,?_⟩
   refine List.Pairwise.imp_of_mem ?_ (List.Pairwise.and h2 h5)
   intro a b ha hb hab
   rw [←h a b (h3 a ha).1 (h3 a ha).2 (h3 b hb).1 (h3 b hb).2 hab.1]
   exact hab.2
  ·rintro ⟨h1,h2,h3,h4,h5⟩
   refine ⟨h1,h2,h3,h4,?_⟩
   refine List.Pairwise.imp_of_mem ?_ (List.Pairwise.and h2 h5)
   intro a b ha hb hab
   rw [h a b (h3 a ha).1 (h3 a ha).2 (h3 b hb).1 (h3 b hb).2 hab.1]
   exact hab.2
 intro m
 induction m with
 | zero =>
  intro p
  simp only [js,hF]
 | succ m ih =>
  intro p
  simp only [js,ih]
theorem qeb {l:List Call}(h:good l=true) : Oks l:=by
 intro x hx
 have:=qmx h hx
 simp only [ko,qu,Bool.and_eq_true,decide_eq_true_eq] at this
 omega
theorem qhz (l:List Call) : z8 l []=true:=by
 unfold z8 jl
 rw [mk3]
 rfl
theorem qqh {n:Nat}{leg:List Int→Bool}{R:Int→Int→Bool}(hleg:leg []=true) : decide ((((js n leg R n []).getD []).length:Int)=n)=(js n leg R n []).isSome:=by
 cases hb:js n leg R n [] with
 | some o =>
  have:=(qa4 n [] o hb).1.1
  simp [this]
 | none =>
  cases n with
  | zero =>
   simp only [js] at hb
   rw [if_pos ⟨rfl,List.nodup_nil,(fun x hx=>by cases hx),hleg,List.Pairwise.nil⟩] at hb
   cases hb
  | succ n =>
   simp only [Option.getD_none,List.length_nil,Option.isSome_none,decide_eq_false_iff_not]
   omega
end Go.Proofs.Ytddkoiapboeemaa.X
