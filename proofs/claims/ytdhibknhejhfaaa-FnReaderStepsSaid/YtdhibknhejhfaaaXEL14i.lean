/- FnReaderSteps: all shares together are all parts, and who is left behind commits nothing. -/
import Derived.Test.YtdhibknhejhfaaaXEL14h
set_option linter.unusedVariables false
set_option linter.unusedSimpArgs false
namespace Go.Proofs.Ytdhibknhejhfaaa.X
open Go

/-! all shares -/
def qab (l:List Reader)(n:Nat) : Nat→List Int
 | 0=>[]
 | i+1=>qab l n i++(match l[i]? with | some x=>if x.In=true then jv l n i else [] | none=>[])
theorem qlm {l:List Reader}{n:Nat}{z:Int} : ∀ {i:Nat},z∈qab l n i→∃ (k:Nat) (x:Reader),k<i∧l[k]? = some x∧x.In=true∧z∈jv l n k:=by
 intro i
 induction i with
 | zero=>intro h; simp [qab] at h
 | succ i ih =>
  intro h
  simp only [qab,List.mem_append] at h
  rcases h with h | h
  ·obtain ⟨k,x,h1,h2⟩:=ih h
   exact ⟨k,x,by omega,h2⟩
  ·cases hx:l[i]? with
   | none=>rw [hx] at h; simp at h
   | some x =>
    rw [hx] at h
    dsimp only at h
    split at h
    ·rename_i hin
     exact ⟨i,x,by omega,hx,hin,h⟩
    ·simp at h
theorem q2r {l:List Reader}{n:Nat}{z:Int}{k:Nat}{x:Reader} : ∀ {i:Nat},k<i→l[k]? = some x→x.In=true→z∈jv l n k→z∈qab l n i:=by
 intro i
 induction i with
 | zero=>intro h; omega
 | succ i ih =>
  intro h hx hin hz
  simp only [qab,List.mem_append]
  by_cases e:k=i
  ·subst e
   right
   rw [hx]
   simp only [if_pos hin]
   exact hz
  ·exact .inl (ih (by omega) hx hin hz)
theorem qmt {l:List Reader}{n k:Nat} : (jv l n k).Nodup:=by
 have h:(jv l n k).Pairwise (· < ·):=qh1
 exact h.imp (fun hab=>by omega)
theorem qjm {l:List Reader}{n:Nat} : ∀ {i:Nat},(qab l n i).Nodup:=by
 intro i
 induction i with
 | zero=>simp [qab]
 | succ i ih =>
  simp only [qab]
  rw [List.nodup_append]
  refine ⟨ih,?_,fun a ha b hb e=>?_⟩
  ·cases hx:l[i]? with
   | none=>simp
   | some x =>
    dsimp only
    split
    ·exact qmt
    ·simp
  ·subst e
   cases hx:l[i]? with
   | none=>rw [hx] at hb; simp at hb
   | some x =>
    rw [hx] at hb
    dsimp only at hb
    split at hb
    ·rename_i hin
     obtain ⟨k,y,h1,h2,h3,h4⟩:=qlm ha
     have:=qjq h2 hx h3 hin h4 hb
     omega
    ·simp at hb
theorem qty:∀ {l:List Reader} {j:Nat},j<z3 l→∃ (k:Nat) (x:Reader),l[k]? = some x∧x.In=true∧z3 (l.take k)=j:=by
 intro l
 induction l with
 | nil=>intro j h; simp [z3] at h
 | cons a r ih =>
  intro j h
  simp only [z3] at h
  cases hin:a.In with
  | true =>
   simp only [hin,if_true] at h
   cases j with
   | zero=>exact ⟨0,a,rfl,hin,rfl⟩
   | succ j =>
    obtain ⟨k,x,h1,h2,h3⟩:=ih (j:=j) (by omega)
    exact ⟨k+1,x,by simpa using h1,h2,by simp only [List.take_succ_cons,z3,hin,if_true,h3]; omega⟩
  | false =>
   simp only [hin,Bool.false_eq_true,if_false] at h
   obtain ⟨k,x,h1,h2,h3⟩:=ih (j:=j) (by omega)
   exact ⟨k+1,x,by simpa using h1,h2,by simp only [List.take_succ_cons,z3,hin,Bool.false_eq_true,if_false,h3]; omega⟩
theorem qtm {l:List Reader}{n:Nat}(hm:0<z3 l) : (qab l n l.length).length=n:=by
 let R:List Int:=(List.range n).map (fun (i:Nat)=>(i:Int))
 have hR:R.Nodup:=List.pairwise_map.2 (List.nodup_range.imp (fun h e=>h (Int.ofNat.inj e)))
 have hp:(qab l n l.length).Perm R:=by
  rw [List.perm_iff_count]
  intro a
  rw [qjm.count,hR.count]
  have:a∈qab l n l.length↔a∈R:=by
   constructor
   ·intro h
    obtain ⟨k,x,h1,h2,h3,h4⟩:=qlm h
    have:=qe9 h4
    simp only [R,List.mem_map,List.mem_range]
    exact ⟨a.toNat,by omega,by omega⟩
   ·intro h
    simp only [R,List.mem_map,List.mem_range] at h
    obtain ⟨q,hq,rfl⟩:=h
    have hlt:=Nat.mod_lt q hm
    obtain ⟨k,x,h1,h2,h3⟩:=qty hlt
    refine q2r (List.getElem?_eq_some_iff.1 h1).1 h1 h2 (qey.2 ⟨q,rfl,hq,hm,?_⟩)
    rw [h3]
    exact (Int.ofNat_tmod q (z3 l)).symm
  simp only [this]
 rw [hp.length_eq]
 simp [R]

/-! the program's share of a reader -/
theorem qiw {r:Readers_}(h:grP r)(hn:r.nn≤1048576){k:Nat}{x:Reader}(hx:r.Readers[k]? = some x) : Ev (fun _=>xl r (k:Int)) (if x.In=true then jv r.Readers r.Ends.length k else [],x.In):=by
 obtain ⟨b,e,hb⟩:=y8 hn
 have hbt:b=true:=hb.2 h
 subst hbt
 obtain ⟨n1,n2,n3,n4⟩:=qdq hn
 have hk:=(List.getElem?_eq_some_iff.1 hx).1
 unfold xl
 refine Ev.bind e ?_
 have hw:IntKind.wrap .i64 ((List.length r.Readers:Int) - 1)=(List.length r.Readers:Int) - 1:=yg (by omega) (by omega)
 have hc:((!true)||(!(zq (k:Int) 0 (IntKind.wrap .i64 ((List.length r.Readers:Int) - 1)))))=false:=by
  rw [hw]
  simp only [zq,Bool.or_eq_false_iff,Bool.not_eq_false',Bool.and_eq_true,decide_eq_true_eq]
  exact ⟨trivial,by omega,by omega⟩
 refine Ev.bind (Ev.iteF hc (Ev.bindp (yw hx) Ev.rfl)) ?_
 cases hin:x.In with
 | false=>exact Ev.iteT rfl Ev.rfl
 | true=>exact Ev.iteF rfl (Ev.bind (qgy n1 n3 hk (qfd hx hin)) Ev.rfl)
theorem ql8 {r:Readers_}(hn:r.nn≤1048576){k:Int}(hk0:0≤k) : ∃ v:List Int × Bool,Ev (fun _=>xl r k) v∧Ev (fun _=>qbh r k) v∧v.1.length≤1048576:=by
 obtain ⟨b,e1,hb⟩:=y9 hn
 obtain ⟨b',e0,e2⟩:=(y9 hn).two (y8 hn)
 have:=e1.two e0
 subst this
 obtain ⟨n1,n2,n3,n4⟩:=qdq hn
 have hw:IntKind.wrap .i64 ((List.length r.Readers:Int) - 1)=(List.length r.Readers:Int) - 1:=yg (by omega) (by omega)
 by_cases hc:b=true∧k<r.Readers.length
 ·obtain ⟨rfl,hlt⟩:=hc
  have hg:=hb.1 rfl
  obtain ⟨x,hx⟩:=y6 (l:=r.Readers) (i:=k.toNat) (by omega)
  have hkn:k=((k.toNat:Nat) : Int):=by omega
  have h1:=qiw hg hn hx
  rw [←hkn] at h1
  refine ⟨_,h1,?_,?_⟩
  ·unfold qbh
   have hx2:zz r.Readers k=some x:=by rw [hkn]; exact yw hx
   refine Ev.bind e1 (Ev.bind (Ev.iteF (by simp; omega) (Ev.bindp hx2 Ev.rfl)) ?_)
   cases hin:x.In with
   | false=>exact Ev.iteT rfl Ev.rfl
   | true =>
    have:=qg9 (r:=r) (k:=k.toNat) n1 n3 (by omega)
    rw [←hkn] at this
    exact Ev.iteF rfl (Ev.bind this Ev.rfl)
  ·dsimp only
   split
   ·exact Nat.le_trans qe8 n3
   ·simp
 ·refine ⟨([],false),?_,?_,by decide⟩
  ·unfold xl
   refine Ev.bind e2 (Ev.bind (a:=true) (Ev.iteT ?_ Ev.rfl) (Ev.iteT rfl Ev.rfl))
   rw [hw]
   cases b with
   | false=>rfl
   | true=>simp [zq] at hc ⊢; omega
  ·unfold qbh
   refine Ev.bind e1 (Ev.bind (a:=true) (Ev.iteT ?_ Ev.rfl) (Ev.iteT rfl Ev.rfl))
   cases b with
   | false=>rfl
   | true=>simp at hc ⊢; omega
theorem qpd {r:Readers_}(hn:r.nn≤1048576)(p:Int) : ∃ v:Int × Bool,Ev (fun _=>wq r p) v∧Ev (fun _=>xn r p) v:=by
 obtain ⟨b,e1,hb⟩:=y9 hn
 obtain ⟨b',e0,e2⟩:=(y9 hn).two (y8 hn)
 have:=e1.two e0
 subst this
 obtain ⟨n1,n2,n3,n4⟩:=qdq hn
 cases b with
 | false =>
  refine ⟨(0,false),?_,?_⟩
  ·unfold wq; exact Ev.bind e2 (Ev.iteT rfl Ev.rfl)
  ·unfold xn; exact Ev.bind e1 (Ev.iteT rfl Ev.rfl)
 | true =>
  have hg:=hb.1 rfl
  by_cases hp:0≤p∧p<r.Ends.length
  ·have sF:=ur (B:=fun _ i29 x30 _=>x4 r p i29 x30) (Q:=fun _ x=>Owns r p x) (f:=fun i=>((i:Int),true)) (l:=r.Readers) (by omega) (fun i x hx=>by
    unfold x4
    have:=n4 i x hx
    obtain ⟨c,ec,hc⟩:=Is.andc (b:=(x.In&&(decide (x.Generation=r.Generation)))) (P:=x.In=true∧x.Generation=r.Generation) (by simp) (qg6 (l:=x.Share) (v:=p) (by omega))
    refine ⟨c,Ev.bind ec ?_,hc⟩
    cases c <;> exact Ev.rfl)
   have hsp:∀ {v:Int × Bool},Ev (fun _=>jn (jl (fun i29 x30 _=>x4 r p i29 x30) r.Readers ()) (fun _=>qdk)) v→Ev (fun _=>xn r p) v:=fun h=>by
    unfold xn
    exact Ev.bind e1 (Ev.iteF (by simp; omega) h)
   rcases qlk hg hn p with ⟨j,y,g1,g2,g3⟩ | ⟨g1,g2⟩
   ·rcases sF with ⟨i,x,h1,h2,h3,h4⟩ | ⟨h1,h2⟩
    ·have:=qtb hg g1 h1 g2 h2
     subst this
     exact ⟨_,g3,hsp (Ev.jn_ret h4)⟩
    ·exact absurd g2 (h1 j y g1)
   ·rcases sF with ⟨i,x,h1,h2,h3,h4⟩ | ⟨h1,h2⟩
    ·exact absurd h2 (g1 i x h1)
    ·exact ⟨_,g2,hsp (Ev.jn h2 Ev.rfl)⟩
  ·refine ⟨(0,false),?_,?_⟩
   ·rcases qlk hg hn p with ⟨j,y,g1,g2,g3⟩ | ⟨g1,g2⟩
    ·exact absurd (qg3 (hg.2.2 j y g1).2.1 p g2.2) hp
    ·exact g2
   ·unfold xn
    exact Ev.bind e1 (Ev.iteT (by simp; omega) Ev.rfl)
theorem qtx {r:Readers_}(hn:r.nn≤1048576) : ∃ v:Int × Bool,Ev (fun _=>yy r) v∧Ev (fun _=>uc r) v:=by
 obtain ⟨b,e1,hb⟩:=y9 hn
 obtain ⟨b',e0,e2⟩:=(y9 hn).two (y8 hn)
 have:=e1.two e0
 subst this
 cases b with
 | false =>
  refine ⟨(0,false),?_,?_⟩
  ·unfold yy; exact Ev.bind e2 (Ev.iteT rfl Ev.rfl)
  ·unfold uc; exact Ev.bind e1 (Ev.iteT rfl Ev.rfl)
 | true =>
  have h:=q3c (hb.1 rfl) hn
  refine ⟨_,h,?_⟩
  obtain ⟨K1,e1⟩:=e1
  obtain ⟨K2,e2⟩:=e2
  obtain ⟨K,h⟩:=h
  refine ⟨max K (max K1 K2),fun k hk=>?_⟩
  have h:=h k (by omega)
  have e1:=e1 k (by omega)
  have e2:=e2 k (by omega)
  simp only at h e1 e2
  unfold yy at h
  unfold uc
  rw [e2] at h
  simp only [e1]
  exact h
theorem qtu {r:Readers_}{x:GroupStep}(hn:r.nn≤1048576)(hK:inI x.K) : ∃ (a:Readers_) (ok:Bool),Ev (fun _=>u2 r x) (a,ok)∧Ev (fun _=>qad r x) (a,ok)∧a.nn≤1048576∧(ok=true→StepRel r x true a∧grP a):=by
 obtain ⟨b,e1,hb⟩:=y9 hn
 obtain ⟨b',e0,e2⟩:=(y9 hn).two (y8 hn)
 have:=e1.two e0
 subst this
 unfold qad u2
 cases b with
 | false=>exact ⟨⟨0,[],[],[]⟩,false,Ev.bind e2 (Ev.iteT rfl Ev.rfl),Ev.bind e1 (Ev.iteT rfl Ev.rfl),by decide,fun h=>by cases h⟩
 | true =>
  have hg:=hb.1 rfl
  obtain ⟨c,r',f1,⟨s,f2,hs⟩,hf,h',hrel⟩:=qng (x:=x) (qra hg) hK
  cases c with
  | false=>exact ⟨⟨0,[],[],[]⟩,false,Ev.bind e2 (Ev.iteF rfl (Ev.bind (qlr hn) (Ev.bind f1 (Ev.iteT rfl Ev.rfl)))),Ev.bind e1 (Ev.iteF rfl (Ev.bind (qf0 hn) (Ev.bind f2 (Ev.iteT rfl Ev.rfl)))),by decide,fun h=>by cases h⟩
  | true =>
   have:=hs rfl
   subst this
   exact ⟨s,true,Ev.bind e2 (Ev.iteF rfl (Ev.bind (qlr hn) (Ev.bind f1 (Ev.iteF rfl Ev.rfl)))),Ev.bind e1 (Ev.iteF rfl (Ev.bind (qf0 hn) (Ev.bind f2 (Ev.iteF rfl (Ev.bind (qf0 (Nat.le_trans h'.nn_le (by omega))) Ev.rfl))))),Nat.le_trans h'.nn_le (by omega),fun _=>⟨hrel,ql7 hg hrel h'⟩⟩
theorem qp7 {s:List Int} : ∀ {q:List Int} {i:Nat},(s++q).Nodup→s.length+q.length≤1000→Ev (fun _=>wj (fun i267 x268 s321=>ym i267 x268 s321) q i s) (.nxt (s++q)):=by
 intro q
 induction q generalizing s with
 | nil=>intro i _ _; rw [List.append_nil]; exact Ev.rfl
 | cons z q ih =>
  intro i hn hl
  simp only [List.length_cons] at hl
  have hz:z ∉ s:=by
   rw [List.nodup_append] at hn
   exact fun h=>hn.2.2 z h z (by simp) rfl
  obtain ⟨b,⟨K,eb⟩,hb⟩:=qm5 (l:=s) (v:=z) (by omega)
  have hbf:b=false:=by
   cases b with
   | false=>rfl
   | true=>exact absurd (hb.1 rfl) hz
  subst hbf
  have eb:=eb K (Nat.le_refl _)
  simp only at eb
  have:=ih (s:=s++[z]) (i:=i+1) (by rw [List.append_assoc]; exact hn) (by simp; omega)
  rw [List.append_assoc] at this
  refine Ev.eqv this (fun k=>?_)
  have e:ym i z s=some (.nxt (s++[z])):=by
   unfold ym
   rw [eb,Option.bind_some,if_neg (by decide),qkn (by omega),Option.bind_some]
  simp only [wj,e]
theorem qtv {a:Readers_}{ok:Bool}(hn:a.nn≤1048576)(hg:grP a) : Ev (fun _=>yk (fun i189 (s339:List Int × List Reader)=>we (a,ok) i189 s339.1 s339.2) (List.length a.Readers:Int) ([],a.Readers)) (.nxt (qab a.Readers a.Ends.length a.Readers.length,a.Readers)):=by
 obtain ⟨n1,n2,n3,n4⟩:=qdq hn
 have hr5:=hg.1.1
 have he6:=hg.1.2.1
 have hlen:∀ i,i≤a.Readers.length→(qab a.Readers a.Ends.length i).length≤6*i:=by
  intro i
  induction i with
  | zero=>intro _; simp [qab]
  | succ i ih =>
   intro hi
   have:=ih (by omega)
   simp only [qab,List.length_append]
   have h2:=qe8 (l:=a.Readers) (n:=a.Ends.length) (k:=i)
   cases hx:a.Readers[i]? with
   | none=>simp; omega
   | some x =>
    dsimp only
    split
    ·omega
    ·simp; omega
 simp only [qdb]
 refine wv (by simp; omega) (fun i q s=>i+q.length=a.Readers.length∧s=(qab a.Readers a.Ends.length i,a.Readers)) ⟨by simp,rfl⟩ (fun i x q s ⟨h1,hs⟩ => .inl ?_) (fun i s ⟨h1,hs⟩=>by rw [hs]; simp at h1; rw [h1])
 subst hs
 simp only [List.length_cons] at h1
 obtain ⟨x,hx⟩:=y6 (l:=a.Readers) (i:=i) (by omega)
 refine ⟨(qab a.Readers a.Ends.length (i+1),a.Readers),?_,by omega,rfl⟩
 unfold we
 refine Ev.bindp (yw hx) (Ev.bind (qiw hg hn hx) (Ev.iteF (by simp) ?_))
 have hl2:=hlen (i+1) (by omega)
 have hnd:=qjm (l:=a.Readers) (n:=a.Ends.length) (i:=i+1)
 have e:qab a.Readers a.Ends.length (i+1)=qab a.Readers a.Ends.length i++(if x.In=true then jv a.Readers a.Ends.length i else []):=by
  simp only [qab,hx]
 rw [e] at hl2 hnd ⊢
 rw [List.length_append] at hl2
 refine Ev.jn (s:=qab a.Readers a.Ends.length i++(if x.In=true then jv a.Readers a.Ends.length i else [])) ?_ (by unfold qbd; exact Ev.rfl)
 unfold jl
 simp only [if_pos (show (if x.In=true then jv a.Readers a.Ends.length i else []).length≤4611686018427387904 by omega)]
 exact qp7 hnd (by omega)
theorem qtc {l:List Reader}(hl:l.length≤1048576) : ∃ b,Ev (fun _=>yk (fun i363 (s434:Bool × List Reader)=>wd i363 s434.1 s434.2) (List.length l:Int) (false,l)) (.nxt (b,l))∧(b=true→0<z3 l):=by
 refine ⟨l.any (·.In),?_,fun h=>?_⟩
 ·simp only [qdb]
  refine wv (by simp; omega) (fun i q s=>i+q.length=l.length∧s=((l.take i).any (·.In),l)) ⟨by simp,rfl⟩ (fun i x q s ⟨h1,hs⟩ => .inl ?_) (fun i s ⟨h1,hs⟩=>by rw [hs]; simp at h1; rw [h1,List.take_length])
  subst hs
  simp only [List.length_cons] at h1
  obtain ⟨x,hx⟩:=y6 (l:=l) (i:=i) (by omega)
  refine ⟨((l.take (i+1)).any (·.In),l),?_,by omega,rfl⟩
  unfold wd
  refine Ev.bindp (yw hx) ?_
  rw [List.take_add_one,hx,List.any_append]
  simp only [Option.toList_some,List.any_cons,List.any_nil,Bool.or_false]
  exact Ev.rfl
 ·obtain ⟨x,hx,hin⟩:=List.any_eq_true.1 h
  obtain ⟨i,hi⟩:=List.getElem?_of_mem hx
  exact qfd hi hin
theorem q2o {m:List Int}(hb:Bytes m) : Ev (fun k=>ud k m) true:=by
 unfold ud
 obtain ⟨c,k,d1,hc,hk⟩:=DrawShare_ok hb
 obtain ⟨v,s1,s2,s3⟩:=ql8 hc.nn_le hk
 obtain ⟨d,p,d2,hd⟩:=DrawOwner_ok hb
 obtain ⟨w,o1,o2⟩:=qpd hd.nn_le p
 obtain ⟨e,d3,he⟩:=DrawLeft_ok hb
 obtain ⟨u,l1,l2⟩:=qtx he.nn_le
 obtain ⟨n,E,d4,hE⟩:=DrawNew_ok hb
 obtain ⟨z,n1,n2,_,hz,_⟩:=qml n E (by omega)
 refine Ev.bind d1 (Ev.bind s1 (Ev.bind s2 (Ev.bind d2 (Ev.bind o1 (Ev.bind o2 (Ev.bind d3 (Ev.bind l1 (Ev.bind l2 (Ev.bind d4 ?_)))))))))
 refine Ev.bind (by unfold qb4; exact Ev.bind n2 Ev.rfl) (Ev.bind n1 ?_)
 refine Ev.bind (a:=true) (Ev.iteT (by simp) (Ev.bind (qbu (by omega)) Ev.rfl)) ?_
 exact Ev.bind (a:=true) (Ev.iteT (by simp) (Ev.bind (qfy (Nat.le_trans hz (by omega))) Ev.rfl)) Ev.rfl
theorem FnReaderSteps_pure (v_0:List Int)(w0:wfL 1 qkb v_0)(v_1:List Int)(w1:wfL 1 qkb v_1) : ∃ k,xu k v_0 v_1=some true:=by
 suffices h:Ev (fun k=>xu k v_0 v_1) true by
  obtain ⟨K,h⟩:=h
  exact ⟨K,h K (Nat.le_refl _)⟩
 unfold xu
 by_cases hbig:(1048576:Int)<IntKind.wrap .i64 ((List.length v_0:Int)+(List.length v_1:Int))
 ·exact Ev.iteT (by simpa using hbig) Ev.rfl
 refine Ev.iteF (by simpa using hbig) ?_
 obtain ⟨r,x,hdr,hr,hx⟩:=DrawStep_ok (code:=v_0) (fun x hx=>w0.2 x hx)
 have hn:=hr.nn_le
 obtain ⟨a,ok,s1,s2,han,hok⟩:=qtu (x:=x) hn ⟨by unfold DrawnS at hx; omega,by unfold DrawnS at hx; omega⟩
 obtain ⟨b,g1,g2⟩:=(y8 hn).two (y9 hn)
 refine Ev.bind hdr (Ev.bind s1 (Ev.bind s2 (Ev.iteF (by simp) (Ev.bind (qfy han) (Ev.iteF rfl ?_)))))
 unfold u7
 refine Ev.bind (Ev.bind g1 Ev.rfl) (Ev.bind g2 (Ev.iteF (by simp) (Ev.jn (s:=()) ?_ (q2o (fun x hx=>w1.2 x hx)))))
 cases ok with
 | false=>exact Ev.iteF rfl Ev.rfl
 | true =>
  obtain ⟨hrel,hga⟩:=hok rfl
  obtain ⟨n1,n2,n3,n4⟩:=qdq han
  obtain ⟨c,e2,hc⟩:=y8 han
  have hct:c=true:=hc.2 hga
  subst hct
  obtain ⟨q,e3,hq⟩:=qi3 (a:=a.Committed) (b:=r.Committed) (by omega)
  refine Ev.iteT rfl (Ev.bind (Ev.bind e2 Ev.rfl) (Ev.iteF rfl (Ev.bind e3 (Ev.bind (a:=false) ?_ (Ev.iteF rfl ?_)))))
  ·cases q with
   | true=>exact Ev.iteF rfl Ev.rfl
   | false =>
    have hne:¬ a.Committed=r.Committed:=fun h=>Bool.false_ne_true (hq.2 h)
    refine Ev.iteT rfl (Ev.bind (a:=false) ?_ Ev.rfl)
    cases hrel with
    | turn b=>exact absurd rfl hne
    | sync y hy hin=>exact absurd rfl hne
    | read y v hy hp=>exact absurd rfl hne
    | commit y m v hk hy h5 hg hm hv =>
     refine Ev.iteF (by simp [h5]) (Ev.bindp (show zz r.Readers x.K=some y by unfold zz; rw [if_pos hk]; exact hy) ?_)
     exact Ev.of (by simp [hg])
  ·refine Ev.jn (s:=(qab a.Readers a.Ends.length a.Readers.length,a.Readers)) (qtv han hga) ?_
   unfold qbj
   obtain ⟨w,f1,f2⟩:=qtc (l:=a.Readers) n1
   refine Ev.jn f1 ?_
   unfold qbf
   refine Ev.iteF ?_ Ev.rfl
   cases w with
   | false=>rfl
   | true=>simp [qtm (f2 rfl)]
end Go.Proofs.Ytdhibknhejhfaaa.X
