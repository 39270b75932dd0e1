/- FnCommands: true at every draw. -/
import Derived.Test.YtjloihcijdcpeaaXEL12g
import Derived.Test.YtjloihcijdcpeaaXEL12d
open Bool renaming and_eq_false_iff→a1m,or_eq_true→a0q
open Go.Proofs.Ytjloihcijdcpeaa.X.Ev renaming bindp→n8,bind→g9,iteF→g8,iteT→m9,jn→a2a,rfl→l8
open Int renaming le_refl→a2e
open Go.IntKind renaming wrap→d8
open List renaming getElem?_eq_some_iff→d9,length_cons→a0a,length→b6,mem_of_getElem?→i8
open Option renaming bind_some→n9
set_option linter.unusedVariables false
set_option linter.unusedSimpArgs false
namespace Go.Proofs.Ytjloihcijdcpeaa.X
open Go

theorem q8n {l:List Command}(h1:l.length≤81)(h2:∀ x∈l,x.InStep.length≤6) : nnL Command.nn l≤1048576:=by
 have h3:nnL Command.nn l=l.length+qdw Command.nn l:=rfl
 have h4:qdw Command.nn l≤l.length*6:=qio (fun x hx=>h2 x hx)
 have h5:l.length*6≤81*6:=Nat.mul_le_mul_right _ h1
 omega
theorem zao:Ev (fun k=>j7 k 2) (ub 2,true):=by
 rcases ql6 (n:=2) with ⟨m,e,_,h2⟩ | ⟨h,_⟩
 ·have:m=2:=by omega
  subst this
  exact h2
 ·exact absurd ⟨by omega,by omega⟩ h
theorem q9r {v_0:Int}{v_1:List Command}(b0:nnL Command.nn v_1≤1048576) : (∃ n:Nat,v_0=n∧1≤n∧n≤6∧qgy n v_1∧Ev (fun k=>yy k v_0 v_1) ((qfe (ub n) v_1 []).1,(qfe (ub n) v_1 []).2,true))∨Ev (fun k=>yy k v_0 v_1) (qfy,[],false):=by
 have hxl:∀ x∈v_1,x.InStep.length≤1048576:=fun x hx=>by
  obtain ⟨i,hi⟩:=List.getElem?_of_mem hx
  have:=qox (f:=Command.nn) hi
  have h2:x.nn=x.InStep.length+0:=rfl
  omega
 have app8:∀ {d:List Int} {v:Int},d.length≤80→kg 8 d [v]=some (d++[v]):=fun h=>by
  unfold kg
  rw [if_pos (by simp only [a0a,List.length_nil]; omega)]
 unfold yy
 rcases ql6 (n:=v_0) with ⟨m,rfl,⟨h1,h2⟩,e⟩ | ⟨hn,e⟩
 ·obtain ⟨hg,hgn⟩:=qf1 h1 h2
  by_cases hl:v_1.length≤80
  ·have ls:=quj (B:=fun i x d c=>ud i x d c) (n:=m) (l:=v_1) (c0:=ub m) hl hg hgn (fun i x d c hx hc hcn hd=>by
    unfold ud
    refine ⟨fun hcx=>?_,fun hcx=>?_⟩
    ·have hdo:=qna hc (x:=x) (by rw [hcn]; exact hcx)
     exact g9 hdo (g8 rfl (n8 (app8 hd) l8))
    ·exact g9 (qlc hc.nn (hxl x hx) (by rw [hcn]; exact fun h=>hcx h.2)) (m9 rfl l8))
   rcases ls with ⟨a,e1⟩ | ⟨a,e1⟩
   ·exact .inl ⟨m,rfl,h1,h2,a,g9 e (g8 (by simp; omega) (a2a e1 l8))⟩
   ·exact .inr (g9 e (g8 (by simp; omega) (Ev.jn_ret e1)))
  ·exact .inr (g9 e (m9 (by simp; omega) l8))
 ·exact .inr (g9 e (m9 rfl l8))
theorem qm6 {n:Int}{l:List Command}(h1:l.length≤81)(h2:∀ x∈l,x.InStep.length≤6) : ∃ r v,Ev (fun k=>yy k n l) r∧Ev (fun k=>if (!r.2.2)=true then ((j7 k 2).bind fun v65=>(some v65.1)) else (some r.1)) v∧OkC v:=by
 rcases q9r (v_0:=n) (v_1:=l) (q8n h1 h2) with ⟨m,rfl,g1,g2,ho,e1⟩ | e1
 ·obtain ⟨hg,hgn⟩:=qf1 g1 g2
  have hr:=qwp (l:=l) (d:=[]) hg (by rw [hgn]; exact ho)
  exact ⟨_,_,e1,g8 rfl l8,hr.1.okC⟩
 ·exact ⟨_,_,e1,m9 rfl (g9 zao l8),(qf1 (n:=2) (by decide) (by decide)).1.okC⟩
theorem OkC.parts {v:Control}(h:OkC v){l:List Partition}{n:Int}(h1:l.length≤5)(h2:∀ p∈l,p.Homes.length≤6∧p.InStep.length≤6) : OkC ⟨v.Brokers,l,n⟩:=⟨h.1,h1,h2⟩
theorem qom {v5:Int × (List Command) × L1Cur}{v:Control}{t:Nat}(hv:OkC v)(hc:Cur t v5.2.2)(ht:t≤800000) : ∃ v' c',qc2 v5 v=some (v',c')∧OkC v'∧Cur (t+10) c':=by
 obtain ⟨w,c1,h1,hc1,_⟩:=wy hc (by omega) 30 (by omega)
 unfold qc2
 rw [h1,n9]
 by_cases w0:w=0
 ·obtain ⟨a,c2,h2,_,hc2⟩:=qkb hc1 (by omega) [0,1,1000,1001] (by decide) (by decide)
  rw [if_pos (by simpa using w0),h2,n9]
  exact ⟨_,_,rfl,hv,hc2.le (by omega)⟩
 rw [if_neg (by simpa using w0)]
 by_cases w1:w=1
 ·have hn:=hv.1
  obtain ⟨b,hb,_⟩:=qgv (l:=v.Brokers) (i:=0) (by omega) (by omega)
  rw [if_pos (by simpa using w1),hb,n9]
  exact ⟨_,_,rfl,⟨by simpa using hv.1,hv.2⟩,hc1.le (by omega)⟩
 rw [if_neg (by simpa using w1)]
 by_cases hp:0<v.Parts.length
 ·obtain ⟨p,hg,hm⟩:=qgv (l:=v.Parts) (i:=0) (by omega) (by omega)
  have hpm:=hv.2.2 p (i8 hm)
  have hset:∀ (q:Partition) (n:Int),q.Homes.length≤6∧q.InStep.length≤6→OkC ⟨v.Brokers,v.Parts.set (0:Int).toNat q,n⟩:=fun q n hq=>hv.parts (by simpa using hv.2.1) (fun x hx=>by
   rcases qh3 hx with rfl | hx
   ·exact hq
   ·exact hv.2.2 x hx)
  by_cases w2:w=2
  ·obtain ⟨a,c2,h2,hc2,_⟩:=wy hc1 (by omega) 5 (by omega)
   rw [if_pos (by simpa using w2),if_pos (by simpa using hp),h2,n9,hg,n9]
   exact ⟨_,_,rfl,hset _ _ hpm,hc2.le (by omega)⟩
  rw [if_neg (by simpa using w2)]
  by_cases w3:w=3
  ·obtain ⟨a,c2,h2,_,hc2⟩:=qkb hc1 (by omega) [1000,1001] (by decide) (by decide)
   rw [if_pos (by simpa using w3),if_pos (by simpa using hp),h2,n9,hg,n9]
   exact ⟨_,_,rfl,hset _ _ hpm,hc2.le (by omega)⟩
  rw [if_neg (by simpa using w3)]
  exact ⟨_,_,rfl,hv,hc1.le (by omega)⟩
 ·have hp2:¬ (decide ((0:Int)<(b6 v.Parts:Int)))=true:=by simpa using hp
  refine ⟨v,c1,?_,hv,hc1.le (by omega)⟩
  rw [if_neg hp2,if_neg hp2]
  split
  ·rfl
  ·split <;> rfl
theorem qip {c:L1Cur}{t:Nat}(hc:Cur t c)(ht:t≤1000) : ∃ v c',Ev (fun k=>qa7 k c) (v,c')∧OkC v∧Cur (t+10010) c':=by
 obtain ⟨n,l,c1,e,h1,h2,hc1⟩:=qn6 hc ht
 unfold qa7
 by_cases hl:80<l.length
 ·have hs:sl l 0 80=some (l.take 80):=q7r (i:=80) (by omega)
  obtain ⟨r,v,e1,e2,hv⟩:=qm6 (n:=n) (l:=l.take 80) (by simp; omega) (fun x hx=>h2 x (List.mem_of_mem_take hx))
  obtain ⟨v',c',e3,hv',hc'⟩:=qom (v5:=(n,l,c1)) hv hc1 (by omega)
  exact ⟨v',c',g9 e (m9 (by simp; omega) (n8 hs (g9 e1 (g9 e2 (Ev.of e3))))),hv',hc'⟩
 ·obtain ⟨r,v,e1,e2,hv⟩:=qm6 (n:=n) (l:=l) h1 h2
  obtain ⟨v',c',e3,hv',hc'⟩:=qom (v5:=(n,l,c1)) hv hc1 (by omega)
  exact ⟨v',c',g9 e (g8 (by simp; omega) (g9 e1 (g9 e2 (Ev.of e3)))),hv',hc'⟩
theorem qpy {code:List Int}(hb:Bytes code) : Cur 0 (L1Cur.mk code 0 0):=⟨hb,a2e _,a2e _⟩
theorem DrawDo_ok {code:List Int}(hb:Bytes code) : ∃ c x,Ev (fun k=>u7 k code) (c,x)∧OkC c∧x.InStep.length≤6:=by
 obtain ⟨v,c1,e,hv,hc1⟩:=qip (qpy hb) (by omega)
 obtain ⟨x,c2,e2,hx,_⟩:=qk4 hv hc1 (by omega)
 exact ⟨v,x,by unfold u7; exact g9 e (g9 e2 l8),hv,hx⟩
theorem DrawLeads_ok {code:List Int}(hb:Bytes code) : ∃ c i,Ev (fun k=>qba k code) (c,i)∧OkC c:=by
 obtain ⟨v,c1,e,hv,hc1⟩:=qip (qpy hb) (by omega)
 have hn:=hv.1
 have hw:d8 .i64 ((b6 v.Brokers:Int)+2)=(b6 v.Brokers:Int)+2:=kr (by omega) (by omega)
 obtain ⟨w,c2,h2,_⟩:=wy hc1 (by omega) ((b6 v.Brokers:Int)+2) (by omega)
 exact ⟨v,_,by unfold qba; exact g9 e (n8 (a:=(w,c2)) (by dsimp only; rw [hw]; exact h2) l8),hv⟩
theorem DrawLive_ok {code:List Int}(hb:Bytes code) : ∃ c,Ev (fun k=>xy k code) c∧OkC c:=by
 obtain ⟨v,c1,e,hv,hc1⟩:=qip (qpy hb) (by omega)
 exact ⟨v,by unfold xy qav; exact g9 (g9 e l8) l8,hv⟩
theorem DrawNew_ok {code:List Int}(hb:Bytes code) : ∃ n,Ev (fun _=>uo code) n:=by
 obtain ⟨w,c1,e,_⟩:=wy (qpy hb) (by omega) 9 (by omega)
 exact ⟨w,by unfold uo; exact n8 e l8⟩

theorem qkn {c:Control}{k:Int}(hn:c.Parts.length≤1048576){B:Nat→Partition→List Int→Option (Oc (List Int) ((List Int) × Bool))}(hB:∀ i x s,B i x s=if (decide (x.Leader=k))=true then ((kg 8 s [(i:Int)]).bind fun l=>some (.nxt l)) else some (.nxt s)) : Ev (fun _=>jj B c.Parts []) (.nxt (qdx (fun _ (p:Partition)=>decide (p.Leader=k)) c.Parts 0)):=by
 refine qjh (p:=fun _ (p:Partition)=>decide (p.Leader=k)) (by omega) (fun i x s hx hs=>?_)
 have hi:=(d9.1 hx).1
 rw [hB]
 by_cases hf:x.Leader=k
 ·rw [if_pos (by simpa using hf),if_pos (by simpa using hf)]
  exact n8 (qjm (by omega)) l8
 ·rw [if_neg (by simpa using hf),if_neg (by simpa using hf)]
  exact l8
theorem qpg {c:Control}{b:Int}(hn:c.nn≤1048576) : ∃ r:List Int × Bool,Ev (fun _=>qcc c b) r∧Ev (fun _=>qbb c b) r∧r.1.length≤1048576:=by
 obtain ⟨n1,n2,_⟩:=qdy hn
 have hc0:=qhv (p:=fun _ (p:Partition)=>decide (p.Leader=b)) (l:=c.Parts) (i:=0)
 obtain ⟨g,eg,hg⟩:=qg2 hn
 obtain ⟨d,ed,hd⟩:=qh1 hn
 have hgd:g=d:=by rw [Bool.eq_iff_iff,hg,hd]
 subst hgd
 have hw:d8 .i64 ((b6 c.Brokers:Int) - 1)=(b6 c.Brokers:Int) - 1:=kr (by omega) (by omega)
 by_cases h:g=true∧0≤b∧b<c.Brokers.length
 ·obtain ⟨rfl,h0,h1⟩:=h
  obtain ⟨i,rfl⟩ : ∃ i:Nat,b=i:=⟨b.toNat,by omega⟩
  refine ⟨(qdx (fun _ (p:Partition)=>decide (p.Leader=(i:Int))) c.Parts 0,true),?_,qqr (hg.1 rfl) (by omega),by dsimp only; omega⟩
  unfold qcc
  exact g9 eg (g8 (by simp; omega) (a2a (qkn n2 (fun i x s=>rfl)) l8))
 ·refine ⟨([],false),?_,?_,by simp⟩
  ·unfold qcc
   refine g9 eg (m9 ?_ l8)
   simp only [a0q,Bool.not_eq_true',decide_eq_true_eq]
   cases g
   ·exact .inl (.inl rfl)
   ·simp at h; omega
  ·unfold qbb
   refine g9 ed (m9 ?_ l8)
   simp only [a0q,qeb,hw]
   cases g
   ·exact .inl rfl
   ·simp at h; exact .inr (by omega)
theorem qub {c:Control}(hn:c.nn≤1048576) : ∃ r:List Int × Bool,Ev (fun _=>uv c) r∧Ev (fun _=>xa c) r∧r.1.length≤1048576:=by
 obtain ⟨n1,n2,_⟩:=qdy hn
 have hc0:=qhv (p:=fun _ (b:Broker) => !b.Fenced) (l:=c.Brokers) (i:=0)
 obtain ⟨g,eg,hg⟩:=qg2 hn
 by_cases hc:ya c
 ·have:=hg.2 hc
  subst this
  refine ⟨_,?_,q9t hc,by dsimp only; omega⟩
  unfold uv
  refine g9 eg (g8 rfl (a2a (qjh (p:=fun _ (b:Broker) => !b.Fenced) (by omega) (fun i x s hx hs=>?_)) l8))
  have hi:=(d9.1 hx).1
  unfold qbd
  cases hf:x.Fenced with
  | true=>exact g8 rfl l8
  | false=>exact m9 rfl (n8 (qjm (by omega)) l8)
 ·have:=bF hg hc
  subst this
  obtain ⟨d,ed,hd⟩:=qh1 hn
  have:=bF hd hc
  subst this
  exact ⟨([],false),by unfold uv; exact g9 eg (m9 rfl l8),by unfold xa; exact g9 ed (m9 rfl l8),by simp⟩
theorem qmh {c:Control}(hn:c.nn≤1048576) : ∃ r:List Int × Bool,Ev (fun _=>uh c) r∧Ev (fun _=>wv c) r∧r.1.length≤1048576:=by
 obtain ⟨n1,n2,_⟩:=qdy hn
 have hc0:=qhv (p:=fun _ (p:Partition)=>decide (p.Leader = -1)) (l:=c.Parts) (i:=0)
 obtain ⟨g,eg,hg⟩:=qg2 hn
 by_cases hc:ya c
 ·have:=hg.2 hc
  subst this
  refine ⟨_,?_,qt2 hc,by dsimp only; omega⟩
  unfold uh
  exact g9 eg (g8 rfl (a2a (qkn n2 (fun i x s=>rfl)) l8))
 ·have:=bF hg hc
  subst this
  obtain ⟨d,ed,hd⟩:=qh1 hn
  have:=bF hd hc
  subst this
  exact ⟨([],false),by unfold uh; exact g9 eg (m9 rfl l8),by unfold wv; exact g9 ed (m9 rfl l8),by simp⟩
theorem qxn {n:Int} : ∃ r:Control × Bool,Ev (fun k=>j7 k n) r∧Ev (fun _=>qah n) r∧r.1.nn≤1048576:=by
 rcases ql6 (n:=n) with ⟨m,rfl,h1,h2⟩ | ⟨h1,h2⟩
 ·refine ⟨_,h2,?_,(qf1 h1.1 h1.2).1.nn⟩
  unfold qah
  exact g8 (bF qeb (fun h=>h ⟨by omega,by omega⟩)) (g9 (za5 h1.2) l8)
 ·refine ⟨_,h2,?_,by decide⟩
  unfold qah
  exact m9 (qeb.2 h1) l8
theorem qyx {c:Control}(h:c.nn≤1048576) : Is (fun _=>wd c) (ya c):=by
 obtain ⟨d,ed,hd⟩:=qh1 h
 exact ⟨d,by unfold wd; exact g9 ed l8,hd⟩
theorem qkq {p:Bool}{F:Nat→Option Bool}(hp:p=true)(hF:Ev F true) : Ev (fun k=>(if p=true then ((F k).bind fun v=>some v) else some false)) true:=m9 hp (g9 hF l8)
theorem q74 {v_1:List Int}(hb:Bytes v_1) : Ev (fun k=>qby k v_1) true:=by
 obtain ⟨c,b,d1,o1⟩:=DrawLeads_ok hb
 obtain ⟨c2,d2,o2⟩:=DrawLive_ok hb
 obtain ⟨n,d3⟩:=DrawNew_ok hb
 obtain ⟨r1,s1,i1,l1⟩:=qpg (b:=b) o1.nn
 obtain ⟨r2,s2,i2,l2⟩:=qub o2.nn
 obtain ⟨r3,s3,i3,l3⟩:=qmh o2.nn
 obtain ⟨r4,s4,i4,l4⟩:=qxn (n:=n)
 unfold qby
 exact g9 d1 (g9 i1 (g9 s1 (g9 d2 (g9 i2 (g9 s2 (g9 i3 (g9 s3 (g9 d3 (g9 i4 (g9 s4 (g9 (a:=true) (qkq (by simp) (qbl (by omega))) (g9 (a:=true) (qkq (by simp) (qbl (by omega))) (g9 (a:=true) (qkq (by simp) (qbl (by omega))) (g9 (a:=true) (qkq (by simp) (qb8 l4)) l8))))))))))))))

theorem q8l {c:Control}{x:Command}(h:(yg c x).2≠0) : (yg c x).1=c:=by
 unfold yg at h ⊢
 split
 ·rfl
 ·rename_i h0
  rw [if_neg h0] at h
  split
  ·rename_i h1
   rw [if_pos h1] at h
   exact absurd rfl h
  ·rfl
theorem q8j {P Q:List Partition}{i:Nat}{p q:Partition}(hp:P[i]? = some p)(hq:Q[i]? = some q)(h:PartStep p q)(hn:p.Homes.length≤6∧p.InStep.length≤6)(he:0≤p.Epoch∧p.Epoch≤1000) : Ev (fun _=>u9 i P Q) (.nxt (P,Q)):=by
 unfold u9
 have g1:=h.ep
 have g2:=h.st
 refine n8 (kz hp) (n8 (kz hq) (g9 (a:=false) (g8 (by simp; omega) (g9 (a:=true) (by rw [h.homes]; exact qbl (by omega)) l8)) (g8 rfl (g9 (a:=false) ?_ (g8 rfl (g9 (a:=false) ?_ (g8 rfl l8)))))))
 ·by_cases hl:0≤q.Leader∧q.Leader≠p.Leader
  ·obtain ⟨k1,k2⟩:=h.lead hl.1 hl.2
   refine m9 (by simpa using hl) (g9 (a:=false) (g8 (by rw [kr (by omega) (by omega)]; simpa using k1) (g9 (a:=true) ?_ l8)) l8)
   obtain ⟨b,e,hb⟩:=qn2 (l:=p.InStep) (v:=q.Leader) (by omega)
   rw [hb.2 k2] at e
   exact e
  ·refine g8 ?_ l8
   rw [a1m]
   by_cases h0:0≤q.Leader
   ·exact .inr (by simpa using fun hh=>hl ⟨h0,hh⟩)
   ·exact .inl (by simpa using h0)
 ·by_cases hs:q.Stamp=p.Stamp
  ·obtain ⟨k1,k2⟩:=h.same hs
   exact m9 (by simpa using hs) (g9 (a:=false) (g8 (by simpa using k1) (g9 (a:=true) (by rw [k2]; exact qbl (by omega)) l8)) l8)
  ·exact g8 (by simpa using hs) l8
theorem q76 {c:Control}{x:Command}(hc:ya c)(hx:ww c.Brokers.length x)(hn:x.InStep.length≤6) : Ev (fun _=>qbt (c,x) ((yg c x).1,(yg c x).2,true) c.Parts (yg c x).1.Parts) (.nxt ()):=by
 unfold qbt
 by_cases h:x.Kind=5∧(yg c x).2=0
 ·obtain ⟨p,q,e1,e2,k1,k2,k3,k4,k5⟩:=qpq hc hx h.1 h.2
  obtain ⟨ga,gb⟩:=qfx hc hx
  have hx2:ww (yg c x).1.Brokers.length x:=by rw [gb]; exact hx
  have hp0:=hx.2.2.1.1
  refine m9 (by simpa using h) (n8 (qeq hp0 e1) (g8 (by simp [k1,k2,k3]) (n8 (qeq hp0 e2) (g9 (a:=true) (by rw [k4]; exact qbl (by omega)) (g8 rfl ?_)))))
  have hxn:x.nn≤1048576:=by have h2:x.nn=x.InStep.length+0:=rfl; omega
  rcases DoCommand_all (v_0:=(yg c x).1) (v_1:=x) ga.nn hxn with ⟨_,_,_,f2⟩ | ⟨f1,_⟩
  ·have:=q7q h.1 e2 k5
   exact g9 f2 (g8 (by simpa using this) l8)
  ·exact absurd ⟨ga,hx2⟩ f1
 ·refine g8 ?_ l8
  rw [a1m]
  by_cases h0:x.Kind=5
  ·exact .inr (by simpa using fun hh=>h ⟨h0,hh⟩)
  ·exact .inl (by simpa using h0)
theorem FnCommands_pure (v_0:List Int)(w0:wfL 1 qk5 v_0)(v_1:List Int)(w1:wfL 1 qk5 v_1) : ∃ k,qb1 k v_0 v_1=some true:=by
 suffices h:Ev (fun k=>qb1 k v_0 v_1) true by
  obtain ⟨K,h⟩:=h
  exact ⟨K,h K (Nat.le_refl _)⟩
 unfold qb1
 by_cases hbig:(1048576:Int)<d8 .i64 ((b6 v_0:Int)+(b6 v_1:Int))
 ·exact m9 (by simpa using hbig) l8
 refine g8 (by simpa using hbig) ?_
 obtain ⟨c,x,hdr,hok,hxl⟩:=DrawDo_ok (code:=v_0) (fun x hx=>w0.2 x hx)
 have hj:=q74 (v_1:=v_1) (fun x hx=>w1.2 x hx)
 have hxn:x.nn≤1048576:=by have h2:x.nn=x.InStep.length+0:=rfl; omega
 obtain ⟨g,eg,hg⟩:=qg2 hok.nn
 obtain ⟨d,ed,hd⟩:=qyx hok.nn
 have hgd:g=d:=by rw [Bool.eq_iff_iff,hg,hd]
 subst hgd
 rcases DoCommand_all hok.nn hxn with ⟨hc,hx,e1,e2⟩ | ⟨_,e1,e2⟩
 ·obtain ⟨ga,gb⟩:=qfx hc hx
  obtain ⟨pl,ps⟩:=qpi hc hx
  refine g9 hdr (g9 e2 (g9 e1 (g8 (by simp) (g9 (qb8 ga.nn) (g8 rfl (g9 ed (g9 eg (g8 (by simp) (a2a (s:=()) (m9 rfl (g9 (q8m ga) (g9 (a:=false) (g8 rfl (g9 (a:=false) ?_ l8)) (g8 (by simpa using pl) (a2a (s:=(c.Parts,(yg c x).1.Parts)) ?_ (q76 hc hx hxl)))))) hj)))))))))
  ·by_cases h0:(yg c x).2=0
   ·exact g8 (by simpa using h0) l8
   ·refine m9 (by simpa using h0) (g9 (a:=true) ?_ l8)
    rw [q8l h0]
    exact qb8 hc.nn
  ·have np:=hc.1.2.1
   simp only [qha]
   refine qac (by simp; omega) (fun i r s=>i+r.length=c.Parts.length∧s=(c.Parts,(yg c x).1.Parts)) (by simp) (fun i y r s ⟨hr,hs⟩ => .inl ?_) (fun i s ⟨_,hs⟩=>by rw [hs])
   subst hs
   simp only [a0a] at hr
   have hp:c.Parts[i]? = some (c.Parts[i]'(by omega)):=List.getElem?_eq_getElem _
   generalize c.Parts[i]'_=p at hp
   obtain ⟨q,hq,hst⟩:=ps i p hp
   have hpm:=i8 hp
   have hpp:=hc.2.2 p hpm
   exact ⟨_,q8j hp hq hst (hok.2.2 p hpm) ⟨hpp.1.e0,hpp.2.2.1⟩,by omega,rfl⟩
 ·exact g9 hdr (g9 e2 (g9 e1 (g8 (by simp) (g9 (qb8 (by decide)) (g8 rfl (g9 ed (g9 eg (g8 (by simp) (a2a (s:=()) (g8 rfl l8) hj)))))))))
end Go.Proofs.Ytjloihcijdcpeaa.X
