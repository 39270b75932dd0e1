/- A command: what it does, on both sides. -/
import Derived.Test.YtjloihcijdcpeaaXEL12a
open Classical renaming byContradiction→r7
open Go.Proofs.Ytjloihcijdcpeaa.X.Ev renaming bindp→n8,bind→g9,iteF→g8,iteT→m9,of→a19,rfl→l8
open Go.IntKind renaming wrap→d8
open List renaming getElem?_eq_some_iff→d9,getElem?_mapIdx→a0x,length_cons→a0a,length_nil→a03,length_take→a1o,length→b6,mem_of_getElem?→i8,set→a0v,take_of_length_le→a0z
open Option renaming bind_some→n9
set_option linter.unusedVariables false
set_option linter.unusedSimpArgs false
namespace Go.Proofs.Ytjloihcijdcpeaa.X
open Go

theorem qol {α:Type}{l:List α}{f:Nat→α→α}{i:Nat}{x:α}(hx:l[i]? = some x) : ((l.mapIdx f).take i++l.drop i)[i]? = some x∧((l.mapIdx f).take i++l.drop i).set i (f i x)=(l.mapIdx f).take (i+1)++l.drop (i+1):=by
 have hi:=(d9.1 hx).1
 have h1:((l.mapIdx f).take i).length=i:=by rw [a1o,List.length_mapIdx]; omega
 have hd:l.drop i=x::l.drop (i+1):=by
  rw [List.drop_eq_getElem_cons hi]
  congr 1
  exact (d9.1 hx).2
 constructor
 ·rw [List.getElem?_append_right (by omega),h1,Nat.sub_self,hd]
  rfl
 ·rw [List.set_append_right _ _ (by omega),h1,Nat.sub_self,hd,List.set_cons_zero,List.take_add_one,a0x,hx]
  simp
theorem qik {α ρ:Type}{B:Nat→List α→Option (Oc (List α) ρ)}{l:List α}{f:Nat→α→α}(hl:l.length≤1048576)(hB:∀ i x s,l[i]? = some x→s[i]? = some x→s.length=l.length→Ev (fun _=>B i s) (.nxt (s.set i (f i x)))) : Ev (fun _=>yq B (l.length:Int) l) (.nxt (l.mapIdx f)):=by
 simp only [qha]
 refine qac (B:=fun _ i _ s=>B i s) (by simp; omega) (fun i q s=>i+q.length=l.length∧s=(l.mapIdx f).take i++l.drop i) ⟨by simp,by simp⟩ (fun i _ q s ⟨h1,hs⟩ => .inl ?_) (fun i s ⟨h1,hs⟩=>?_)
 ·simp only [a0a] at h1
  obtain ⟨x,hx⟩ : ∃ x,l[i]? = some x:=⟨_,List.getElem?_eq_getElem (by omega)⟩
  obtain ⟨u1,u2⟩:=qol (f:=f) hx
  refine ⟨_,hB i x s hx (by rw [hs]; exact u1) (by rw [hs]; simp; omega),by omega,?_⟩
  rw [hs]
  exact u2
 ·simp only [a03,Nat.add_zero] at h1
  rw [hs,h1,List.drop_length,List.append_nil,a0z (by simp)]
theorem qih {α:Type}{l:List α}{f:α→α} : l.mapIdx (fun _ x=>f x)=l.map f:=by
 apply List.ext_getElem?
 intro i
 rw [a0x,List.getElem?_map]
theorem qon {c:Control}(h:c.nn≤1048576){i:Nat}{x:Partition}{s:Control}(hx:c.Parts[i]? = some x)(hs:s.Parts.length≤1048576) : qa2 c.Brokers i x s=some (.nxt ⟨c.Brokers,s.Parts++[x],s.Next⟩):=by
 have:=(qdy h).2.2 i x hx
 unfold qa2
 rw [qb6 (by omega),n9,qb6 (by omega),n9]
 unfold kg
 rw [if_pos (by simp; omega)]
 rfl
theorem qkr {B:List Broker→Nat→Partition→Control→Option (Oc Control Control)}{c:Control}(h:c.nn≤1048576)(hB:∀ i x s,c.Parts[i]? = some x→s.Parts.length≤1048576→B c.Brokers i x s=some (.nxt ⟨c.Brokers,s.Parts++[x],s.Next⟩)) : Ev (fun _=>jj (B c.Brokers) c.Parts ⟨c.Brokers,[],c.Next⟩) (.nxt c):=by
 obtain ⟨n1,n2,n3⟩:=qdy h
 refine qac (B:=fun _=>B c.Brokers) (by omega) (fun i q s=>c.Parts.drop i=q∧s=⟨c.Brokers,c.Parts.take i,c.Next⟩) ⟨rfl,by simp⟩ (fun i x q s ⟨hq,hs⟩ => .inl ?_) (fun i s ⟨hq,hs⟩=>?_)
 ·subst hs
  have hx:c.Parts[i]? = some x:=by have:=congrArg (fun z=>z[0]?) hq; simpa using this
  refine ⟨_,a19 (hB i x _ hx (by dsimp only; rw [a1o]; omega)),by have:=congrArg (List.drop 1) hq; simpa [List.drop_drop] using this,?_⟩
  dsimp only
  rw [List.take_add_one,hx]
  rfl
 ·subst hs
  have hi:c.Parts.length≤i:=by have:=congrArg b6 hq; simp at this; omega
  rw [a0z hi]
theorem ql9 {c:Control}(h:c.nn≤1048576) : Ev (fun _=>qb2 c) c:=by
 obtain ⟨n1,n2,n3⟩:=qdy h
 unfold qb2
 exact n8 (qb6 (by omega)) (Ev.jn (qkr (B:=qa2) h (fun i x s hx hs=>qon h hx hs)) l8)
theorem qpx {c:Control}(h:c.nn≤1048576) : Ev (fun _=>w9 c) c:=by
 obtain ⟨n1,n2,n3⟩:=qdy h
 unfold w9
 exact n8 (qb6 (by omega)) (Ev.jn (qkr (B:=qbe) h (fun i x s hx hs=>qon h hx hs)) l8)

theorem qi1 {ρ:Type}{B:Nat→List Broker→Option (Oc (List Broker) ρ)}{l:List Broker}(hl:l.length≤1048576)(hB:∀ i s,B i s=(jb s (i:Int)).bind fun x=>some (.nxt (a0v s (i:Int).toNat ⟨x.Epoch,x.Left,decide (x.Left=0)⟩))) : Ev (fun _=>yq B (l.length:Int) l) (.nxt (jy l)):=by
 have:=qik (B:=B) (l:=l) (f:=fun _ b=>⟨b.Epoch,b.Left,decide (b.Left=0)⟩) hl (fun i x s hx hs hlen=>by
  rw [hB]
  exact n8 (kz hs) l8)
 rw [qih] at this
 exact this
theorem q6l {l:List Partition}{p:Partition}(h:l.length≤1000) : kg 72 l [p]=some (l++[p]):=by
 unfold kg
 rw [if_pos (by simp only [a0a,a03]; omega)]
theorem qeq {c:Control}{k:Int}(h0:0≤k){p:Partition}(h:c.Parts[k.toNat]? = some p) : jb c.Parts k=some p:=by
 unfold jb
 rw [if_pos h0]
 exact h
theorem qem {c:Control}{k:Int}(h0:0≤k) : c.Parts[k.toNat]? = none↔(c.Parts.length:Int)≤k:=by
 rw [List.getElem?_eq_none_iff]
 omega

theorem zb4 {c:Control}{x:Command}(hc:ya c)(hx:ww c.Brokers.length x) : ∃ o:Control,Ev (fun _=>qbx c x) ((jh c x).1,o)∧o.Brokers.length=c.Brokers.length∧((jh c x).1=0→(jh c x).2=⟨jy o.Brokers,o.Parts,o.Next⟩):=by
 obtain ⟨⟨⟨n1,n2⟩,hp,nx1,nx2⟩,hb,hpt⟩:=hc
 obtain ⟨xb,xe,xp,xs,xi,hk⟩:=hx
 have hg:=qb4 xb.1 xb.2
 have hkb:=hb _ (i8 (qla xb.1 xb.2))
 have hil:=wg xi
 unfold qbx jh
 have hfin:∀ {o:Control} {r:Int} {F:Nat→Option (Int × Control)},Ev F (r,o)→∃ o,Ev F (r,o):=fun h=>⟨_,h⟩
 by_cases d1:x.Kind=1
 ·rw [if_pos d1]
  by_cases c1:c.Next=1000
  ·rw [if_pos c1]
   exact ⟨c,n8 hg (m9 (by simpa using d1) (m9 (by simpa using c1) l8)),rfl,fun h=>by cases h⟩
  ·rw [if_neg c1]
   refine ⟨⟨c.Brokers.set x.Broker.toNat ⟨c.Next,9,(brk c.Brokers x.Broker).Fenced⟩,c.Parts,c.Next+1⟩,n8 hg (m9 (by simpa using d1) (g8 (by simpa using c1) (a19 ?_))),by simp,fun _=>?_⟩
   ·rw [kr (n:=c.Next+1) (by omega) (by omega)]
   ·simp only [jy,List.map_set]
 rw [if_neg d1]
 by_cases d2:x.Kind=2
 ·rw [if_pos d2]
  by_cases c1:(brk c.Brokers x.Broker).Epoch=0
  ·rw [if_pos c1]
   exact ⟨c,n8 hg (g8 (by simpa using d1) (m9 (by simpa using d2) (m9 (by simpa using c1) l8))),rfl,fun h=>by cases h⟩
  rw [if_neg c1]
  by_cases c2:(brk c.Brokers x.Broker).Epoch=x.Epoch
  ·rw [if_neg (show ¬ ((brk c.Brokers x.Broker).Epoch≠x.Epoch) from fun h=>h c2)]
   exact ⟨⟨c.Brokers.set x.Broker.toNat ⟨(brk c.Brokers x.Broker).Epoch,9,(brk c.Brokers x.Broker).Fenced⟩,c.Parts,c.Next⟩,n8 hg (g8 (by simpa using d1) (m9 (by simpa using d2) (g8 (by simpa using c1) (g8 (by simpa using c2) l8)))),by simp,fun _=>rfl⟩
  ·rw [if_pos c2]
   exact ⟨c,n8 hg (g8 (by simpa using d1) (m9 (by simpa using d2) (g8 (by simpa using c1) (m9 (by simpa using c2) l8)))),rfl,fun h=>by cases h⟩
 rw [if_neg d2]
 by_cases d3:x.Kind=3
 ·rw [if_pos d3]
  have hl:=qik (B:=fun i s=>xu i s) (l:=c.Brokers) (f:=fun _ b=>⟨b.Epoch,if 0<b.Left then b.Left - 1 else b.Left,b.Fenced⟩) (by omega) (fun i b s hx hs hlen=>by
   have hbb:=hb b (i8 hx)
   unfold xu
   refine n8 (kz hs) (a19 ?_)
   have e1:mxI (d8 .i64 (b.Left - 1)) 0=if 0<b.Left then b.Left - 1 else b.Left:=by
    have h1:=hbb.2.2.1
    have h2:=hbb.2.2.2.1
    rw [kr (n:=b.Left - 1) (by omega) (by omega)]
    unfold mxI
    split <;> split <;> omega
   rw [e1]
   rfl)
  rw [qih] at hl
  refine ⟨⟨List.map (fun (b:Broker)=>(⟨b.Epoch,if 0<b.Left then b.Left - 1 else b.Left,b.Fenced⟩ : Broker)) c.Brokers,c.Parts,c.Next⟩,n8 hg (g8 (by simpa using d1) (g8 (by simpa using d2) (m9 (by simpa using d3) (Ev.jn hl l8)))),by simp,fun _=>rfl⟩
 rw [if_neg d3]
 by_cases d4:x.Kind=4
 ·rw [if_pos d4]
  by_cases c1:x.InStep=[]∨c.Parts.length=5
  ·rw [if_pos c1]
   refine ⟨c,n8 hg (g8 (by simpa using d1) (g8 (by simpa using d2) (g8 (by simpa using d3) (m9 (by simpa using d4) (m9 ?_ l8))))),rfl,fun h=>by cases h⟩
   rcases c1 with c1 | c1
   ·simp [c1]
   ·simp [c1]
  ·rw [if_neg c1]
   have c2:x.InStep≠[]:=fun h=>c1 (.inl h)
   have c3:c.Parts.length≠5:=fun h=>c1 (.inr h)
   have c4:x.InStep.length≠0:=fun h=>c2 (List.length_eq_zero_iff.1 h)
   exact ⟨⟨c.Brokers,c.Parts++[⟨x.InStep,x.InStep,-1,0,0⟩],c.Next⟩,n8 hg (g8 (by simpa using d1) (g8 (by simpa using d2) (g8 (by simpa using d3) (m9 (by simpa using d4) (g8 (by simp only [Bool.or_eq_false_iff,decide_eq_false_iff_not]; omega) (n8 (qb6 (by omega)) (n8 (qb6 (by omega)) (n8 (q6l (by omega)) l8)))))))),rfl,fun _=>rfl⟩
 rw [if_neg d4]
 have d56:x.Kind=5∨x.Kind=6:=by rcases hk with h | h | h | h | h | h <;> omega
 have pre:∀ {o},Ev (fun _=>ym c x (brk c.Brokers x.Broker) true) o→Ev (fun _=>(jb c.Brokers x.Broker).bind fun x7=>if (decide (x.Kind=1))=true then (if (decide (c.Next=1000))=true then (some (4,c)) else (some (0,(Control.mk (a0v c.Brokers x.Broker.toNat (Broker.mk c.Next 9 x7.Fenced)) c.Parts (d8 .i64 (c.Next+1)))))) else (if (decide (x.Kind=2))=true then (if (decide (x7.Epoch=0))=true then (some (1,c)) else (if (decide (x7.Epoch≠x.Epoch))=true then (some (2,c)) else (some (0,(Control.mk (a0v c.Brokers x.Broker.toNat (Broker.mk x7.Epoch 9 x7.Fenced)) c.Parts c.Next))))) else (if (decide (x.Kind=3))=true then (jn (yq (fun i41 s71=>xu i41 s71) (b6 c.Brokers:Int) c.Brokers) (fun s79=>qc4 c s79)) else (if (decide (x.Kind=4))=true then (if ((decide ((b6 x.InStep:Int)=0))||(decide ((b6 c.Parts:Int)=5)))=true then (some (4,c)) else ((kg 8 ([] : List Int) x.InStep).bind fun l104=>((kg 8 ([] : List Int) x.InStep).bind fun l114=>((kg 72 c.Parts [(Partition.mk l104 l114 (-1) 0 0)]).bind fun l130=>(some (0,(Control.mk c.Brokers l130 c.Next))))))) else ((if (decide (x.Kind=5))=true then (some (decide (x.Kind=5))) else (some (decide (x.Kind=6)))).bind (fun s418=>ym c x x7 s418)))))) o:=by
  intro o h
  refine n8 hg (g8 (by simpa using d1) (g8 (by simpa using d2) (g8 (by simpa using d3) (g8 (by simpa using d4) (g9 (a:=true) ?_ h)))))
  rcases d56 with d | d
  ·exact m9 (by simpa using d) (a19 (by simp [d]))
  ·exact g8 (by simp [d]) (a19 (by simp [d]))
 cases hq:c.Parts[x.Part.toNat]? with
 | none =>
  have:=(qem (c:=c) xp.1).1 hq
  refine ⟨c,pre ?_,rfl,fun h=>by cases h⟩
  unfold ym
  exact m9 rfl (m9 (by simpa using this) l8)
 | some p =>
  dsimp only
  have hlt:¬ (c.Parts.length:Int)≤x.Part:=fun h=>by rw [(qem (c:=c) xp.1).2 h] at hq; cases hq
  have hgp:=qeq xp.1 hq
  obtain ⟨hM,hG,he1,hs1⟩:=hpt p (i8 hq)
  have hpl:=wg hM.i1
  have hhl:=wg hM.h1
  have pre2:∀ {o},Ev (fun _=>if (decide (x.Kind=6))=true then ((j5 p.InStep x.Broker).bind fun v182=>(if ((!v182)||(brk c.Brokers x.Broker).Fenced)=true then (some (4,c)) else (some (0,(Control.mk c.Brokers (a0v c.Parts x.Part.toNat (Partition.mk p.Homes p.InStep x.Broker p.Epoch p.Stamp)) c.Next))))) else (if (decide (x.Epoch≠p.Epoch))=true then (some (2,c)) else (if (decide (x.Broker≠p.Leader))=true then (some (3,c)) else (if (decide (x.Stamp≠p.Stamp))=true then (some (2,c)) else (((jn (jj (fun i274 x275 _=>wh c p i274 x275 ) x.InStep ()) (fun _=>qbp ))).bind fun v267=>((qbq x.InStep p.Homes).bind fun v363=>(if (!v363)=true then (some (4,c)) else ((j5 x.InStep p.Leader).bind fun v371=>(if ((!v371)||(decide ((0:Int)≤v267)))=true then (some (4,c)) else ((kg 8 ([] : List Int) x.InStep).bind fun l395=>(some (0,(Control.mk c.Brokers (a0v c.Parts x.Part.toNat (Partition.mk p.Homes l395 p.Leader p.Epoch (d8 .i64 (p.Stamp+1)))) c.Next))))))))))))) o→Ev (fun _=>ym c x (brk c.Brokers x.Broker) true) o:=by
   intro o h
   unfold ym
   exact m9 rfl (g8 (by simpa using hlt) (n8 hgp h))
  by_cases d5:x.Kind=5
  ·rw [if_pos d5]
   by_cases c1:x.Epoch=p.Epoch
   case neg=>rw [if_pos c1]; exact ⟨c,pre (pre2 (g8 (by simp [d5]) (m9 (by simpa using c1) l8))),rfl,fun h=>by cases h⟩
   rw [if_neg (show ¬ (x.Epoch≠p.Epoch) from fun h=>h c1)]
   by_cases c2:x.Broker=p.Leader
   case neg=>rw [if_pos c2]; exact ⟨c,pre (pre2 (g8 (by simp [d5]) (g8 (by simpa using c1) (m9 (by simpa using c2) l8)))),rfl,fun h=>by cases h⟩
   rw [if_neg (show ¬ (x.Broker≠p.Leader) from fun h=>h c2)]
   by_cases c3:x.Stamp=p.Stamp
   case neg=>rw [if_pos c3]; exact ⟨c,pre (pre2 (g8 (by simp [d5]) (g8 (by simpa using c1) (g8 (by simpa using c2) (m9 (by simpa using c3) l8))))),rfl,fun h=>by cases h⟩
   rw [if_neg (show ¬ (x.Stamp≠p.Stamp) from fun h=>h c3)]
   -- whether one that is fenced is new
   obtain ⟨v,hv,hvf⟩ : ∃ v:Int,Ev (fun _=>jn (jj (fun i274 x275 (_:Unit)=>wh c p i274 x275) x.InStep ()) (fun _=>qbp)) v∧(decide (0≤v)=wo c.Brokers p x.InStep):=by
    rcases qd1 (B:=fun _ i k _=>wh c p i k) (Q:=fun _ k=>((brk c.Brokers k).Fenced && !decide (k∈p.InStep))=true) (f:=fun i=>(i:Int)) (l:=x.InStep) (by omega) (fun i k hk=>by
      have hr:=(uu.1 xi).2 k (i8 hk)
      unfold wh
      obtain ⟨g,e,hgg⟩:=Contains_int_is (l:=p.InStep) (v:=k) (by omega)
      cases hf:(brk c.Brokers k).Fenced with
      | false=>exact ⟨false,n8 (qb4 hr.1 hr.2) (g9 (a:=false) (g8 (by rw [hf]) l8) (g8 rfl l8)),by simp⟩
      | true =>
       refine ⟨!g,n8 (qb4 hr.1 hr.2) (g9 (a := !g) (m9 (by rw [hf]) (g9 e l8)) ?_),?_⟩
       ·cases g with
        | true=>exact g8 rfl l8
        | false=>exact m9 rfl l8
       ·cases g with
        | true=>simp [hgg.1 rfl]
        | false =>
         have:¬ k∈p.InStep:=fun h=>by have:=hgg.2 h; cases this
         simp [this]) with ⟨i,k,h1,h2,h3,h4⟩ | ⟨h1,h2⟩
    ·refine ⟨(i:Int),Ev.jn_ret h4,?_⟩
     have:wo c.Brokers p x.InStep=true:=by
      unfold wo
      rw [List.any_eq_true]
      exact ⟨k,i8 h1,h2⟩
     rw [this]
     simp
    ·refine ⟨-1,Ev.jn h2 l8,?_⟩
     have:wo c.Brokers p x.InStep=false:=by
      unfold wo
      rw [List.any_eq_false]
      intro k hk hb
      obtain ⟨i,hi⟩:=List.getElem?_of_mem hk
      exact h1 i k hi hb
     rw [this]
     decide
   obtain ⟨a,ea,ha⟩:=qnl (a:=p.Homes) (b:=x.InStep) (by omega) (by omega)
   obtain ⟨g,eg,hgg⟩:=Contains_int_is (l:=x.InStep) (v:=p.Leader) (by omega)
   have start:∀ {o},Ev (fun _=>(qbq x.InStep p.Homes).bind fun v363=>(if (!v363)=true then (some (4,c)) else ((j5 x.InStep p.Leader).bind fun v371=>(if ((!v371)||(decide ((0:Int)≤v)))=true then (some (4,c)) else ((kg 8 ([] : List Int) x.InStep).bind fun l395=>(some (0,(Control.mk c.Brokers (a0v c.Parts x.Part.toNat (Partition.mk p.Homes l395 p.Leader p.Epoch (d8 .i64 (p.Stamp+1)))) c.Next)))))))) o→∃ o',Ev (fun _=>ym c x (brk c.Brokers x.Broker) true) o'∧o'=o:=fun h=>⟨_,pre2 (g8 (by simp [d5]) (g8 (by simpa using c1) (g8 (by simpa using c2) (g8 (by simpa using c3) (g9 hv h))))),rfl⟩
   by_cases c4:¬ (∀ k∈x.InStep,k∈p.Homes)∨¬ p.Leader∈x.InStep∨wo c.Brokers p x.InStep=true
   ·rw [if_pos c4]
    refine ⟨c,pre ?_,rfl,fun h=>by cases h⟩
    cases a with
    | false=>obtain ⟨o',e1,rfl⟩:=start (g9 ea (m9 rfl l8)); exact e1
    | true =>
     have:((!g)||(decide ((0:Int)≤v)))=true:=by
      rw [hvf]
      rcases c4 with c4 | c4 | c4
      ·exact absurd (ha.1 rfl) c4
      ·have:g=false:=bF hgg c4
       rw [this]; rfl
      ·rw [c4]; simp
     obtain ⟨o',e1,rfl⟩:=start (g9 ea (g8 rfl (g9 eg (m9 this l8)))); exact e1
   ·rw [if_neg c4]
    have c5:a=true:=ha.2 (r7 fun h=>c4 (.inl h))
    have c6:g=true:=hgg.2 (r7 fun h=>c4 (.inr (.inl h)))
    have c7:wo c.Brokers p x.InStep=false:=by
     cases hh:wo c.Brokers p x.InStep
     ·rfl
     ·exact absurd (.inr (.inr hh)) c4
    subst c5 c6
    have c8:((!true)||(decide ((0:Int)≤v)))=false:=by rw [hvf,c7]; rfl
    refine ⟨⟨c.Brokers,c.Parts.set x.Part.toNat ⟨p.Homes,x.InStep,p.Leader,p.Epoch,p.Stamp+1⟩,c.Next⟩,pre ?_,rfl,fun _=>rfl⟩
    have:=hM.s0
    obtain ⟨o',e1,rfl⟩:=start (g9 ea (g8 rfl (g9 eg (g8 c8 (n8 (qb6 (by omega)) (a19 (by rw [kr (n:=p.Stamp+1) (by omega) (by omega)])))))))
    exact e1
  ·rw [if_neg d5]
   have d6:x.Kind=6:=by omega
   obtain ⟨g,eg,hgg⟩:=Contains_int_is (l:=p.InStep) (v:=x.Broker) (by omega)
   by_cases c1:¬ x.Broker∈p.InStep∨(brk c.Brokers x.Broker).Fenced=true
   ·rw [if_pos c1]
    refine ⟨c,pre (pre2 (m9 (by simpa using d6) (g9 eg (m9 ?_ l8)))),rfl,fun h=>by cases h⟩
    rcases c1 with c1 | c1
    ·have:g=false:=bF hgg c1
     rw [this]; rfl
    ·rw [c1]; simp
   ·rw [if_neg c1]
    have c6:g=true:=hgg.2 (r7 fun h=>c1 (.inl h))
    have c7:(brk c.Brokers x.Broker).Fenced=false:=by
     cases hh:(brk c.Brokers x.Broker).Fenced
     ·rfl
     ·exact absurd (.inr hh) c1
    exact ⟨⟨c.Brokers,c.Parts.set x.Part.toNat ⟨p.Homes,p.InStep,x.Broker,p.Epoch,p.Stamp⟩,c.Next⟩,pre (pre2 (m9 (by simpa using d6) (g9 eg (g8 (by rw [c6,c7]; rfl) l8)))),rfl,fun _=>rfl⟩
end Go.Proofs.Ytjloihcijdcpeaa.X
