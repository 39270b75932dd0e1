/- Commands and plays: one answer. -/
import Derived.Test.YtjloihcijdcpeaaXCL12u
set_option linter.unusedVariables false
set_option linter.unusedSimpArgs false
namespace Go.Proofs.Ytjloihcijdcpeaa.X
open Go

def qf9:Control:=⟨[],[],0⟩
theorem qnn {c:Control}{x:Command}(h:c.nn≤1048576)(hx:x.InStep.length≤1048576)(hn:¬ (yq c∧uv c.Brokers.length x)) : Ev (fun _=>wn c x) (qf9,0,false):=by
 obtain ⟨g,eg,hg⟩:=qly h
 unfold wn
 cases g with
 | false=>exact Ev.bind eg (Ev.bind (a:=true) (Ev.iteT rfl Ev.rfl) (Ev.iteT rfl Ev.rfl))
 | true =>
  have hc:=hg.1 rfl
  obtain ⟨d,ed,hd⟩:=q3h (c:=c) (x:=x) hc.1.1 hx
  cases d with
  | true=>exact absurd ⟨hc,hd.1 rfl⟩ hn
  | false=>exact Ev.bind eg (Ev.bind (a:=true) (Ev.iteF rfl (Ev.bind ed Ev.rfl)) (Ev.iteT rfl Ev.rfl))
def wa (n:Nat) : Control:=⟨List.replicate n ⟨0,0,true⟩,[],1⟩
theorem qih {n:Nat}(h1:1≤n)(h2:n≤6) : yq (wa n)∧(wa n).Brokers.length=n:=by
 refine ⟨⟨⟨⟨by simp [wa]; omega,by simp [wa]; omega⟩,by simp [wa],by simp [wa]⟩,fun b hb=>?_,fun p hp=>by simp [wa] at hp⟩,by simp [wa]⟩
 simp only [wa,List.mem_replicate] at hb
 rw [hb.2]
 exact ⟨by simp,by simp [wa],by simp,by simp,by simp,by simp⟩
theorem qt0 {l:List Broker}{b:Broker}(h:l.length≤1000) : j9 24 l [b]=some (l++[b]):=by
 unfold j9
 rw [if_pos (by simp only [List.length_cons,List.length_nil]; omega)]
theorem q0j {n:Nat}(h2:n≤6) : Ev (fun _=>qax (n:Int)) (wa n):=by
 unfold qax
 simp only [qez]
 refine Ev.jn (s:=wa n) (ud (B:=fun _ i _ s=>uf i s) (by simp; omega) (fun i q s=>i+q.length=n∧s=wa i) ⟨by simp,rfl⟩ (fun i x q s ⟨h1,hs⟩ => .inl ?_) (fun i s ⟨h1,hs⟩=>?_)) Ev.rfl
 ·subst hs
  simp only [List.length_cons] at h1
  refine ⟨wa (i+1),Ev.of ?_,by omega,rfl⟩
  unfold uf wa
  rw [qt0 (by simp; omega),Option.bind_some,List.replicate_succ']
 ·simp only [List.length_nil,Nat.add_zero] at h1
  rw [hs,h1]
theorem q1j {n:Int} : (∃ m:Nat,n=m∧(1≤m∧m≤6)∧Ev (fun k=>yh k n) (wa m,true))∨(¬ (1≤n∧n≤6)∧Ev (fun k=>yh k n) (qf9,false)):=by
 by_cases h:1≤n∧n≤6
 ·left
  obtain ⟨m,rfl⟩ : ∃ m:Nat,n=m:=⟨n.toNat,by omega⟩
  refine ⟨m,rfl,by omega,?_⟩
  unfold yh
  refine Ev.iteF (bF qlt (fun h2=>h2 h)) ?_
  refine Ev.jn (s:=((m:Int),wa m)) (Ev.loop (B:=fun s68=>uh (m:Int) s68.1 s68.2) (fun s=>∃ i:Nat,i≤m∧s=((i:Int),wa i)) (fun s=>(m - s.1).toNat) ⟨0,by omega,rfl⟩ ?_) Ev.rfl
  rintro s ⟨i,hi,rfl⟩
  unfold uh
  dsimp only
  by_cases hc:i<m
  ·rw [if_pos (by simpa using hc)]
   refine .inl ⟨(((i+1:Nat) : Int),wa (i+1)),?_,⟨i+1,by omega,rfl⟩,by dsimp only; omega⟩
   unfold wa
   rw [qt0 (by simp; omega),Option.bind_some,q97 (by omega),List.replicate_succ']
  ·rw [if_neg (by simpa using hc)]
   obtain rfl:i=m:=by omega
   exact .inr (.inl ⟨_,rfl,rfl⟩)
 ·right
  refine ⟨h,?_⟩
  unfold yh
  exact Ev.iteT (qlt.2 h) Ev.rfl

def qc6:Control→List Command→List Int→Control × List Int
 | c,[],d=>(c,d)
 | c,x::q,d=>qc6 (qc9 c x).1 q (d++[(qc9 c x).2])
def qf8 (n:Nat)(l:List Command) : Prop:=∀ x∈l,uv n x
theorem qvn:∀ {l:List Command} {c:Control} {d:List Int},yq c→qf8 c.Brokers.length l→yq (qc6 c l d).1∧(qc6 c l d).1.Brokers.length=c.Brokers.length∧(qc6 c l d).2.length=d.length+l.length:=by
 intro l
 induction l with
 | nil=>intro c d h _; exact ⟨h,rfl,rfl⟩
 | cons x l ih =>
  intro c d h ho
  obtain ⟨g1,g2⟩:=qiq h (ho x (by simp))
  obtain ⟨h1,h2,h3⟩:=ih (d:=d++[(qc9 c x).2]) g1 (by rw [g2]; exact fun z hz=>ho z (by simp [hz]))
  exact ⟨h1,h2.trans g2,by rw [qc6,h3]; simp; omega⟩
theorem qk1 {B:Nat→Command→List Int→Control→Option (Oc (List Int × Control) (Control × List Int × Bool))}{n:Nat}{l:List Command}{c0:Control}(hl:l.length≤80)(h0:yq c0)(hn:c0.Brokers.length=n)
  (hB:∀ i x d c,x∈l→yq c→c.Brokers.length=n→d.length≤80→(uv n x→Ev (fun _=>B i x d c) (.nxt (d++[(qc9 c x).2],(qc9 c x).1)))∧(¬ uv n x→Ev (fun _=>B i x d c) (.ret (qf9,[],false)))) :
  (qf8 n l∧Ev (fun _=>jh (fun i x (s:List Int × Control)=>B i x s.1 s.2) l (([] : List Int),c0)) (.nxt ((qc6 c0 l []).2,(qc6 c0 l []).1)))∨(¬ qf8 n l∧Ev (fun _=>jh (fun i x (s:List Int × Control)=>B i x s.1 s.2) l (([] : List Int),c0)) (.ret (qf9,[],false))):=by
 have key:∀ o,((qf8 n l∧o = .nxt ((qc6 c0 l []).2,(qc6 c0 l []).1))∨(¬ qf8 n l∧o = .ret (qf9,[],false)))→Ev (fun _=>jh (fun i x (s:List Int × Control)=>B i x s.1 s.2) l (([] : List Int),c0)) o:=by
  intro o ho
  refine ud (B:=fun _ i x (s:List Int × Control)=>B i x s.1 s.2) (by omega) (fun i q s=>l.drop i=q∧∃ c d,s=(d,c)∧yq c∧c.Brokers.length=n∧d.length+q.length≤80∧qc6 c q d=qc6 c0 l []∧∀ x∈l.take i,uv n x) ⟨rfl,c0,[],rfl,h0,hn,by simpa using hl,rfl,by simp⟩ (fun i x q s ⟨hq,hs⟩=>?_) (fun i s ⟨hq,hs⟩=>?_)
  ·obtain ⟨c,d,rfl,hc,hcn,hd,hr,hp⟩:=hs
   have hx:l[i]? = some x:=by have:=congrArg (fun z=>z[0]?) hq; simpa using this
   have hxm:=List.mem_of_getElem? hx
   simp only [List.length_cons] at hd
   obtain ⟨b1,b2⟩:=hB i x d c hxm hc hcn (by omega)
   by_cases hcx:uv n x
   ·have hg:=qiq hc (by rw [hcn]; exact hcx)
    refine .inl ⟨_,b1 hcx,by have:=congrArg (List.drop 1) hq; simpa [List.drop_drop] using this,_,_,rfl,hg.1,hg.2.trans hcn,by simp; omega,hr,fun z hz=>?_⟩
    rw [List.take_add_one,hx] at hz
    rcases List.mem_append.1 hz with hz | hz
    ·exact hp z hz
    ·simp at hz
     subst hz
     exact hcx
   ·refine .inr (.inr ⟨_,b2 hcx,?_⟩)
    rcases ho with ⟨h1,_⟩ | ⟨_,h1⟩
    ·exact absurd (h1 x hxm) hcx
    ·exact h1
  ·obtain ⟨c,d,rfl,hc,hcn,hd,hr,hp⟩:=hs
   have hi:l.length≤i:=by have:=congrArg List.length hq; simp at this; omega
   rw [List.take_of_length_le hi] at hp
   rcases ho with ⟨_,h1⟩ | ⟨h1,_⟩
   ·rw [h1,← hr]
    rfl
   ·exact absurd hp h1
 by_cases h:qf8 n l
 ·exact .inl ⟨h,key _ (.inl ⟨h,rfl⟩)⟩
 ·exact .inr ⟨h,key _ (.inr ⟨h,rfl⟩)⟩
theorem PlayCommands_all {v_0:Int}{v_1:List Command}(b0:nnL Command.nn v_1≤1048576) : (∃ n:Nat,v_0=n∧1≤n∧n≤6∧v_1.length≤80∧qf8 n v_1∧Ev (fun k=>xl k v_0 v_1) ((qc6 (wa n) v_1 []).1,(qc6 (wa n) v_1 []).2,true)∧Ev (fun _=>xg v_0 v_1) ((qc6 (wa n) v_1 []).1,(qc6 (wa n) v_1 []).2,true))∨(Ev (fun k=>xl k v_0 v_1) (qf9,[],false)∧Ev (fun _=>xg v_0 v_1) (qf9,[],false)):=by
 have hxl:∀ x∈v_1,x.InStep.length≤1048576:=fun x hx=>by
  obtain ⟨i,hi⟩:=List.getElem?_of_mem hx
  have:=qnu (f:=Command.nn) hi
  have h2:x.nn=x.InStep.length+0:=rfl
  omega
 have app8:∀ {d:List Int} {v:Int},d.length≤80→j9 8 d [v]=some (d++[v]):=fun h=>by
  unfold j9
  rw [if_pos (by simp only [List.length_cons,List.length_nil]; omega)]
 unfold xl xg
 rcases q1j (n:=v_0) with ⟨m,rfl,⟨h1,h2⟩,e⟩ | ⟨hn,e⟩
 ·obtain ⟨hg,hgn⟩:=qih h1 h2
  by_cases hl:v_1.length≤80
  ·have ls:=qk1 (B:=fun i x d c=>w8 i x d c) (n:=m) (l:=v_1) (c0:=wa m) hl hg hgn (fun i x d c hx hc hcn hd=>by
    unfold w8
    refine ⟨fun hcx=>?_,fun hcx=>?_⟩
    ·have hdo:=qrf hc (x:=x) (by rw [hcn]; exact hcx)
     exact Ev.bind hdo (Ev.iteF rfl (Ev.bindp (app8 hd) Ev.rfl))
    ·exact Ev.bind (qnn hc.nn (hxl x hx) (by rw [hcn]; exact fun h=>hcx h.2)) (Ev.iteT rfl Ev.rfl))
   have li:=qk1 (B:=fun i x d c=>wy (m:Int) i x d c) (n:=m) (l:=v_1) (c0:=wa m) hl hg hgn (fun i x d c hx hc hcn hd=>by
    unfold wy
    obtain ⟨b,eb,hb⟩:=q8d (x:=x) (n:=m) ⟨h1,h2⟩ (hxl x hx)
    refine ⟨fun hcx=>?_,fun hcx=>?_⟩
    ·have hbt:=hb.2 hcx
     subst hbt
     exact Ev.bind eb (Ev.iteF rfl (Ev.bind (q6o hc (by rw [hcn]; exact hcx)) (Ev.bindp (app8 hd) Ev.rfl)))
    ·have hbf:b=false:=bF hb hcx
     subst hbf
     exact Ev.bind eb (Ev.iteT rfl Ev.rfl))
   have c1:((!(zp (m:Int) 1 6))||(decide ((80:Int)<(List.length v_1:Int))))=false:=by
    have:=bF (qee (n:=(m:Int)) (a:=1) (b:=6)) (fun h=>h (by omega))
    rw [this]
    simp
    omega
   rcases ls with ⟨a,e1⟩ | ⟨a,e1⟩ <;> rcases li with ⟨b,e2⟩ | ⟨b,e2⟩
   ·exact .inl ⟨m,rfl,h1,h2,hl,a,Ev.bind e (Ev.iteF (by simp; omega) (Ev.jn e1 Ev.rfl)),Ev.iteF c1 (Ev.bind (q0j h2) (Ev.jn e2 Ev.rfl))⟩
   ·exact absurd a b
   ·exact absurd b a
   ·exact .inr ⟨Ev.bind e (Ev.iteF (by simp; omega) (Ev.jn_ret e1)),Ev.iteF c1 (Ev.bind (q0j h2) (Ev.jn_ret e2))⟩
  ·exact .inr ⟨Ev.bind e (Ev.iteT (by simp; omega) Ev.rfl),Ev.iteT (by simp; omega) Ev.rfl⟩
 ·refine .inr ⟨Ev.bind e (Ev.iteT rfl Ev.rfl),Ev.iteT ?_ Ev.rfl⟩
  rw [Bool.or_eq_true,qee]
  exact .inl hn
end Go.Proofs.Ytjloihcijdcpeaa.X
