/- Commands and plays: one answer. -/
import Derived.Test.YtjloihcijdcpeaaXBL12u
set_option linter.unusedVariables false
set_option linter.unusedSimpArgs false
namespace Go.Proofs.Ytjloihcijdcpeaa.X
open Go

def qfu:Control:=⟨[],[],0⟩
theorem q4x {c:Control}{x:Command}(h:c.nn≤1048576)(hx:x.InStep.length≤1048576)(hn:¬ (qa7 c∧uo c.Brokers.length x)) : Ev (fun _=>xk c x) (qfu,0,false):=by
 obtain ⟨g,eg,hg⟩:=qll h
 unfold xk
 cases g with
 | false=>exact Ev.bind eg (Ev.bind (a:=true) (Ev.iteT rfl Ev.rfl) (Ev.iteT rfl Ev.rfl))
 | true =>
  have hc:=hg.1 rfl
  obtain ⟨d,ed,hd⟩:=q1z (c:=c) (x:=x) hc.1.1 hx
  cases d with
  | true=>exact absurd ⟨hc,hd.1 rfl⟩ hn
  | false=>exact Ev.bind eg (Ev.bind (a:=true) (Ev.iteF rfl (Ev.bind ed Ev.rfl)) (Ev.iteT rfl Ev.rfl))
def xg (n:Nat) : Control:=⟨List.replicate n ⟨0,0,true⟩,[],1⟩
theorem qkx {n:Nat}(h1:1≤n)(h2:n≤6) : qa7 (xg n)∧(xg n).Brokers.length=n:=by
 refine ⟨⟨⟨⟨by simp [xg]; omega,by simp [xg]; omega⟩,by simp [xg],by simp [xg]⟩,fun b hb=>?_,fun p hp=>by simp [xg] at hp⟩,by simp [xg]⟩
 simp only [xg,List.mem_replicate] at hb
 rw [hb.2]
 exact ⟨by simp,by simp [xg],by simp,by simp,by simp,by simp⟩
theorem qpr {l:List Broker}{b:Broker}(h:l.length≤1000) : kq 24 l [b]=some (l++[b]):=by
 unfold kq
 rw [if_pos (by simp only [List.length_cons,List.length_nil]; omega)]
theorem q26 {n:Nat}(h2:n≤6) : Ev (fun _=>qao (n:Int)) (xg n):=by
 unfold qao
 simp only [qi8]
 refine Ev.jn (s:=xg n) (qbl (B:=fun _ i _ s=>xz i s) (by simp; omega) (fun i q s=>i+q.length=n∧s=xg i) ⟨by simp,rfl⟩ (fun i x q s ⟨h1,hs⟩ => .inl ?_) (fun i s ⟨h1,hs⟩=>?_)) Ev.rfl
 ·subst hs
  simp only [List.length_cons] at h1
  refine ⟨xg (i+1),Ev.of ?_,by omega,rfl⟩
  unfold xz xg
  rw [qpr (by simp; omega),Option.bind_some,List.replicate_succ']
 ·simp only [List.length_nil,Nat.add_zero] at h1
  rw [hs,h1]
theorem q8g {n:Int} : (∃ m:Nat,n=m∧(1≤m∧m≤6)∧Ev (fun k=>wn k n) (xg m,true))∨(¬ (1≤n∧n≤6)∧Ev (fun k=>wn k n) (qfu,false)):=by
 by_cases h:1≤n∧n≤6
 ·left
  obtain ⟨m,rfl⟩ : ∃ m:Nat,n=m:=⟨n.toNat,by omega⟩
  refine ⟨m,rfl,by omega,?_⟩
  unfold wn
  refine Ev.iteF (bF qlw (fun h2=>h2 h)) ?_
  refine Ev.jn (s:=((m:Int),xg m)) (Ev.loop (B:=fun s68=>xu (m:Int) s68.1 s68.2) (fun s=>∃ i:Nat,i≤m∧s=((i:Int),xg i)) (fun s=>(m - s.1).toNat) ⟨0,by omega,rfl⟩ ?_) Ev.rfl
  rintro s ⟨i,hi,rfl⟩
  unfold xu
  dsimp only
  by_cases hc:i<m
  ·rw [if_pos (by simpa using hc)]
   refine .inl ⟨(((i+1:Nat) : Int),xg (i+1)),?_,⟨i+1,by omega,rfl⟩,by dsimp only; omega⟩
   unfold xg
   rw [qpr (by simp; omega),Option.bind_some,qa8 (by omega),List.replicate_succ']
  ·rw [if_neg (by simpa using hc)]
   obtain rfl:i=m:=by omega
   exact .inr (.inl ⟨_,rfl,rfl⟩)
 ·right
  refine ⟨h,?_⟩
  unfold wn
  exact Ev.iteT (qlw.2 h) Ev.rfl

def qcl:Control→List Command→List Int→Control × List Int
 | c,[],d=>(c,d)
 | c,x::q,d=>qcl (qdr c x).1 q (d++[(qdr c x).2])
def qfp (n:Nat)(l:List Command) : Prop:=∀ x∈l,uo n x
theorem qss:∀ {l:List Command} {c:Control} {d:List Int},qa7 c→qfp c.Brokers.length l→qa7 (qcl c l d).1∧(qcl c l d).1.Brokers.length=c.Brokers.length∧(qcl c l d).2.length=d.length+l.length:=by
 intro l
 induction l with
 | nil=>intro c d h _; exact ⟨h,rfl,rfl⟩
 | cons x l ih =>
  intro c d h ho
  obtain ⟨g1,g2⟩:=qk0 h (ho x (by simp))
  obtain ⟨h1,h2,h3⟩:=ih (d:=d++[(qdr c x).2]) g1 (by rw [g2]; exact fun z hz=>ho z (by simp [hz]))
  exact ⟨h1,h2.trans g2,by rw [qcl,h3]; simp; omega⟩
theorem qkz {B:Nat→Command→List Int→Control→Option (Oc (List Int × Control) (Control × List Int × Bool))}{n:Nat}{l:List Command}{c0:Control}(hl:l.length≤80)(h0:qa7 c0)(hn:c0.Brokers.length=n)
  (hB:∀ i x d c,x∈l→qa7 c→c.Brokers.length=n→d.length≤80→(uo n x→Ev (fun _=>B i x d c) (.nxt (d++[(qdr c x).2],(qdr c x).1)))∧(¬ uo n x→Ev (fun _=>B i x d c) (.ret (qfu,[],false)))) :
  (qfp n l∧Ev (fun _=>jq (fun i x (s:List Int × Control)=>B i x s.1 s.2) l (([] : List Int),c0)) (.nxt ((qcl c0 l []).2,(qcl c0 l []).1)))∨(¬ qfp n l∧Ev (fun _=>jq (fun i x (s:List Int × Control)=>B i x s.1 s.2) l (([] : List Int),c0)) (.ret (qfu,[],false))):=by
 have key:∀ o,((qfp n l∧o = .nxt ((qcl c0 l []).2,(qcl c0 l []).1))∨(¬ qfp n l∧o = .ret (qfu,[],false)))→Ev (fun _=>jq (fun i x (s:List Int × Control)=>B i x s.1 s.2) l (([] : List Int),c0)) o:=by
  intro o ho
  refine qbl (B:=fun _ i x (s:List Int × Control)=>B i x s.1 s.2) (by omega) (fun i q s=>l.drop i=q∧∃ c d,s=(d,c)∧qa7 c∧c.Brokers.length=n∧d.length+q.length≤80∧qcl c q d=qcl c0 l []∧∀ x∈l.take i,uo n x) ⟨rfl,c0,[],rfl,h0,hn,by simpa using hl,rfl,by simp⟩ (fun i x q s ⟨hq,hs⟩=>?_) (fun i s ⟨hq,hs⟩=>?_)
  ·obtain ⟨c,d,rfl,hc,hcn,hd,hr,hp⟩:=hs
   have hx:l[i]? = some x:=by have:=congrArg (fun z=>z[0]?) hq; simpa using this
   have hxm:=List.mem_of_getElem? hx
   simp only [List.length_cons] at hd
   obtain ⟨b1,b2⟩:=hB i x d c hxm hc hcn (by omega)
   by_cases hcx:uo n x
   ·have hg:=qk0 hc (by rw [hcn]; exact hcx)
    refine .inl ⟨_,b1 hcx,by have:=congrArg (List.drop 1) hq; simpa [List.drop_drop] using this,_,_,rfl,hg.1,hg.2.trans hcn,by simp; omega,hr,fun z hz=>?_⟩
    rw [List.take_add_one,hx] at hz
    rcases List.mem_append.1 hz with hz | hz
    ·exact hp z hz
    ·simp at hz
     subst hz
     exact hcx
   ·refine .inr (.inr ⟨_,b2 hcx,?_⟩)
    rcases ho with ⟨h1,_⟩ | ⟨_,h1⟩
    ·exact absurd (h1 x hxm) hcx
    ·exact h1
  ·obtain ⟨c,d,rfl,hc,hcn,hd,hr,hp⟩:=hs
   have hi:l.length≤i:=by have:=congrArg List.length hq; simp at this; omega
   rw [List.take_of_length_le hi] at hp
   rcases ho with ⟨_,h1⟩ | ⟨h1,_⟩
   ·rw [h1,← hr]
    rfl
   ·exact absurd hp h1
 by_cases h:qfp n l
 ·exact .inl ⟨h,key _ (.inl ⟨h,rfl⟩)⟩
 ·exact .inr ⟨h,key _ (.inr ⟨h,rfl⟩)⟩
theorem PlayCommands_all {v_0:Int}{v_1:List Command}(b0:nnL Command.nn v_1≤1048576) : (∃ n:Nat,v_0=n∧1≤n∧n≤6∧v_1.length≤80∧qfp n v_1∧Ev (fun k=>yu k v_0 v_1) ((qcl (xg n) v_1 []).1,(qcl (xg n) v_1 []).2,true)∧Ev (fun _=>k9 v_0 v_1) ((qcl (xg n) v_1 []).1,(qcl (xg n) v_1 []).2,true))∨(Ev (fun k=>yu k v_0 v_1) (qfu,[],false)∧Ev (fun _=>k9 v_0 v_1) (qfu,[],false)):=by
 have hxl:∀ x∈v_1,x.InStep.length≤1048576:=fun x hx=>by
  obtain ⟨i,hi⟩:=List.getElem?_of_mem hx
  have:=qdc (f:=Command.nn) hi
  have h2:x.nn=x.InStep.length+0:=rfl
  omega
 have app8:∀ {d:List Int} {v:Int},d.length≤80→kq 8 d [v]=some (d++[v]):=fun h=>by
  unfold kq
  rw [if_pos (by simp only [List.length_cons,List.length_nil]; omega)]
 unfold yu k9
 rcases q8g (n:=v_0) with ⟨m,rfl,⟨h1,h2⟩,e⟩ | ⟨hn,e⟩
 ·obtain ⟨hg,hgn⟩:=qkx h1 h2
  by_cases hl:v_1.length≤80
  ·have ls:=qkz (B:=fun i x d c=>wl i x d c) (n:=m) (l:=v_1) (c0:=xg m) hl hg hgn (fun i x d c hx hc hcn hd=>by
    unfold wl
    refine ⟨fun hcx=>?_,fun hcx=>?_⟩
    ·have hdo:=q5n hc (x:=x) (by rw [hcn]; exact hcx)
     exact Ev.bind hdo (Ev.iteF rfl (Ev.bindp (app8 hd) Ev.rfl))
    ·exact Ev.bind (q4x hc.nn (hxl x hx) (by rw [hcn]; exact fun h=>hcx h.2)) (Ev.iteT rfl Ev.rfl))
   have li:=qkz (B:=fun i x d c=>wj (m:Int) i x d c) (n:=m) (l:=v_1) (c0:=xg m) hl hg hgn (fun i x d c hx hc hcn hd=>by
    unfold wj
    obtain ⟨b,eb,hb⟩:=q7m (x:=x) (n:=m) ⟨h1,h2⟩ (hxl x hx)
    refine ⟨fun hcx=>?_,fun hcx=>?_⟩
    ·have hbt:=hb.2 hcx
     subst hbt
     exact Ev.bind eb (Ev.iteF rfl (Ev.bind (q6f hc (by rw [hcn]; exact hcx)) (Ev.bindp (app8 hd) Ev.rfl)))
    ·have hbf:b=false:=bF hb hcx
     subst hbf
     exact Ev.bind eb (Ev.iteT rfl Ev.rfl))
   have c1:((!(jk (m:Int) 1 6))||(decide ((80:Int)<(List.length v_1:Int))))=false:=by
    have:=bF (qi6 (n:=(m:Int)) (a:=1) (b:=6)) (fun h=>h (by omega))
    rw [this]
    simp
    omega
   rcases ls with ⟨a,e1⟩ | ⟨a,e1⟩ <;> rcases li with ⟨b,e2⟩ | ⟨b,e2⟩
   ·exact .inl ⟨m,rfl,h1,h2,hl,a,Ev.bind e (Ev.iteF (by simp; omega) (Ev.jn e1 Ev.rfl)),Ev.iteF c1 (Ev.bind (q26 h2) (Ev.jn e2 Ev.rfl))⟩
   ·exact absurd a b
   ·exact absurd b a
   ·exact .inr ⟨Ev.bind e (Ev.iteF (by simp; omega) (Ev.jn_ret e1)),Ev.iteF c1 (Ev.bind (q26 h2) (Ev.jn_ret e2))⟩
  ·exact .inr ⟨Ev.bind e (Ev.iteT (by simp; omega) Ev.rfl),Ev.iteT (by simp; omega) Ev.rfl⟩
 ·refine .inr ⟨Ev.bind e (Ev.iteT rfl Ev.rfl),Ev.iteT ?_ Ev.rfl⟩
  rw [Bool.or_eq_true,qi6]
  exact .inl hn
end Go.Proofs.Ytjloihcijdcpeaa.X
