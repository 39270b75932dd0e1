/- New elections, and plays. -/
import Derived.Test.YtpddolihbnfahaaXBL9s
set_option linter.unusedVariables false
set_option linter.unusedSimpArgs false
namespace Go.Proofs.Ytpddolihbnfahaa.X
open Go

def ya (logs:List (List Int)) : Election:=⟨logs.map (fun l=>⟨10,-1,false,false,[],l⟩),[],[]⟩
def qch (logs:List (List Int)) : Prop:=∀ l∈logs,qe1 l∧jy l≤10
theorem qjq {logs:List (List Int)}{i:Int}{s:Server}(h:At (ya logs) i s) : ∃ l∈logs,s=⟨10,-1,false,false,[],l⟩:=by
 have h2:(logs.map (fun l=>(⟨10,-1,false,false,[],l⟩ : Server)))[i.toNat]? = some s:=h.2
 rw [List.getElem?_map] at h2
 cases hl:logs[i.toNat]? with
 | none=>rw [hl] at h2; cases h2
 | some l =>
  rw [hl] at h2
  simp only [Option.map_some,Option.some.injEq] at h2
  exact ⟨l,List.mem_of_getElem? hl,h2.symm⟩
theorem qva {logs:List (List Int)}(h:qch logs)(h1:1≤logs.length)(h2:logs.length≤5) : Inv (ya logs) (fun _ _ => -1)∧Sta (ya logs):=by
 have hl:(ya logs).Servers.length=logs.length:=by simp [ya]
 refine ⟨⟨by omega,by omega,fun i s hs=>?_,fun m hm=>?_,fun i s t hs hne=>absurd rfl hne,fun v hv=>?_,fun i s hs hle=>?_,?_⟩,fun i s hs hst=>?_⟩
 ·obtain ⟨l,hl2,rfl⟩:=qjq hs
  exact ⟨by simp,by simp,by simp,by rw [hl]; dsimp only; omega,by simp,qay.2 ⟨by simp,by simp⟩,fun _ _=>rfl,(h l hl2).1,fun _ _=>rfl,rfl,by simp⟩
 ·simp [ya] at hm
 ·simp [ya] at hv
 ·obtain ⟨l,hl2,rfl⟩:=qjq hs
  cases hle
 ·simp [ya]
 ·obtain ⟨l,hl2,rfl⟩:=qjq hs
  cases hst
theorem qsl {logs:List (List Int)}{i:Nat}{x:List Int}(hx:logs[i]? = some x) : ya (logs.take (i+1))=⟨(ya (logs.take i)).Servers++[⟨10,-1,false,false,[],x⟩],[],[]⟩:=by
 unfold ya
 rw [List.take_add_one,hx]
 simp
theorem qmx {B:Nat→List Int→Election→Option (Oc Election (Election × Bool))}{logs:List (List Int)}(hn:nnL IntR.nn logs≤1048576)
  (hB:∀ i x s,logs[i]? = some x→s.Servers.length≤1048576→∃ b:Bool,(b=false↔qe1 x∧jy x≤10)∧Ev (fun _=>B i x s) (if b=true then .ret (⟨[],[],[]⟩,false) else .nxt ⟨s.Servers++[⟨10,-1,false,false,[],x⟩],[],[]⟩)) :
  (qch logs∧Ev (fun _=>kc B logs ⟨[],[],[]⟩) (.nxt (ya logs)))∨(¬ qch logs∧Ev (fun _=>kc B logs ⟨[],[],[]⟩) (.ret (⟨[],[],[]⟩,false))):=by
 have hl:=qjy (f:=IntR.nn) (l:=logs)
 have key:∀ o,((qch logs∧o = .nxt (ya logs))∨(¬ qch logs∧o = .ret (⟨[],[],[]⟩,false)))→Ev (fun _=>kc B logs ⟨[],[],[]⟩) o:=by
  intro o ho
  refine xz (B:=fun _=>B) (by omega) (fun i q s=>logs.drop i=q∧s=ya (logs.take i)∧∀ l∈logs.take i,qe1 l∧jy l≤10) ⟨rfl,by simp [ya],by simp⟩ (fun i x q s ⟨hq,hs,hp⟩=>?_) (fun i s ⟨hq,hs,hp⟩=>?_)
  ·have hx:logs[i]? = some x:=by have:=congrArg (fun z=>z[0]?) hq; simpa using this
   have hsl:s.Servers.length≤1048576:=by rw [hs]; simp [ya]; omega
   obtain ⟨b,hb,e⟩:=hB i x s hx hsl
   cases b with
   | true =>
    refine .inr (.inr ⟨_,e,?_⟩)
    rcases ho with ⟨h1,_⟩ | ⟨_,h1⟩
    ·have:=hb.2 (h1 x (List.mem_of_getElem? hx))
     cases this
    ·exact h1
   | false =>
    refine .inl ⟨_,e,by have:=congrArg (List.drop 1) hq; simpa [List.drop_drop] using this,?_,fun l hl2=>?_⟩
    ·rw [qsl hx,hs]
    ·rw [List.take_add_one,hx] at hl2
     rcases List.mem_append.1 hl2 with h3 | h3
     ·exact hp l h3
     ·simp at h3
      subst h3
      exact hb.1 rfl
  ·have hi:logs.length≤i:=by have:=congrArg List.length hq; simp at this; omega
   rw [List.take_of_length_le hi] at hs hp
   subst hs
   rcases ho with ⟨_,h1⟩ | ⟨h1,_⟩
   ·exact h1
   ·exact absurd hp h1
 by_cases h:qch logs
 ·exact .inl ⟨h,key _ (.inl ⟨h,rfl⟩)⟩
 ·exact .inr ⟨h,key _ (.inr ⟨h,rfl⟩)⟩
theorem qly {F:Nat→Option Bool}{G:Option Int}{logs:List (List Int)}{i:Nat}{x:List Int}{s:Election}(hn:nnL IntR.nn logs≤1048576)(hx:logs[i]? = some x)(hs:s.Servers.length≤1048576)(hF:Is F (qe1 x))(hG:G=some (jy x)) :
  ∃ b:Bool,(b=false↔qe1 x∧jy x≤10)∧Ev (fun k=>(F k).bind fun v47=>((if (!v47)=true then (some true) else (G.bind fun v53=>(some (decide ((10:Int)<v53))))).bind fun v53=>(if v53=true then (some (.ret ((Election.mk [] [] []),false)) : Option (Oc Election (Election × Bool))) else ((jo 8 ([] : List Int) x).bind fun l83=>((jo 72 s.Servers ([(Server.mk 10 (-1) false false [] l83)])).bind fun l100=>(some (.nxt (Election.mk l100 [] []))))))))
   (if b=true then .ret (⟨[],[],[]⟩,false) else .nxt ⟨s.Servers++[⟨10,-1,false,false,[],x⟩],[],[]⟩):=by
 have hxl:x.length≤1048576:=Nat.le_trans (qkc (f:=IntR.nn) hx) hn
 obtain ⟨c,e,hc⟩:=hF
 have tail:∀ b:Bool,Ev (fun _:Nat=>(if b=true then (some (.ret ((Election.mk [] [] []),false)) : Option (Oc Election (Election × Bool))) else ((jo 8 ([] : List Int) x).bind fun l83=>((jo 72 s.Servers ([(Server.mk 10 (-1) false false [] l83)])).bind fun l100=>(some (.nxt (Election.mk l100 [] []))))))) (if b=true then .ret (⟨[],[],[]⟩,false) else .nxt ⟨s.Servers++[⟨10,-1,false,false,[],x⟩],[],[]⟩):=by
  intro b
  cases b with
  | true=>exact Ev.iteT rfl Ev.rfl
  | false =>
   refine Ev.iteF rfl (Ev.bindp (qbo (by omega)) (Ev.bindp (a:=s.Servers++[⟨10,-1,false,false,[],x⟩]) ?_ Ev.rfl))
   unfold jo
   rw [if_pos (by simp only [List.length_cons,List.length_nil]; omega)]
 cases c with
 | false=>exact ⟨true,by simp only [Bool.true_eq_false,false_iff]; exact fun h=>(by have:=hc.2 h.1; cases this),Ev.bind e (Ev.bind (Ev.iteT rfl Ev.rfl) (tail true))⟩
 | true =>
  refine ⟨decide (10<jy x),?_,Ev.bind e (Ev.bind (Ev.iteF rfl (Ev.bindp hG Ev.rfl)) (tail _))⟩
  have:=hc.1 rfl
  simp only [decide_eq_false_iff_not,this,true_and]
  omega
theorem q2i {logs:List (List Int)}(hn:nnL IntR.nn logs≤1048576) : (qch logs∧1≤logs.length∧logs.length≤5∧Ev (fun _=>wh logs) (ya logs,true)∧Ev (fun _=>wk logs) (ya logs,true))∨(Ev (fun _=>wh logs) (⟨[],[],[]⟩,false)∧Ev (fun _=>wk logs) (⟨[],[],[]⟩,false)):=by
 have hl:=qjy (f:=IntR.nn) (l:=logs)
 have hxl:∀ {i:Nat} {x},logs[i]? = some x→x.length≤1048576:=fun hx=>Nat.le_trans (qkc (f:=IntR.nn) hx) hn
 have h1:=qmx (B:=u0) hn (fun i x s hx hs=>qly hn hx hs (qs0 (by have:=hxl hx; omega)) (qlj (by have:=hxl hx; omega)))
 have h2:=qmx (B:=qaa) hn (fun i x s hx hs=>qly hn hx hs (quj (by have:=hxl hx; omega)) (qh2 (by have:=hxl hx; omega)))
 unfold wh wk
 by_cases hlen:1≤logs.length∧logs.length≤5
 ·have c1:(!(zk (List.length logs:Int) 1 5))=false:=bF qed (fun h=>h (by omega))
  have c2:(!(kr (List.length logs:Int) 1 5))=false:=bF qow (fun h=>h (by omega))
  rcases h1 with ⟨a,e1⟩ | ⟨a,e1⟩ <;> rcases h2 with ⟨b,e2⟩ | ⟨b,e2⟩
  ·refine .inl ⟨a,hlen.1,hlen.2,Ev.jn e1 ?_,Ev.iteF c1 (Ev.jn e2 Ev.rfl)⟩
   unfold u9
   exact Ev.iteF c2 Ev.rfl
  ·exact absurd a b
  ·exact absurd b a
  ·exact .inr ⟨Ev.jn_ret e1,Ev.iteF c1 (Ev.jn_ret e2)⟩
 ·have c1:(!(zk (List.length logs:Int) 1 5))=true:=qed.2 (by omega)
  have c2:(!(kr (List.length logs:Int) 1 5))=true:=qow.2 (by omega)
  right
  refine ⟨?_,Ev.iteT c1 Ev.rfl⟩
  rcases h1 with ⟨a,e1⟩ | ⟨a,e1⟩
  ·refine Ev.jn e1 ?_
   unfold u9
   exact Ev.iteT c2 Ev.rfl
  ·exact Ev.jn_ret e1

def qa0:Election→List ElectStep→List Bool→Election × List Bool
 | e,[],d=>(e,d)
 | e,x::q,d=>qa0 (qf9 e (est e x)).1 q (d++[(qf9 e (est e x)).2])
def Way (e:Election)(m:Nat) : Prop:=(∃ g,Inv e g)∧Sta e∧e.Post.length≤20∧e.Led.length+m≤80
theorem Way.step {e:Election}{m:Nat}{x:ElectStep}(h:Way e (m+1)) : Way (qf9 e (est e x)).1 m:=by
 obtain ⟨⟨g,hI⟩,hs,hp,hl⟩:=h
 cases he:est e x with
 | none=>exact ⟨⟨g,hI⟩,hs,hp,by show e.Led.length+m≤80; omega⟩
 | some e' =>
  obtain ⟨g',h1,h2⟩:=q3a hI hs he
  have hk:=qve he
  have:=hk.led1
  exact ⟨⟨g',h1⟩,h2,hk.post hp,by show e'.Led.length+m≤80; omega⟩
theorem Way.fit {e:Election}{m:Nat}(h:Way e m) : Fit e:=by
 obtain ⟨⟨g,hI⟩,hs,hp,hl⟩:=h
 exact hI.fit hp (by omega)
theorem Way.good {e:Election}{m:Nat}(h:Way e m) : elP e:=by
 obtain ⟨⟨g,hI⟩,hs,hp,hl⟩:=h
 exact hI.good hp (by omega)
theorem qlc:∀ {l:List ElectStep} {e:Election} {d:List Bool},Way e l.length→Way (qa0 e l d).1 0∧(qa0 e l d).2.length=d.length+l.length:=by
 intro l
 induction l with
 | nil=>intro e d h; exact ⟨h,rfl⟩
 | cons x l ih =>
  intro e d h
  obtain ⟨h1,h2⟩:=ih (d:=d++[(qf9 e (est e x)).2]) (h.step (x:=x))
  exact ⟨h1,by rw [qa0,h2]; simp; omega⟩
theorem qg8 {logs:List (List Int)}(h:qch logs)(h1:1≤logs.length)(h2:logs.length≤5){m:Nat}(hm:m≤80) : Way (ya logs) m:=by
 obtain ⟨a,b⟩:=qva h h1 h2
 exact ⟨⟨_,a⟩,b,by simp [ya],by simp [ya]; omega⟩
theorem qkb {e:Election}(h:elP e) : Ev (fun _=>kt e) true:=by
 obtain ⟨b,e1,hb⟩:=qky h.fit.nn
 rw [hb.2 h] at e1
 exact e1
theorem q5s {e:Election}{m:Nat}{x:ElectStep}(h:Way e (m+1)) : Ev (fun k=>wn k e x) (match est e x with | some e'=>(e',true) | none=>(⟨[],[],[]⟩,false)):=by
 have:=q3q (x:=x) (d:=fun _=>true) h.fit h.2.1 (fun e' he=>by
  have hw:=h.step (x:=x)
  rw [he] at hw
  exact qkb hw.good) (fun _ _ _=>rfl)
 cases he:est e x with
 | none=>rw [he] at this; exact this
 | some e'=>rw [he] at this; exact this
theorem qov {l:List Bool}{b:Bool}(h:l.length≤1000) : jo 1 l [b]=some (l++[b]):=by
 unfold jo
 rw [if_pos (by simp only [List.length_cons,List.length_nil]; omega)]
theorem q4a {logs:List (List Int)}{l:List ElectStep}(ho:qch logs)(h1:1≤logs.length)(h2:logs.length≤5)(hl:l.length≤80)(e:Ev (fun _=>wk logs) (ya logs,true)) : Ev (fun k=>k8 k logs l) ((qa0 (ya logs) l []).1,(qa0 (ya logs) l []).2,true):=by
 unfold k8
 refine Ev.bind e (Ev.iteF (by simp; omega) ?_)
 refine Ev.jn (s:=((qa0 (ya logs) l []).2,(qa0 (ya logs) l []).1)) (xz (B:=fun k i x (s:List Bool × Election)=>w8 k i x s.1 s.2) (by omega) (fun i q s=>∃ e d,s=(d,e)∧Way e q.length∧d.length+q.length≤80∧qa0 e q d=qa0 (ya logs) l []) ⟨ya logs,[],rfl,qg8 ho h1 h2 hl,by simpa using hl,rfl⟩ (fun i x q s hs => .inl ?_) (fun i s hs=>?_)) Ev.rfl
 ·obtain ⟨e,d,rfl,hw,hd,hr⟩:=hs
  have hst:=q5s (x:=x) hw
  refine ⟨(d++[(qf9 e (est e x)).2],(qf9 e (est e x)).1),?_,_,_,rfl,hw.step,by simp at hd ⊢; omega,hr⟩
  unfold w8
  cases he:est e x with
  | none =>
   rw [he] at hst
   refine Ev.bind hst (Ev.bind (Ev.iteF rfl Ev.rfl) ?_)
   unfold ur
   exact Ev.bindp (qov (by simp at hd ⊢; omega)) Ev.rfl
  | some e' =>
   rw [he] at hst
   refine Ev.bind hst (Ev.bind (Ev.iteT rfl Ev.rfl) ?_)
   unfold ur
   exact Ev.bindp (qov (by simp at hd ⊢; omega)) Ev.rfl
 ·obtain ⟨e,d,rfl,hw,hd,hr⟩:=hs
  rw [←hr]
  rfl
theorem q4u {logs:List (List Int)}{l:List ElectStep}(ho:qch logs)(h1:1≤logs.length)(h2:logs.length≤5)(hl:l.length≤80)(e:Ev (fun _=>wh logs) (ya logs,true)) : Ev (fun k=>k7 k logs l) ((qa0 (ya logs) l []).1,(qa0 (ya logs) l []).2,true):=by
 unfold k7
 refine Ev.bind e (Ev.iteF (by simp; omega) ?_)
 have hfin:=qlc (l:=l) (d:=[]) (qg8 ho h1 h2 hl)
 refine Ev.jn (s:=((qa0 (ya logs) l []).2,(qa0 (ya logs) l []).1)) (xz (B:=fun k i x (s:List Bool × Election)=>w9 k i x s.1 s.2) (by omega) (fun i q s=>∃ e d,s=(d,e)∧Way e q.length∧d.length+q.length≤80∧qa0 e q d=qa0 (ya logs) l []) ⟨ya logs,[],rfl,qg8 ho h1 h2 hl,by simpa using hl,rfl⟩ (fun i x q s hs => .inl ?_) (fun i s hs=>?_)) ?_
 ·obtain ⟨e,d,rfl,hw,hd,hr⟩:=hs
  have hst:=q4r (x:=x) hw.fit
  refine ⟨(d++[(qf9 e (est e x)).2],(qf9 e (est e x)).1),?_,_,_,rfl,hw.step,by simp at hd ⊢; omega,hr⟩
  unfold w9
  refine Ev.bind (q1q hw.fit.nn) (Ev.bind hst (Ev.bind (a:=(qf9 e (est e x)).1) ?_ ?_))
  ·cases est e x with
   | none=>exact Ev.iteF rfl Ev.rfl
   | some e'=>exact Ev.iteT rfl Ev.rfl
  ·unfold qbm
   exact Ev.bindp (qov (by simp at hd ⊢; omega)) Ev.rfl
 ·obtain ⟨e,d,rfl,hw,hd,hr⟩:=hs
  rw [←hr]
  rfl
 ·unfold qbs
  exact Ev.bind (q1q hfin.1.fit.nn) Ev.rfl
theorem PlayElection_all {v_0:List (List Int)}{v_1:List ElectStep}(b0:nnL IntR.nn v_0≤1048576) : (qch v_0∧1≤v_0.length∧v_0.length≤5∧v_1.length≤80∧Ev (fun k=>k7 k v_0 v_1) ((qa0 (ya v_0) v_1 []).1,(qa0 (ya v_0) v_1 []).2,true)∧Ev (fun k=>k8 k v_0 v_1) ((qa0 (ya v_0) v_1 []).1,(qa0 (ya v_0) v_1 []).2,true))∨(Ev (fun k=>k7 k v_0 v_1) (⟨[],[],[]⟩,[],false)∧Ev (fun k=>k8 k v_0 v_1) (⟨[],[],[]⟩,[],false)):=by
 rcases q2i b0 with ⟨ho,h1,h2,e1,e2⟩ | ⟨e1,e2⟩
 ·by_cases hl:v_1.length≤80
  ·exact .inl ⟨ho,h1,h2,hl,q4u ho h1 h2 hl e1,q4a ho h1 h2 hl e2⟩
  ·unfold k7 k8
   exact .inr ⟨Ev.bind e1 (Ev.iteT (by simp; omega) Ev.rfl),Ev.bind e2 (Ev.iteT (by simp; omega) Ev.rfl)⟩
 ·unfold k7 k8
  exact .inr ⟨Ev.bind e1 (Ev.iteT rfl Ev.rfl),Ev.bind e2 (Ev.iteT rfl Ev.rfl)⟩
end Go.Proofs.Ytpddolihbnfahaa.X
