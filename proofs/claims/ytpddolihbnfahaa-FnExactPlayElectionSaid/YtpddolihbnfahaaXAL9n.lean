/- New elections, and plays. -/
import Derived.Test.YtpddolihbnfahaaXAL9s
set_option linter.unusedVariables false
set_option linter.unusedSimpArgs false
namespace Go.Proofs.Ytpddolihbnfahaa.X
open Go

def yj (logs:List (List Int)) : Election:=⟨logs.map (fun l=>⟨10,-1,false,false,[],l⟩),[],[]⟩
def qc8 (logs:List (List Int)) : Prop:=∀ l∈logs,qek l∧ko l≤10
theorem qma {logs:List (List Int)}{i:Int}{s:Server}(h:At (yj logs) i s) : ∃ l∈logs,s=⟨10,-1,false,false,[],l⟩:=by
 have h2:(logs.map (fun l=>(⟨10,-1,false,false,[],l⟩ : Server)))[i.toNat]? = some s:=h.2
 rw [List.getElem?_map] at h2
 cases hl:logs[i.toNat]? with
 | none=>rw [hl] at h2; cases h2
 | some l =>
  rw [hl] at h2
  simp only [Option.map_some,Option.some.injEq] at h2
  exact ⟨l,List.mem_of_getElem? hl,h2.symm⟩
theorem qxr {logs:List (List Int)}(h:qc8 logs)(h1:1≤logs.length)(h2:logs.length≤5) : Inv (yj logs) (fun _ _ => -1)∧Sta (yj logs):=by
 have hl:(yj logs).Servers.length=logs.length:=by simp [yj]
 refine ⟨⟨by omega,by omega,fun i s hs=>?_,fun m hm=>?_,fun i s t hs hne=>absurd rfl hne,fun v hv=>?_,fun i s hs hle=>?_,?_⟩,fun i s hs hst=>?_⟩
 ·obtain ⟨l,hl2,rfl⟩:=qma hs
  exact ⟨by simp,by simp,by simp,by rw [hl]; dsimp only; omega,by simp,qbm.2 ⟨by simp,by simp⟩,fun _ _=>rfl,(h l hl2).1,fun _ _=>rfl,rfl,by simp⟩
 ·simp [yj] at hm
 ·simp [yj] at hv
 ·obtain ⟨l,hl2,rfl⟩:=qma hs
  cases hle
 ·simp [yj]
 ·obtain ⟨l,hl2,rfl⟩:=qma hs
  cases hst
theorem qts {logs:List (List Int)}{i:Nat}{x:List Int}(hx:logs[i]? = some x) : yj (logs.take (i+1))=⟨(yj (logs.take i)).Servers++[⟨10,-1,false,false,[],x⟩],[],[]⟩:=by
 unfold yj
 rw [List.take_add_one,hx]
 simp
theorem zes {F:Nat→Option Bool}{l:List Int}{G:Option Int}(hF:Is F (qek l))(hG:G=some (ko l)) : ∃ b:Bool,Ev (fun k=>(F k).bind fun v=>(if (!v)=true then some true else G.bind fun w=>some (decide ((10:Int)<w)))) b∧(b=false↔qek l∧ko l≤10):=by
 obtain ⟨b,e,hb⟩:=hF
 cases b with
 | false=>exact ⟨true,Ev.bind e (Ev.iteT rfl Ev.rfl),by simp only [Bool.true_eq_false,false_iff]; exact fun h=>by have:=hb.2 h.1; cases this⟩
 | true =>
  refine ⟨decide (10<ko l),Ev.bind e (Ev.iteF rfl (Ev.bindp hG Ev.rfl)),?_⟩
  have:=hb.1 rfl
  simp only [decide_eq_false_iff_not,this,true_and]
  omega
theorem qnc {B:Nat→List Int→Election→Option (Oc Election (Election × Bool))}{logs:List (List Int)}(hn:nnL IntR.nn logs≤1048576)
  (hB:∀ i x s,logs[i]? = some x→s.Servers.length≤1048576→∃ b:Bool,(b=false↔qek x∧ko x≤10)∧Ev (fun _=>B i x s) (if b=true then .ret (⟨[],[],[]⟩,false) else .nxt ⟨s.Servers++[⟨10,-1,false,false,[],x⟩],[],[]⟩)) :
  (qc8 logs∧Ev (fun _=>ya B logs ⟨[],[],[]⟩) (.nxt (yj logs)))∨(¬ qc8 logs∧Ev (fun _=>ya B logs ⟨[],[],[]⟩) (.ret (⟨[],[],[]⟩,false))):=by
 have hl:=qdg (f:=IntR.nn) (l:=logs)
 have key:∀ o,((qc8 logs∧o = .nxt (yj logs))∨(¬ qc8 logs∧o = .ret (⟨[],[],[]⟩,false)))→Ev (fun _=>ya B logs ⟨[],[],[]⟩) o:=by
  intro o ho
  refine qb8 (B:=fun _=>B) (by omega) (fun i q s=>logs.drop i=q∧s=yj (logs.take i)∧∀ l∈logs.take i,qek l∧ko l≤10) ⟨rfl,by simp [yj],by simp⟩ (fun i x q s ⟨hq,hs,hp⟩=>?_) (fun i s ⟨hq,hs,hp⟩=>?_)
  ·have hx:logs[i]? = some x:=by have:=congrArg (fun z=>z[0]?) hq; simpa using this
   have hsl:s.Servers.length≤1048576:=by rw [hs]; simp [yj]; omega
   obtain ⟨b,hb,e⟩:=hB i x s hx hsl
   cases b with
   | true =>
    refine .inr (.inr ⟨_,e,?_⟩)
    rcases ho with ⟨h1,_⟩ | ⟨_,h1⟩
    ·have:=hb.2 (h1 x (List.mem_of_getElem? hx))
     cases this
    ·exact h1
   | false =>
    refine .inl ⟨_,e,by have:=congrArg (List.drop 1) hq; simpa [List.drop_drop] using this,?_,fun l hl2=>?_⟩
    ·rw [qts hx,hs]
    ·rw [List.take_add_one,hx] at hl2
     rcases List.mem_append.1 hl2 with h3 | h3
     ·exact hp l h3
     ·simp at h3
      subst h3
      exact hb.1 rfl
  ·have hi:logs.length≤i:=by have:=congrArg List.length hq; simp at this; omega
   rw [List.take_of_length_le hi] at hs hp
   subst hs
   rcases ho with ⟨_,h1⟩ | ⟨h1,_⟩
   ·exact h1
   ·exact absurd hp h1
 by_cases h:qc8 logs
 ·exact .inl ⟨h,key _ (.inl ⟨h,rfl⟩)⟩
 ·exact .inr ⟨h,key _ (.inr ⟨h,rfl⟩)⟩
theorem qnl {F:Nat→Option Bool}{G:Option Int}{logs:List (List Int)}{i:Nat}{x:List Int}{s:Election}(hn:nnL IntR.nn logs≤1048576)(hx:logs[i]? = some x)(hs:s.Servers.length≤1048576)(hF:Is F (qek x))(hG:G=some (ko x)) :
  ∃ b:Bool,(b=false↔qek x∧ko x≤10)∧Ev (fun k=>(F k).bind fun v47=>((if (!v47)=true then (some true) else (G.bind fun v53=>(some (decide ((10:Int)<v53))))).bind fun v53=>(if v53=true then (some (.ret ((Election.mk [] [] []),false)) : Option (Oc Election (Election × Bool))) else ((ki 8 ([] : List Int) x).bind fun l83=>((ki 72 s.Servers ([(Server.mk 10 (-1) false false [] l83)])).bind fun l100=>(some (.nxt (Election.mk l100 [] []))))))))
   (if b=true then .ret (⟨[],[],[]⟩,false) else .nxt ⟨s.Servers++[⟨10,-1,false,false,[],x⟩],[],[]⟩):=by
 have hxl:x.length≤1048576:=Nat.le_trans (qdf (f:=IntR.nn) hx) hn
 obtain ⟨c,e,hc⟩:=hF
 have tail:∀ b:Bool,Ev (fun _:Nat=>(if b=true then (some (.ret ((Election.mk [] [] []),false)) : Option (Oc Election (Election × Bool))) else ((ki 8 ([] : List Int) x).bind fun l83=>((ki 72 s.Servers ([(Server.mk 10 (-1) false false [] l83)])).bind fun l100=>(some (.nxt (Election.mk l100 [] []))))))) (if b=true then .ret (⟨[],[],[]⟩,false) else .nxt ⟨s.Servers++[⟨10,-1,false,false,[],x⟩],[],[]⟩):=by
  intro b
  cases b with
  | true=>exact Ev.iteT rfl Ev.rfl
  | false =>
   refine Ev.iteF rfl (Ev.bindp (qce (by omega)) (Ev.bindp (a:=s.Servers++[⟨10,-1,false,false,[],x⟩]) ?_ Ev.rfl))
   unfold ki
   rw [if_pos (by simp only [List.length_cons,List.length_nil]; omega)]
 cases c with
 | false=>exact ⟨true,by simp only [Bool.true_eq_false,false_iff]; exact fun h=>(by have:=hc.2 h.1; cases this),Ev.bind e (Ev.bind (Ev.iteT rfl Ev.rfl) (tail true))⟩
 | true =>
  refine ⟨decide (10<ko x),?_,Ev.bind e (Ev.bind (Ev.iteF rfl (Ev.bindp hG Ev.rfl)) (tail _))⟩
  have:=hc.1 rfl
  simp only [decide_eq_false_iff_not,this,true_and]
  omega
theorem q8g {logs:List (List Int)}(hn:nnL IntR.nn logs≤1048576) : (qc8 logs∧1≤logs.length∧logs.length≤5∧Ev (fun _=>wn logs) (yj logs,true)∧Ev (fun _=>wq logs) (yj logs,true))∨(Ev (fun _=>wn logs) (⟨[],[],[]⟩,false)∧Ev (fun _=>wq logs) (⟨[],[],[]⟩,false)):=by
 have hl:=qdg (f:=IntR.nn) (l:=logs)
 have hxl:∀ {i:Nat} {x},logs[i]? = some x→x.length≤1048576:=fun hx=>Nat.le_trans (qdf (f:=IntR.nn) hx) hn
 have h1:=qnc (B:=qau) hn (fun i x s hx hs=>qnl hn hx hs (q9r (by have:=hxl hx; omega)) (qwa (by have:=hxl hx; omega)))
 have h2:=qnc (B:=qas) hn (fun i x s hx hs=>qnl hn hx hs (qtg (by have:=hxl hx; omega)) (qkt (by have:=hxl hx; omega)))
 unfold wn wq
 by_cases hlen:1≤logs.length∧logs.length≤5
 ·have c1:(!(zl (List.length logs:Int) 1 5))=false:=bF qe2 (fun h=>h (by omega))
  have c2:(!(kw (List.length logs:Int) 1 5))=false:=bF qqo (fun h=>h (by omega))
  rcases h1 with ⟨a,e1⟩ | ⟨a,e1⟩ <;> rcases h2 with ⟨b,e2⟩ | ⟨b,e2⟩
  ·refine .inl ⟨a,hlen.1,hlen.2,Ev.jn e1 ?_,Ev.iteF c1 (Ev.jn e2 Ev.rfl)⟩
   unfold qar
   exact Ev.iteF c2 Ev.rfl
  ·exact absurd a b
  ·exact absurd b a
  ·exact .inr ⟨Ev.jn_ret e1,Ev.iteF c1 (Ev.jn_ret e2)⟩
 ·have c1:(!(zl (List.length logs:Int) 1 5))=true:=qe2.2 (by omega)
  have c2:(!(kw (List.length logs:Int) 1 5))=true:=qqo.2 (by omega)
  right
  refine ⟨?_,Ev.iteT c1 Ev.rfl⟩
  rcases h1 with ⟨a,e1⟩ | ⟨a,e1⟩
  ·refine Ev.jn e1 ?_
   unfold qar
   exact Ev.iteT c2 Ev.rfl
  ·exact Ev.jn_ret e1

def qbl:Election→List ElectStep→List Bool→Election × List Bool
 | e,[],d=>(e,d)
 | e,x::q,d=>qbl (qhn e (est e x)).1 q (d++[(qhn e (est e x)).2])
def Way (e:Election)(m:Nat) : Prop:=(∃ g,Inv e g)∧Sta e∧e.Post.length≤20∧e.Led.length+m≤80
theorem Way.step {e:Election}{m:Nat}{x:ElectStep}(h:Way e (m+1)) : Way (qhn e (est e x)).1 m:=by
 obtain ⟨⟨g,hI⟩,hs,hp,hl⟩:=h
 cases he:est e x with
 | none=>exact ⟨⟨g,hI⟩,hs,hp,by show e.Led.length+m≤80; omega⟩
 | some e' =>
  obtain ⟨g',h1,h2⟩:=q8b hI hs he
  have hk:=qxv he
  have:=hk.led1
  exact ⟨⟨g',h1⟩,h2,hk.post hp,by show e'.Led.length+m≤80; omega⟩
theorem Way.fit {e:Election}{m:Nat}(h:Way e m) : Fit e:=by
 obtain ⟨⟨g,hI⟩,hs,hp,hl⟩:=h
 exact hI.fit hp (by omega)
theorem Way.good {e:Election}{m:Nat}(h:Way e m) : elP e:=by
 obtain ⟨⟨g,hI⟩,hs,hp,hl⟩:=h
 exact hI.good hp (by omega)
theorem qnn:∀ {l:List ElectStep} {e:Election} {d:List Bool},Way e l.length→Way (qbl e l d).1 0∧(qbl e l d).2.length=d.length+l.length:=by
 intro l
 induction l with
 | nil=>intro e d h; exact ⟨h,rfl⟩
 | cons x l ih =>
  intro e d h
  obtain ⟨h1,h2⟩:=ih (d:=d++[(qhn e (est e x)).2]) (h.step (x:=x))
  exact ⟨h1,by rw [qbl,h2]; simp; omega⟩
theorem qib {logs:List (List Int)}(h:qc8 logs)(h1:1≤logs.length)(h2:logs.length≤5){m:Nat}(hm:m≤80) : Way (yj logs) m:=by
 obtain ⟨a,b⟩:=qxr h h1 h2
 exact ⟨⟨_,a⟩,b,by simp [yj],by simp [yj]; omega⟩
theorem q8s {e:Election}(h:elP e) : Ev (fun _=>xe e) true:=by
 obtain ⟨b,e1,hb⟩:=qmp h.fit.nn
 rw [hb.2 h] at e1
 exact e1
theorem zbd {e:Election}{m:Nat}{x:ElectStep}(h:Way e (m+1)) : Ev (fun k=>wy k e x) (match est e x with | some e'=>(e',true) | none=>(⟨[],[],[]⟩,false)):=by
 have:=q99 (x:=x) (d:=fun _=>true) h.fit h.2.1 (fun e' he=>by
  have hw:=h.step (x:=x)
  rw [he] at hw
  exact q8s hw.good) (fun _ _ _=>rfl)
 cases he:est e x with
 | none=>rw [he] at this; exact this
 | some e'=>rw [he] at this; exact this
theorem qqn {l:List Bool}{b:Bool}(h:l.length≤1000) : ki 1 l [b]=some (l++[b]):=by
 unfold ki
 rw [if_pos (by simp only [List.length_cons,List.length_nil]; omega)]
theorem zay {logs:List (List Int)}{l:List ElectStep}(ho:qc8 logs)(h1:1≤logs.length)(h2:logs.length≤5)(hl:l.length≤80)(e:Ev (fun _=>wq logs) (yj logs,true)) : Ev (fun k=>ku k logs l) ((qbl (yj logs) l []).1,(qbl (yj logs) l []).2,true):=by
 unfold ku
 refine Ev.bind e (Ev.iteF (by simp; omega) ?_)
 refine Ev.jn (s:=((qbl (yj logs) l []).2,(qbl (yj logs) l []).1)) (qb8 (B:=fun k i x (s:List Bool × Election)=>w6 k i x s.1 s.2) (by omega) (fun i q s=>∃ e d,s=(d,e)∧Way e q.length∧d.length+q.length≤80∧qbl e q d=qbl (yj logs) l []) ⟨yj logs,[],rfl,qib ho h1 h2 hl,by simpa using hl,rfl⟩ (fun i x q s hs => .inl ?_) (fun i s hs=>?_)) Ev.rfl
 ·obtain ⟨e,d,rfl,hw,hd,hr⟩:=hs
  have hst:=zbd (x:=x) hw
  refine ⟨(d++[(qhn e (est e x)).2],(qhn e (est e x)).1),?_,_,_,rfl,hw.step,by simp at hd ⊢; omega,hr⟩
  unfold w6
  cases he:est e x with
  | none =>
   rw [he] at hst
   refine Ev.bind hst (Ev.bind (Ev.iteF rfl Ev.rfl) ?_)
   unfold u2
   exact Ev.bindp (qqn (by simp at hd ⊢; omega)) Ev.rfl
  | some e' =>
   rw [he] at hst
   refine Ev.bind hst (Ev.bind (Ev.iteT rfl Ev.rfl) ?_)
   unfold u2
   exact Ev.bindp (qqn (by simp at hd ⊢; omega)) Ev.rfl
 ·obtain ⟨e,d,rfl,hw,hd,hr⟩:=hs
  rw [←hr]
  rfl
theorem q98 {logs:List (List Int)}{l:List ElectStep}(ho:qc8 logs)(h1:1≤logs.length)(h2:logs.length≤5)(hl:l.length≤80)(e:Ev (fun _=>wn logs) (yj logs,true)) : Ev (fun k=>k9 k logs l) ((qbl (yj logs) l []).1,(qbl (yj logs) l []).2,true):=by
 unfold k9
 refine Ev.bind e (Ev.iteF (by simp; omega) ?_)
 have hfin:=qnn (l:=l) (d:=[]) (qib ho h1 h2 hl)
 refine Ev.jn (s:=((qbl (yj logs) l []).2,(qbl (yj logs) l []).1)) (qb8 (B:=fun k i x (s:List Bool × Election)=>xd k i x s.1 s.2) (by omega) (fun i q s=>∃ e d,s=(d,e)∧Way e q.length∧d.length+q.length≤80∧qbl e q d=qbl (yj logs) l []) ⟨yj logs,[],rfl,qib ho h1 h2 hl,by simpa using hl,rfl⟩ (fun i x q s hs => .inl ?_) (fun i s hs=>?_)) ?_
 ·obtain ⟨e,d,rfl,hw,hd,hr⟩:=hs
  have hst:=za4 (x:=x) hw.fit
  refine ⟨(d++[(qhn e (est e x)).2],(qhn e (est e x)).1),?_,_,_,rfl,hw.step,by simp at hd ⊢; omega,hr⟩
  unfold xd
  refine Ev.bind (q7a hw.fit.nn) (Ev.bind hst (Ev.bind (a:=(qhn e (est e x)).1) ?_ ?_))
  ·cases est e x with
   | none=>exact Ev.iteF rfl Ev.rfl
   | some e'=>exact Ev.iteT rfl Ev.rfl
  ·unfold qca
   exact Ev.bindp (qqn (by simp at hd ⊢; omega)) Ev.rfl
 ·obtain ⟨e,d,rfl,hw,hd,hr⟩:=hs
  rw [←hr]
  rfl
 ·unfold qb9
  exact Ev.bind (q7a hfin.1.fit.nn) Ev.rfl
theorem PlayElection_all {v_0:List (List Int)}{v_1:List ElectStep}(b0:nnL IntR.nn v_0≤1048576) : (qc8 v_0∧1≤v_0.length∧v_0.length≤5∧v_1.length≤80∧Ev (fun k=>k9 k v_0 v_1) ((qbl (yj v_0) v_1 []).1,(qbl (yj v_0) v_1 []).2,true)∧Ev (fun k=>ku k v_0 v_1) ((qbl (yj v_0) v_1 []).1,(qbl (yj v_0) v_1 []).2,true))∨(Ev (fun k=>k9 k v_0 v_1) (⟨[],[],[]⟩,[],false)∧Ev (fun k=>ku k v_0 v_1) (⟨[],[],[]⟩,[],false)):=by
 rcases q8g b0 with ⟨ho,h1,h2,e1,e2⟩ | ⟨e1,e2⟩
 ·by_cases hl:v_1.length≤80
  ·exact .inl ⟨ho,h1,h2,hl,q98 ho h1 h2 hl e1,zay ho h1 h2 hl e2⟩
  ·unfold k9 ku
   exact .inr ⟨Ev.bind e1 (Ev.iteT (by simp; omega) Ev.rfl),Ev.bind e2 (Ev.iteT (by simp; omega) Ev.rfl)⟩
 ·unfold k9 ku
  exact .inr ⟨Ev.bind e1 (Ev.iteT rfl Ev.rfl),Ev.bind e2 (Ev.iteT rfl Ev.rfl)⟩
end Go.Proofs.Ytpddolihbnfahaa.X
