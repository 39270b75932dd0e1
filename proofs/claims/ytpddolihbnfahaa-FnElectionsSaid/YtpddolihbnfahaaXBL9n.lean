/- New elections, and plays. -/
import Derived.Test.YtpddolihbnfahaaXBL9s
set_option linter.unusedVariables false
set_option linter.unusedSimpArgs false
namespace Go.Proofs.Ytpddolihbnfahaa.X
open Go

def yb (logs:List (List Int)) : Election:=⟨logs.map (fun l=>⟨10,-1,false,false,[],l⟩),[],[]⟩
def qcg (logs:List (List Int)) : Prop:=∀ l∈logs,qd3 l∧jo l≤10
theorem qkb {logs:List (List Int)}{i:Int}{s:Server}(h:At (yb logs) i s) : ∃ l∈logs,s=⟨10,-1,false,false,[],l⟩:=by
 have h2:(logs.map (fun l=>(⟨10,-1,false,false,[],l⟩ : Server)))[i.toNat]? = some s:=h.2
 rw [List.getElem?_map] at h2
 cases hl:logs[i.toNat]? with
 | none=>rw [hl] at h2; cases h2
 | some l =>
  rw [hl] at h2
  simp only [Option.map_some,Option.some.injEq] at h2
  exact ⟨l,List.mem_of_getElem? hl,h2.symm⟩
theorem qvo {logs:List (List Int)}(h:qcg logs)(h1:1≤logs.length)(h2:logs.length≤5) : Inv (yb logs) (fun _ _ => -1)∧Sta (yb logs):=by
 have hl:(yb logs).Servers.length=logs.length:=by simp [yb]
 refine ⟨⟨by omega,by omega,fun i s hs=>?_,fun m hm=>?_,fun i s t hs hne=>absurd rfl hne,fun v hv=>?_,fun i s hs hle=>?_,?_⟩,fun i s hs hst=>?_⟩
 ·obtain ⟨l,hl2,rfl⟩:=qkb hs
  exact ⟨by simp,by simp,by simp,by rw [hl]; dsimp only; omega,by simp,qa3.2 ⟨by simp,by simp⟩,fun _ _=>rfl,(h l hl2).1,fun _ _=>rfl,rfl,by simp⟩
 ·simp [yb] at hm
 ·simp [yb] at hv
 ·obtain ⟨l,hl2,rfl⟩:=qkb hs
  cases hle
 ·simp [yb]
 ·obtain ⟨l,hl2,rfl⟩:=qkb hs
  cases hst
theorem qts {logs:List (List Int)}{i:Nat}{x:List Int}(hx:logs[i]? = some x) : yb (logs.take (i+1))=⟨(yb (logs.take i)).Servers++[⟨10,-1,false,false,[],x⟩],[],[]⟩:=by
 unfold yb
 rw [List.take_add_one,hx]
 simp
theorem q8a {F:Nat→Option Bool}{l:List Int}{G:Option Int}(hF:Is F (qd3 l))(hG:G=some (jo l)) : ∃ b:Bool,Ev (fun k=>(F k).bind fun v=>(if (!v)=true then some true else G.bind fun w=>some (decide ((10:Int)<w)))) b∧(b=false↔qd3 l∧jo l≤10):=by
 obtain ⟨b,e,hb⟩:=hF
 cases b with
 | false=>exact ⟨true,Ev.bind e (Ev.iteT rfl Ev.rfl),by simp only [Bool.true_eq_false,false_iff]; exact fun h=>by have:=hb.2 h.1; cases this⟩
 | true =>
  refine ⟨decide (10<jo l),Ev.bind e (Ev.iteF rfl (Ev.bindp hG Ev.rfl)),?_⟩
  have:=hb.1 rfl
  simp only [decide_eq_false_iff_not,this,true_and]
  omega
theorem qmg {B:Nat→List Int→Election→Option (Oc Election (Election × Bool))}{logs:List (List Int)}(hn:nnL IntR.nn logs≤1048576)
  (hB:∀ i x s,logs[i]? = some x→s.Servers.length≤1048576→∃ b:Bool,(b=false↔qd3 x∧jo x≤10)∧Ev (fun _=>B i x s) (if b=true then .ret (⟨[],[],[]⟩,false) else .nxt ⟨s.Servers++[⟨10,-1,false,false,[],x⟩],[],[]⟩)) :
  (qcg logs∧Ev (fun _=>ka B logs ⟨[],[],[]⟩) (.nxt (yb logs)))∨(¬ qcg logs∧Ev (fun _=>ka B logs ⟨[],[],[]⟩) (.ret (⟨[],[],[]⟩,false))):=by
 have hl:=qj9 (f:=IntR.nn) (l:=logs)
 have key:∀ o,((qcg logs∧o = .nxt (yb logs))∨(¬ qcg logs∧o = .ret (⟨[],[],[]⟩,false)))→Ev (fun _=>ka B logs ⟨[],[],[]⟩) o:=by
  intro o ho
  refine xy (B:=fun _=>B) (by omega) (fun i q s=>logs.drop i=q∧s=yb (logs.take i)∧∀ l∈logs.take i,qd3 l∧jo l≤10) ⟨rfl,by simp [yb],by simp⟩ (fun i x q s ⟨hq,hs,hp⟩=>?_) (fun i s ⟨hq,hs,hp⟩=>?_)
  ·have hx:logs[i]? = some x:=by have:=congrArg (fun z=>z[0]?) hq; simpa using this
   have hsl:s.Servers.length≤1048576:=by rw [hs]; simp [yb]; omega
   obtain ⟨b,hb,e⟩:=hB i x s hx hsl
   cases b with
   | true =>
    refine .inr (.inr ⟨_,e,?_⟩)
    rcases ho with ⟨h1,_⟩ | ⟨_,h1⟩
    ·have:=hb.2 (h1 x (List.mem_of_getElem? hx))
     cases this
    ·exact h1
   | false =>
    refine .inl ⟨_,e,by have:=congrArg (List.drop 1) hq; simpa [List.drop_drop] using this,?_,fun l hl2=>?_⟩
    ·rw [qts hx,hs]
    ·rw [List.take_add_one,hx] at hl2
     rcases List.mem_append.1 hl2 with h3 | h3
     ·exact hp l h3
     ·simp at h3
      subst h3
      exact hb.1 rfl
  ·have hi:logs.length≤i:=by have:=congrArg List.length hq; simp at this; omega
   rw [List.take_of_length_le hi] at hs hp
   subst hs
   rcases ho with ⟨_,h1⟩ | ⟨h1,_⟩
   ·exact h1
   ·exact absurd hp h1
 by_cases h:qcg logs
 ·exact .inl ⟨h,key _ (.inl ⟨h,rfl⟩)⟩
 ·exact .inr ⟨h,key _ (.inr ⟨h,rfl⟩)⟩
theorem ql1 {F:Nat→Option Bool}{G:Option Int}{logs:List (List Int)}{i:Nat}{x:List Int}{s:Election}(hn:nnL IntR.nn logs≤1048576)(hx:logs[i]? = some x)(hs:s.Servers.length≤1048576)(hF:Is F (qd3 x))(hG:G=some (jo x)) :
  ∃ b:Bool,(b=false↔qd3 x∧jo x≤10)∧Ev (fun k=>(F k).bind fun v47=>((if (!v47)=true then (some true) else (G.bind fun v53=>(some (decide ((10:Int)<v53))))).bind fun v53=>(if v53=true then (some (.ret ((Election.mk [] [] []),false)) : Option (Oc Election (Election × Bool))) else ((jq 8 ([] : List Int) x).bind fun l83=>((jq 72 s.Servers ([(Server.mk 10 (-1) false false [] l83)])).bind fun l100=>(some (.nxt (Election.mk l100 [] []))))))))
   (if b=true then .ret (⟨[],[],[]⟩,false) else .nxt ⟨s.Servers++[⟨10,-1,false,false,[],x⟩],[],[]⟩):=by
 have hxl:x.length≤1048576:=Nat.le_trans (qki (f:=IntR.nn) hx) hn
 obtain ⟨c,e,hc⟩:=hF
 have tail:∀ b:Bool,Ev (fun _:Nat=>(if b=true then (some (.ret ((Election.mk [] [] []),false)) : Option (Oc Election (Election × Bool))) else ((jq 8 ([] : List Int) x).bind fun l83=>((jq 72 s.Servers ([(Server.mk 10 (-1) false false [] l83)])).bind fun l100=>(some (.nxt (Election.mk l100 [] []))))))) (if b=true then .ret (⟨[],[],[]⟩,false) else .nxt ⟨s.Servers++[⟨10,-1,false,false,[],x⟩],[],[]⟩):=by
  intro b
  cases b with
  | true=>exact Ev.iteT rfl Ev.rfl
  | false =>
   refine Ev.iteF rfl (Ev.bindp (qbl (by omega)) (Ev.bindp (a:=s.Servers++[⟨10,-1,false,false,[],x⟩]) ?_ Ev.rfl))
   unfold jq
   rw [if_pos (by simp only [List.length_cons,List.length_nil]; omega)]
 cases c with
 | false=>exact ⟨true,by simp only [Bool.true_eq_false,false_iff]; exact fun h=>(by have:=hc.2 h.1; cases this),Ev.bind e (Ev.bind (Ev.iteT rfl Ev.rfl) (tail true))⟩
 | true =>
  refine ⟨decide (10<jo x),?_,Ev.bind e (Ev.bind (Ev.iteF rfl (Ev.bindp hG Ev.rfl)) (tail _))⟩
  have:=hc.1 rfl
  simp only [decide_eq_false_iff_not,this,true_and]
  omega
theorem q2h {logs:List (List Int)}(hn:nnL IntR.nn logs≤1048576) : (qcg logs∧1≤logs.length∧logs.length≤5∧Ev (fun _=>wm logs) (yb logs,true)∧Ev (fun _=>wj logs) (yb logs,true))∨(Ev (fun _=>wm logs) (⟨[],[],[]⟩,false)∧Ev (fun _=>wj logs) (⟨[],[],[]⟩,false)):=by
 have hl:=qj9 (f:=IntR.nn) (l:=logs)
 have hxl:∀ {i:Nat} {x},logs[i]? = some x→x.length≤1048576:=fun hx=>Nat.le_trans (qki (f:=IntR.nn) hx) hn
 have h1:=qmg (B:=qab) hn (fun i x s hx hs=>ql1 hn hx hs (qqw (by have:=hxl hx; omega)) (qmk (by have:=hxl hx; omega)))
 have h2:=qmg (B:=qae) hn (fun i x s hx hs=>ql1 hn hx hs (qtx (by have:=hxl hx; omega)) (qh1 (by have:=hxl hx; omega)))
 unfold wm wj
 by_cases hlen:1≤logs.length∧logs.length≤5
 ·have c1:(!(zi (List.length logs:Int) 1 5))=false:=bF qel (fun h=>h (by omega))
  have c2:(!(kh (List.length logs:Int) 1 5))=false:=bF qol (fun h=>h (by omega))
  rcases h1 with ⟨a,e1⟩ | ⟨a,e1⟩ <;> rcases h2 with ⟨b,e2⟩ | ⟨b,e2⟩
  ·refine .inl ⟨a,hlen.1,hlen.2,Ev.jn e1 ?_,Ev.iteF c1 (Ev.jn e2 Ev.rfl)⟩
   unfold qad
   exact Ev.iteF c2 Ev.rfl
  ·exact absurd a b
  ·exact absurd b a
  ·exact .inr ⟨Ev.jn_ret e1,Ev.iteF c1 (Ev.jn_ret e2)⟩
 ·have c1:(!(zi (List.length logs:Int) 1 5))=true:=qel.2 (by omega)
  have c2:(!(kh (List.length logs:Int) 1 5))=true:=qol.2 (by omega)
  right
  refine ⟨?_,Ev.iteT c1 Ev.rfl⟩
  rcases h1 with ⟨a,e1⟩ | ⟨a,e1⟩
  ·refine Ev.jn e1 ?_
   unfold qad
   exact Ev.iteT c2 Ev.rfl
  ·exact Ev.jn_ret e1

def qa0:Election→List ElectStep→List Bool→Election × List Bool
 | e,[],d=>(e,d)
 | e,x::q,d=>qa0 (qgd e (est e x)).1 q (d++[(qgd e (est e x)).2])
def Way (e:Election)(m:Nat) : Prop:=(∃ g,Inv e g)∧Sta e∧e.Post.length≤20∧e.Led.length+m≤80
theorem Way.step {e:Election}{m:Nat}{x:ElectStep}(h:Way e (m+1)) : Way (qgd e (est e x)).1 m:=by
 obtain ⟨⟨g,hI⟩,hs,hp,hl⟩:=h
 cases he:est e x with
 | none=>exact ⟨⟨g,hI⟩,hs,hp,by show e.Led.length+m≤80; omega⟩
 | some e' =>
  obtain ⟨g',h1,h2⟩:=q2u hI hs he
  have hk:=qwm he
  have:=hk.led1
  exact ⟨⟨g',h1⟩,h2,hk.post hp,by show e'.Led.length+m≤80; omega⟩
theorem Way.fit {e:Election}{m:Nat}(h:Way e m) : Fit e:=by
 obtain ⟨⟨g,hI⟩,hs,hp,hl⟩:=h
 exact hI.fit hp (by omega)
theorem Way.good {e:Election}{m:Nat}(h:Way e m) : elP e:=by
 obtain ⟨⟨g,hI⟩,hs,hp,hl⟩:=h
 exact hI.good hp (by omega)
theorem ql5:∀ {l:List ElectStep} {e:Election} {d:List Bool},Way e l.length→Way (qa0 e l d).1 0∧(qa0 e l d).2.length=d.length+l.length:=by
 intro l
 induction l with
 | nil=>intro e d h; exact ⟨h,rfl⟩
 | cons x l ih =>
  intro e d h
  obtain ⟨h1,h2⟩:=ih (d:=d++[(qgd e (est e x)).2]) (h.step (x:=x))
  exact ⟨h1,by rw [qa0,h2]; simp; omega⟩
theorem qg7 {logs:List (List Int)}(h:qcg logs)(h1:1≤logs.length)(h2:logs.length≤5){m:Nat}(hm:m≤80) : Way (yb logs) m:=by
 obtain ⟨a,b⟩:=qvo h h1 h2
 exact ⟨⟨_,a⟩,b,by simp [yb],by simp [yb]; omega⟩
theorem qjz {e:Election}(h:elP e) : Ev (fun _=>kw e) true:=by
 obtain ⟨b,e1,hb⟩:=qk9 h.fit.nn
 rw [hb.2 h] at e1
 exact e1
theorem q51 {e:Election}{m:Nat}{x:ElectStep}(h:Way e (m+1)) : Ev (fun k=>ww k e x) (match est e x with | some e'=>(e',true) | none=>(⟨[],[],[]⟩,false)):=by
 have:=q5f (x:=x) (d:=fun _=>true) h.fit h.2.1 (fun e' he=>by
  have hw:=h.step (x:=x)
  rw [he] at hw
  exact qjz hw.good) (fun _ _ _=>rfl)
 cases he:est e x with
 | none=>rw [he] at this; exact this
 | some e'=>rw [he] at this; exact this
theorem qo5 {l:List Bool}{b:Bool}(h:l.length≤1000) : jq 1 l [b]=some (l++[b]):=by
 unfold jq
 rw [if_pos (by simp only [List.length_cons,List.length_nil]; omega)]
theorem q48 {logs:List (List Int)}{l:List ElectStep}(ho:qcg logs)(h1:1≤logs.length)(h2:logs.length≤5)(hl:l.length≤80)(e:Ev (fun _=>wj logs) (yb logs,true)) : Ev (fun k=>k9 k logs l) ((qa0 (yb logs) l []).1,(qa0 (yb logs) l []).2,true):=by
 unfold k9
 refine Ev.bind e (Ev.iteF (by simp; omega) ?_)
 refine Ev.jn (s:=((qa0 (yb logs) l []).2,(qa0 (yb logs) l []).1)) (xy (B:=fun k i x (s:List Bool × Election)=>xb k i x s.1 s.2) (by omega) (fun i q s=>∃ e d,s=(d,e)∧Way e q.length∧d.length+q.length≤80∧qa0 e q d=qa0 (yb logs) l []) ⟨yb logs,[],rfl,qg7 ho h1 h2 hl,by simpa using hl,rfl⟩ (fun i x q s hs => .inl ?_) (fun i s hs=>?_)) Ev.rfl
 ·obtain ⟨e,d,rfl,hw,hd,hr⟩:=hs
  have hst:=q51 (x:=x) hw
  refine ⟨(d++[(qgd e (est e x)).2],(qgd e (est e x)).1),?_,_,_,rfl,hw.step,by simp at hd ⊢; omega,hr⟩
  unfold xb
  cases he:est e x with
  | none =>
   rw [he] at hst
   refine Ev.bind hst (Ev.bind (Ev.iteF rfl Ev.rfl) ?_)
   unfold ut
   exact Ev.bindp (qo5 (by simp at hd ⊢; omega)) Ev.rfl
  | some e' =>
   rw [he] at hst
   refine Ev.bind hst (Ev.bind (Ev.iteT rfl Ev.rfl) ?_)
   unfold ut
   exact Ev.bindp (qo5 (by simp at hd ⊢; omega)) Ev.rfl
 ·obtain ⟨e,d,rfl,hw,hd,hr⟩:=hs
  rw [←hr]
  rfl
theorem q5d {logs:List (List Int)}{l:List ElectStep}(ho:qcg logs)(h1:1≤logs.length)(h2:logs.length≤5)(hl:l.length≤80)(e:Ev (fun _=>wm logs) (yb logs,true)) : Ev (fun k=>k8 k logs l) ((qa0 (yb logs) l []).1,(qa0 (yb logs) l []).2,true):=by
 unfold k8
 refine Ev.bind e (Ev.iteF (by simp; omega) ?_)
 have hfin:=ql5 (l:=l) (d:=[]) (qg7 ho h1 h2 hl)
 refine Ev.jn (s:=((qa0 (yb logs) l []).2,(qa0 (yb logs) l []).1)) (xy (B:=fun k i x (s:List Bool × Election)=>xg k i x s.1 s.2) (by omega) (fun i q s=>∃ e d,s=(d,e)∧Way e q.length∧d.length+q.length≤80∧qa0 e q d=qa0 (yb logs) l []) ⟨yb logs,[],rfl,qg7 ho h1 h2 hl,by simpa using hl,rfl⟩ (fun i x q s hs => .inl ?_) (fun i s hs=>?_)) ?_
 ·obtain ⟨e,d,rfl,hw,hd,hr⟩:=hs
  have hst:=q3z (x:=x) hw.fit
  refine ⟨(d++[(qgd e (est e x)).2],(qgd e (est e x)).1),?_,_,_,rfl,hw.step,by simp at hd ⊢; omega,hr⟩
  unfold xg
  refine Ev.bind (qyg hw.fit.nn) (Ev.bind hst (Ev.bind (a:=(qgd e (est e x)).1) ?_ ?_))
  ·cases est e x with
   | none=>exact Ev.iteF rfl Ev.rfl
   | some e'=>exact Ev.iteT rfl Ev.rfl
  ·unfold qbr
   exact Ev.bindp (qo5 (by simp at hd ⊢; omega)) Ev.rfl
 ·obtain ⟨e,d,rfl,hw,hd,hr⟩:=hs
  rw [←hr]
  rfl
 ·unfold qbm
  exact Ev.bind (qyg hfin.1.fit.nn) Ev.rfl
theorem PlayElection_all {v_0:List (List Int)}{v_1:List ElectStep}(b0:nnL IntR.nn v_0≤1048576) : (qcg v_0∧1≤v_0.length∧v_0.length≤5∧v_1.length≤80∧Ev (fun k=>k8 k v_0 v_1) ((qa0 (yb v_0) v_1 []).1,(qa0 (yb v_0) v_1 []).2,true)∧Ev (fun k=>k9 k v_0 v_1) ((qa0 (yb v_0) v_1 []).1,(qa0 (yb v_0) v_1 []).2,true))∨(Ev (fun k=>k8 k v_0 v_1) (⟨[],[],[]⟩,[],false)∧Ev (fun k=>k9 k v_0 v_1) (⟨[],[],[]⟩,[],false)):=by
 rcases q2h b0 with ⟨ho,h1,h2,e1,e2⟩ | ⟨e1,e2⟩
 ·by_cases hl:v_1.length≤80
  ·exact .inl ⟨ho,h1,h2,hl,q5d ho h1 h2 hl e1,q48 ho h1 h2 hl e2⟩
  ·unfold k8 k9
   exact .inr ⟨Ev.bind e1 (Ev.iteT (by simp; omega) Ev.rfl),Ev.bind e2 (Ev.iteT (by simp; omega) Ev.rfl)⟩
 ·unfold k8 k9
  exact .inr ⟨Ev.bind e1 (Ev.iteT rfl Ev.rfl),Ev.bind e2 (Ev.iteT rfl Ev.rfl)⟩
end Go.Proofs.Ytpddolihbnfahaa.X
