/- New elections, and plays. -/
import Derived.Test.YtpddolihbnfahaaXCL9s
set_option linter.unusedVariables false
set_option linter.unusedSimpArgs false
namespace Go.Proofs.Ytpddolihbnfahaa.X
open Go

def xh (logs:List (List Int)) : Election:=⟨logs.map (fun l=>⟨10,-1,false,false,[],l⟩),[],[]⟩
def qdb (logs:List (List Int)) : Prop:=∀ l∈logs,qgt l∧j0 l≤10
theorem qmd {logs:List (List Int)}{i:Int}{s:Server}(h:At (xh logs) i s) : ∃ l∈logs,s=⟨10,-1,false,false,[],l⟩:=by
 have h2:(logs.map (fun l=>(⟨10,-1,false,false,[],l⟩ : Server)))[i.toNat]? = some s:=h.2
 rw [List.getElem?_map] at h2
 cases hl:logs[i.toNat]? with
 | none=>rw [hl] at h2; cases h2
 | some l =>
  rw [hl] at h2
  simp only [Option.map_some,Option.some.injEq] at h2
  exact ⟨l,List.mem_of_getElem? hl,h2.symm⟩
theorem qy3 {logs:List (List Int)}(h:qdb logs)(h1:1≤logs.length)(h2:logs.length≤5) : Inv (xh logs) (fun _ _ => -1)∧Sta (xh logs):=by
 have hl:(xh logs).Servers.length=logs.length:=by simp [xh]
 refine ⟨⟨by omega,by omega,fun i s hs=>?_,fun m hm=>?_,fun i s t hs hne=>absurd rfl hne,fun v hv=>?_,fun i s hs hle=>?_,?_⟩,fun i s hs hst=>?_⟩
 ·obtain ⟨l,hl2,rfl⟩:=qmd hs
  exact ⟨by simp,by simp,by simp,by rw [hl]; dsimp only; omega,by simp,qbf.2 ⟨by simp,by simp⟩,fun _ _=>rfl,(h l hl2).1,fun _ _=>rfl,rfl,by simp⟩
 ·simp [xh] at hm
 ·simp [xh] at hv
 ·obtain ⟨l,hl2,rfl⟩:=qmd hs
  cases hle
 ·simp [xh]
 ·obtain ⟨l,hl2,rfl⟩:=qmd hs
  cases hst
theorem qwd {logs:List (List Int)}{i:Nat}{x:List Int}(hx:logs[i]? = some x) : xh (logs.take (i+1))=⟨(xh (logs.take i)).Servers++[⟨10,-1,false,false,[],x⟩],[],[]⟩:=by
 unfold xh
 rw [List.take_add_one,hx]
 simp
theorem qkj {B:Nat→List Int→Election→Option (Oc Election (Election × Bool))}{logs:List (List Int)}(hn:nnL IntR.nn logs≤1048576)
  (hB:∀ i x s,logs[i]? = some x→s.Servers.length≤1048576→∃ b:Bool,(b=false↔qgt x∧j0 x≤10)∧Ev (fun _=>B i x s) (if b=true then .ret (⟨[],[],[]⟩,false) else .nxt ⟨s.Servers++[⟨10,-1,false,false,[],x⟩],[],[]⟩)) :
  (qdb logs∧Ev (fun _=>ki B logs ⟨[],[],[]⟩) (.nxt (xh logs)))∨(¬ qdb logs∧Ev (fun _=>ki B logs ⟨[],[],[]⟩) (.ret (⟨[],[],[]⟩,false))):=by
 have hl:=ql3 (f:=IntR.nn) (l:=logs)
 have key:∀ o,((qdb logs∧o = .nxt (xh logs))∨(¬ qdb logs∧o = .ret (⟨[],[],[]⟩,false)))→Ev (fun _=>ki B logs ⟨[],[],[]⟩) o:=by
  intro o ho
  refine uo (B:=fun _=>B) (by omega) (fun i q s=>logs.drop i=q∧s=xh (logs.take i)∧∀ l∈logs.take i,qgt l∧j0 l≤10) ⟨rfl,by simp [xh],by simp⟩ (fun i x q s ⟨hq,hs,hp⟩=>?_) (fun i s ⟨hq,hs,hp⟩=>?_)
  ·have hx:logs[i]? = some x:=by have:=congrArg (fun z=>z[0]?) hq; simpa using this
   have hsl:s.Servers.length≤1048576:=by rw [hs]; simp [xh]; omega
   obtain ⟨b,hb,e⟩:=hB i x s hx hsl
   cases b with
   | true =>
    refine .inr (.inr ⟨_,e,?_⟩)
    rcases ho with ⟨h1,_⟩ | ⟨_,h1⟩
    ·have:=hb.2 (h1 x (List.mem_of_getElem? hx))
     cases this
    ·exact h1
   | false =>
    refine .inl ⟨_,e,by have:=congrArg (List.drop 1) hq; simpa [List.drop_drop] using this,?_,fun l hl2=>?_⟩
    ·rw [qwd hx,hs]
    ·rw [List.take_add_one,hx] at hl2
     rcases List.mem_append.1 hl2 with h3 | h3
     ·exact hp l h3
     ·simp at h3
      subst h3
      exact hb.1 rfl
  ·have hi:logs.length≤i:=by have:=congrArg List.length hq; simp at this; omega
   rw [List.take_of_length_le hi] at hs hp
   subst hs
   rcases ho with ⟨_,h1⟩ | ⟨h1,_⟩
   ·exact h1
   ·exact absurd hp h1
 by_cases h:qdb logs
 ·exact .inl ⟨h,key _ (.inl ⟨h,rfl⟩)⟩
 ·exact .inr ⟨h,key _ (.inr ⟨h,rfl⟩)⟩
theorem qku {F:Nat→Option Bool}{G:Option Int}{logs:List (List Int)}{i:Nat}{x:List Int}{s:Election}(hn:nnL IntR.nn logs≤1048576)(hx:logs[i]? = some x)(hs:s.Servers.length≤1048576)(hF:Is F (qgt x))(hG:G=some (j0 x)) :
  ∃ b:Bool,(b=false↔qgt x∧j0 x≤10)∧Ev (fun k=>(F k).bind fun v47=>((if (!v47)=true then (some true) else (G.bind fun v53=>(some (decide ((10:Int)<v53))))).bind fun v53=>(if v53=true then (some (.ret ((Election.mk [] [] []),false)) : Option (Oc Election (Election × Bool))) else ((kd 8 ([] : List Int) x).bind fun l83=>((kd 72 s.Servers ([(Server.mk 10 (-1) false false [] l83)])).bind fun l100=>(some (.nxt (Election.mk l100 [] []))))))))
   (if b=true then .ret (⟨[],[],[]⟩,false) else .nxt ⟨s.Servers++[⟨10,-1,false,false,[],x⟩],[],[]⟩):=by
 have hxl:x.length≤1048576:=Nat.le_trans (qj6 (f:=IntR.nn) hx) hn
 obtain ⟨c,e,hc⟩:=hF
 have tail:∀ b:Bool,Ev (fun _:Nat=>(if b=true then (some (.ret ((Election.mk [] [] []),false)) : Option (Oc Election (Election × Bool))) else ((kd 8 ([] : List Int) x).bind fun l83=>((kd 72 s.Servers ([(Server.mk 10 (-1) false false [] l83)])).bind fun l100=>(some (.nxt (Election.mk l100 [] []))))))) (if b=true then .ret (⟨[],[],[]⟩,false) else .nxt ⟨s.Servers++[⟨10,-1,false,false,[],x⟩],[],[]⟩):=by
  intro b
  cases b with
  | true=>exact Ev.iteT rfl Ev.rfl
  | false =>
   refine Ev.iteF rfl (Ev.bindp (qch (by omega)) (Ev.bindp (a:=s.Servers++[⟨10,-1,false,false,[],x⟩]) ?_ Ev.rfl))
   unfold kd
   rw [if_pos (by simp only [List.length_cons,List.length_nil]; omega)]
 cases c with
 | false=>exact ⟨true,by simp only [Bool.true_eq_false,false_iff]; exact fun h=>(by have:=hc.2 h.1; cases this),Ev.bind e (Ev.bind (Ev.iteT rfl Ev.rfl) (tail true))⟩
 | true =>
  refine ⟨decide (10<j0 x),?_,Ev.bind e (Ev.bind (Ev.iteF rfl (Ev.bindp hG Ev.rfl)) (tail _))⟩
  have:=hc.1 rfl
  simp only [decide_eq_false_iff_not,this,true_and]
  omega
theorem qp3 {logs:List (List Int)}(hn:nnL IntR.nn logs≤1048576) : (qdb logs∧1≤logs.length∧logs.length≤5∧Ev (fun _=>k6 logs) (xh logs,true)∧Ev (fun _=>uy logs) (xh logs,true))∨(Ev (fun _=>k6 logs) (⟨[],[],[]⟩,false)∧Ev (fun _=>uy logs) (⟨[],[],[]⟩,false)):=by
 have hl:=ql3 (f:=IntR.nn) (l:=logs)
 have hxl:∀ {i:Nat} {x},logs[i]? = some x→x.length≤1048576:=fun hx=>Nat.le_trans (qj6 (f:=IntR.nn) hx) hn
 have h1:=qkj (B:=ur) hn (fun i x s hx hs=>qku hn hx hs (qhf (by have:=hxl hx; omega)) (qie (by have:=hxl hx; omega)))
 have h2:=qkj (B:=qbo) hn (fun i x s hx hs=>qku hn hx hs (qle (by have:=hxl hx; omega)) (qhd (by have:=hxl hx; omega)))
 unfold k6 uy
 by_cases hlen:1≤logs.length∧logs.length≤5
 ·have c1:(!(zt (List.length logs:Int) 1 5))=false:=bF qf3 (fun h=>h (by omega))
  have c2:(!(jd (List.length logs:Int) 1 5))=false:=bF qh8 (fun h=>h (by omega))
  rcases h1 with ⟨a,e1⟩ | ⟨a,e1⟩ <;> rcases h2 with ⟨b,e2⟩ | ⟨b,e2⟩
  ·refine .inl ⟨a,hlen.1,hlen.2,Ev.jn e1 ?_,Ev.iteF c1 (Ev.jn e2 Ev.rfl)⟩
   unfold uw
   exact Ev.iteF c2 Ev.rfl
  ·exact absurd a b
  ·exact absurd b a
  ·exact .inr ⟨Ev.jn_ret e1,Ev.iteF c1 (Ev.jn_ret e2)⟩
 ·have c1:(!(zt (List.length logs:Int) 1 5))=true:=qf3.2 (by omega)
  have c2:(!(jd (List.length logs:Int) 1 5))=true:=qh8.2 (by omega)
  right
  refine ⟨?_,Ev.iteT c1 Ev.rfl⟩
  rcases h1 with ⟨a,e1⟩ | ⟨a,e1⟩
  ·refine Ev.jn e1 ?_
   unfold uw
   exact Ev.iteT c2 Ev.rfl
  ·exact Ev.jn_ret e1

def qgo:Election→List ElectStep→List Bool→Election × List Bool
 | e,[],d=>(e,d)
 | e,x::q,d=>qgo (qjs e (est e x)).1 q (d++[(qjs e (est e x)).2])
def Way (e:Election)(m:Nat) : Prop:=(∃ g,Inv e g)∧Sta e∧e.Post.length≤20∧e.Led.length+m≤80
theorem Way.step {e:Election}{m:Nat}{x:ElectStep}(h:Way e (m+1)) : Way (qjs e (est e x)).1 m:=by
 obtain ⟨⟨g,hI⟩,hs,hp,hl⟩:=h
 cases he:est e x with
 | none=>exact ⟨⟨g,hI⟩,hs,hp,by show e.Led.length+m≤80; omega⟩
 | some e' =>
  obtain ⟨g',h1,h2⟩:=q72 hI hs he
  have hk:=qko he
  have:=hk.led1
  exact ⟨⟨g',h1⟩,h2,hk.post hp,by show e'.Led.length+m≤80; omega⟩
theorem Way.fit {e:Election}{m:Nat}(h:Way e m) : Fit e:=by
 obtain ⟨⟨g,hI⟩,hs,hp,hl⟩:=h
 exact hI.fit hp (by omega)
theorem qoc:∀ {l:List ElectStep} {e:Election} {d:List Bool},Way e l.length→Way (qgo e l d).1 0∧(qgo e l d).2.length=d.length+l.length:=by
 intro l
 induction l with
 | nil=>intro e d h; exact ⟨h,rfl⟩
 | cons x l ih =>
  intro e d h
  obtain ⟨h1,h2⟩:=ih (d:=d++[(qjs e (est e x)).2]) (h.step (x:=x))
  exact ⟨h1,by rw [qgo,h2]; simp; omega⟩
theorem qhb {logs:List (List Int)}(h:qdb logs)(h1:1≤logs.length)(h2:logs.length≤5){m:Nat}(hm:m≤80) : Way (xh logs) m:=by
 obtain ⟨a,b⟩:=qy3 h h1 h2
 exact ⟨⟨_,a⟩,b,by simp [xh],by simp [xh]; omega⟩
theorem qp0 {e:Election}(h:elP e) : Ev (fun _=>k9 e) true:=by
 obtain ⟨b,e1,hb⟩:=qbv h.fit.nn
 rw [hb.2 h] at e1
 exact e1
theorem za1 {l:List Bool}{b:Bool}(h:l.length≤1000) : kd 1 l [b]=some (l++[b]):=by
 unfold kd
 rw [if_pos (by simp only [List.length_cons,List.length_nil]; omega)]
theorem q9o {logs:List (List Int)}{l:List ElectStep}(ho:qdb logs)(h1:1≤logs.length)(h2:logs.length≤5)(hl:l.length≤80)(e:Ev (fun _=>k6 logs) (xh logs,true)) : Ev (fun k=>yo k logs l) ((qgo (xh logs) l []).1,(qgo (xh logs) l []).2,true):=by
 unfold yo
 refine Ev.bind e (Ev.iteF (by simp; omega) ?_)
 have hfin:=qoc (l:=l) (d:=[]) (qhb ho h1 h2 hl)
 refine Ev.jn (s:=((qgo (xh logs) l []).2,(qgo (xh logs) l []).1)) (uo (B:=fun k i x (s:List Bool × Election)=>uk k i x s.1 s.2) (by omega) (fun i q s=>∃ e d,s=(d,e)∧Way e q.length∧d.length+q.length≤80∧qgo e q d=qgo (xh logs) l []) ⟨xh logs,[],rfl,qhb ho h1 h2 hl,by simpa using hl,rfl⟩ (fun i x q s hs => .inl ?_) (fun i s hs=>?_)) ?_
 ·obtain ⟨e,d,rfl,hw,hd,hr⟩:=hs
  have hst:=qub (x:=x) hw.fit
  refine ⟨(d++[(qjs e (est e x)).2],(qjs e (est e x)).1),?_,_,_,rfl,hw.step,by simp at hd ⊢; omega,hr⟩
  unfold uk
  refine Ev.bind (qj4 hw.fit.nn) (Ev.bind hst (Ev.bind (a:=(qjs e (est e x)).1) ?_ ?_))
  ·cases est e x with
   | none=>exact Ev.iteF rfl Ev.rfl
   | some e'=>exact Ev.iteT rfl Ev.rfl
  ·unfold qc3
   exact Ev.bindp (za1 (by simp at hd ⊢; omega)) Ev.rfl
 ·obtain ⟨e,d,rfl,hw,hd,hr⟩:=hs
  rw [←hr]
  rfl
 ·unfold qc5
  exact Ev.bind (qj4 hfin.1.fit.nn) Ev.rfl
theorem PlayElection_s {v_0:List (List Int)}{v_1:List ElectStep}(b0:nnL IntR.nn v_0≤1048576) : (qdb v_0∧1≤v_0.length∧v_0.length≤5∧v_1.length≤80∧Ev (fun k=>yo k v_0 v_1) ((qgo (xh v_0) v_1 []).1,(qgo (xh v_0) v_1 []).2,true))∨Ev (fun k=>yo k v_0 v_1) (⟨[],[],[]⟩,[],false):=by
 rcases qp3 b0 with ⟨ho,h1,h2,e1,e2⟩ | ⟨e1,e2⟩
 ·by_cases hl:v_1.length≤80
  ·exact .inl ⟨ho,h1,h2,hl,q9o ho h1 h2 hl e1⟩
  ·unfold yo
   exact .inr (Ev.bind e1 (Ev.iteT (by simp; omega) Ev.rfl))
 ·unfold yo
  exact .inr (Ev.bind e1 (Ev.iteT rfl Ev.rfl))
end Go.Proofs.Ytpddolihbnfahaa.X
