/- What OnObject answers. -/
import Derived.Test.YtddkoiapboeemaaXO1L15b
set_option linter.unusedVariables false
set_option linter.unusedSimpArgs false
namespace Go.Proofs.Ytddkoiapboeemaa.X
open Go

theorem IndexFunc_eq {l:List Call}(hl:l.length≤1048576){p:Call→Bool} : kh l (fun a=>some (p a))=some (match l.findIdx? p with | some i=>(i:Int) | none => -1):=by
 unfold kh
 have hr:zk (fun i1 x2 _=>kj (fun a=>some (p a)) i1 x2) l ()=some (match l.findIdx? p with | some i => .ret (i:Int) | none => .nxt ()):=by
  refine qc8 (by omega) (fun i r s=>r.findIdx? p=(l.findIdx? p).map (fun n=>n - i)∧(∀ n,l.findIdx? p=some n→i≤n)) ⟨by simp,by simp⟩ ?_ ?_
  ·rintro i x r s ⟨h1,h2⟩
   simp only [kj,Option.bind_some]
   rw [List.findIdx?_cons] at h1
   by_cases hx:p x=true
   ·rw [if_pos hx] at h1
    refine .inr (.inr ⟨(i:Int),by rw [if_pos hx],?_⟩)
    cases hf:l.findIdx? p with
    | none=>rw [hf] at h1; cases h1
    | some n =>
     rw [hf] at h1
     have:=h2 n hf
     simp only [Option.map_some,Option.some.injEq] at h1
     have:n=i:=by omega
     rw [this]
   ·rw [if_neg hx] at h1
    refine .inl ⟨(),by rw [if_neg hx],?_,?_⟩
    ·cases hf:l.findIdx? p with
     | none=>rw [hf] at h1; simpa using h1
     | some n =>
      rw [hf] at h1
      cases hg:r.findIdx? p with
      | none=>rw [hg] at h1; simp at h1
      | some m =>
       rw [hg] at h1
       simp only [Option.map_some,Option.some.injEq] at h1 ⊢
       omega
    ·intro n hf
     have:=h2 n hf
     rw [hf] at h1
     cases hg:r.findIdx? p with
     | none=>rw [hg] at h1; simp at h1
     | some m =>
      rw [hg] at h1
      simp only [Option.map_some,Option.some.injEq] at h1
      omega
  ·rintro i s ⟨h1,h2⟩
   cases hf:l.findIdx? p with
   | none=>rfl
   | some n=>rw [hf] at h1; simp at h1
 rw [hr]
 cases l.findIdx? p <;> rfl
theorem DeleteFunc_ev {l:List Call}(hl:l.length≤1048576){p:Call→Bool} : Ev (fun k=>kz k l (fun a=>some (p a))) (l.filter (fun a => !p a)):=by
 refine Ev.eqv (F:=fun k=>(kh l (fun a=>some (p a))).bind fun v1=>(if (decide (v1=(-1)))=true then (some l) else (jn (yi (fun s66=>jg (fun a=>some (p a)) s66.1 s66.2.1 s66.2.2) k (v1,(IntKind.wrap .i64 (v1+1)),l)) (fun s95=>kf s95.1 s95.2.1 s95.2.2)))) ?_ (fun k=>rfl)
 refine Ev.bindp (IndexFunc_eq hl) ?_
 cases hf:l.findIdx? p with
 | none =>
  refine Ev.iteT rfl (Ev.of ?_)
  rw [List.filter_eq_self.2]
  intro a ha
  rw [List.findIdx?_eq_none_iff] at hf
  simp [hf a ha]
 | some n =>
  rw [List.findIdx?_eq_some_iff_getElem] at hf
  obtain ⟨hn,hp,hq⟩:=hf
  refine Ev.iteF (by simp only [decide_eq_false_iff_not]; omega) ?_
  show Ev (fun k=>jn (yi (fun s66=>jg (fun a=>some (p a)) s66.1 s66.2.1 s66.2.2) k ((n:Int),(IntKind.wrap .i64 ((n:Int)+1)),l)) (fun s95=>kf s95.1 s95.2.1 s95.2.2)) _
  rw [kc (by omega) (by omega)]
  have key:∃ o,Ev (fun k=>yi (fun s66=>jg (fun a=>some (p a)) s66.1 s66.2.1 s66.2.2) k ((n:Int),((n:Int)+1,l))) o∧∃ (i:Nat) (j:Int) (s:List Call),o = .nxt ((i:Int),j,s)∧i≤s.length∧s.length≤1048576∧s.take i=l.filter (fun a => !p a):=by
   refine Ev.loopQ _ (fun st=>∃ i j:Nat,st.1=i∧st.2.1=j∧i<j∧j≤l.length∧st.2.2.length=l.length∧st.2.2.take i=(l.take j).filter (fun a => !p a)∧st.2.2.drop j=l.drop j) (fun st=>l.length - st.2.1.toNat) ?_ ?_
   ·refine ⟨n,n+1,rfl,rfl,by omega,by omega,rfl,?_,rfl⟩
    rw [List.take_add_one,List.filter_append]
    rw [List.filter_eq_self.2 (by
     intro a ha
     obtain ⟨i,hi,rfl⟩:=List.mem_iff_getElem.1 ha
     rw [List.length_take] at hi
     have:=hq i (by omega)
     simpa [List.getElem_take] using this)]
    simp [hn,hp]
   ·rintro ⟨i',j',s⟩ ⟨i,j,e1,e2,hij,hj,hs,ht,hd⟩
    simp only at e1 e2 hs ht hd
    subst e1 e2
    simp only [jg]
    by_cases hj':j<l.length
    ·have hsj:s[j]? = some l[j]:=by
      have:(s.drop j)[0]? = (l.drop j)[0]? := by rw [hd]
      simpa [hj'] using this
     have hd':s.drop (j+1)=l.drop (j+1):=by
      rw [←List.drop_drop,← List.drop_drop,hd]
     have hi':i<s.length:=by omega
     rw [if_pos (by rw [hs]; simpa using hj'),u2 hsj,Option.bind_some,Option.bind_some]
     refine .inl ?_
     rcases Bool.eq_false_or_eq_true (p l[j]) with hpj | hpj
     ·rw [hpj,if_neg (by simp)]
      refine ⟨_,rfl,⟨i,j+1,rfl,by rw [kc (by omega) (by omega)]; rfl,by omega,by omega,hs,?_,hd'⟩,?_⟩
      ·rw [ht,List.take_add_one,List.filter_append]
       simp [hj',hpj]
      ·rw [kc (by omega) (by omega)]
       show l.length - ((j:Int)+1).toNat<l.length - (j:Int).toNat
       omega
     ·rw [hpj,if_pos (by simp),u2 (x:=s[i]) (by simp [hi']),Option.bind_some]
      refine ⟨_,rfl,⟨i+1,j+1,by rw [kc (n:=(i:Int)+1) (by omega) (by omega)]; rfl,by rw [kc (n:=(j:Int)+1) (by omega) (by omega)]; rfl,by omega,by omega,by simp [hs],?_,?_⟩,?_⟩
      ·rw [List.take_add_one,List.take_add_one,List.filter_append]
       simp only [Int.toNat_natCast]
       simp [List.take_set_of_le,ht,hi',hj',hpj]
      ·simp only [Int.toNat_natCast]
       rw [List.drop_set_of_lt (by omega)]
       exact hd'
      ·rw [kc (n:=(j:Int)+1) (by omega) (by omega)]
       show l.length - ((j:Int)+1).toNat<l.length - (j:Int).toNat
       omega
    ·have:j=l.length:=by omega
     subst this
     rw [if_neg (by rw [hs]; simp)]
     refine .inr (.inl ⟨_,rfl,i,_,s,rfl,by omega,by omega,?_⟩)
     rw [ht,List.take_length]
  obtain ⟨o,ho,i,j,s,rfl,hi,hs,ht⟩:=key
  refine Ev.jn ho (Ev.of ?_)
  simp only [kf,qhs]
  rw [if_pos ⟨by omega,by omega⟩,Option.bind_some,Int.toNat_natCast,qfe (by simp; omega),Option.bind_some]
  rw [List.take_append_of_le_length (by rw [List.length_take]; omega),List.take_take,Nat.min_self,ht]
theorem qgd {l:List Call}(hl:l.length≤1048576)(o:Int) : Ev (fun k=>qaw k l o) (if good l=true∧qu o 0 2=true then (l.filter (fun c=>decide (c.Object=o)),true) else ([],false)):=by
 refine Ev.eqv (F:=fun k=>(jv l).bind fun v7=>(if ((!v7)||(!(ze o 0 2)))=true then (some (([] : List Call),false)) else ((ku 48 ([] : List Call) l).bind fun l26=>((kz k l26 (fun a0=>some (ye a0 o))).bind fun v35=>(some (v35,true)))))) ?_ (fun k=>rfl)
 refine Ev.bindp (a:=good l) (by rw [qb6]; exact GoodCalls_eq hl) ?_
 have hin:ze o 0 2=qu o 0 2:=rfl
 rw [hin]
 by_cases h:good l=true∧qu o 0 2=true
 ·rw [if_pos h]
  refine Ev.iteF (by simp [h]) ?_
  refine Ev.bindp (a:=l) (by unfold ku; rw [if_pos (by simp only [List.length_nil]; omega)]; rfl) ?_
  refine Ev.bind (DeleteFunc_ev hl (p:=fun a0=>ye a0 o)) (Ev.of ?_)
  congr 2
  refine List.filter_congr fun a _=>?_
  simp [ye]
 ·rw [if_neg h]
  refine Ev.iteT ?_ Ev.rfl
  rcases Bool.eq_false_or_eq_true (good l) with h1 | h1
  ·rcases Bool.eq_false_or_eq_true (qu o 0 2) with h2 | h2
   ·exact absurd ⟨h1,h2⟩ h
   ·simp [h2]
  ·simp [h1]
end Go.Proofs.Ytddkoiapboeemaa.X
