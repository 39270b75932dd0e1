/- Any two groups of more than half meet. -/
import Derived.Test.YtanblnjomhgphaaXBLAput
open List renaming countP_cons→a3k,length_cons→a0p
set_option linter.unusedVariables false
set_option linter.unusedSimpArgs false
namespace Go.Proofs.Ytanblnjomhgphaa.X
open Go

theorem qwi {α:Type}{p q:α→Bool} : ∀ {l:List α},(∀ x∈l,¬ (p x=true∧q x=true))→l.countP p+l.countP q≤l.length:=by
 intro l
 induction l with
 | nil=>intro _; simp
 | cons a l ih =>
  intro h
  have h1:=ih (fun x hx=>h x (by simp [hx]))
  have h2:=h a (by simp)
  rw [a3k,a3k,a0p]
  cases hp:p a <;> cases hq:q a <;> simp_all <;> omega
theorem qq9 {α:Type}{p q r:α→Bool} : ∀ {l:List α},(∀ x∈l,¬ (p x=true∧q x=true))→(∀ x∈l,p x=true∨q x=true→r x=true)→l.countP p+l.countP q≤l.countP r:=by
 intro l
 induction l with
 | nil=>intro _ _; simp
 | cons a l ih =>
  intro h h3
  have h1:=ih (fun x hx=>h x (by simp [hx])) (fun x hx=>h3 x (by simp [hx]))
  have h2:=h a (by simp)
  have h4:=h3 a (by simp)
  rw [a3k,a3k,a3k]
  cases hp:p a <;> cases hq:q a <;> cases hr:r a <;> simp_all <;> omega
theorem qly {n:Nat} : ∀ {Q:List Int},Q.Pairwise (· < ·)→(∀ x∈Q,0≤x∧x<(n:Int))→Q.length≤(qcc n).countP (fun z=>decide (z∈Q)):=by
 intro Q
 induction Q with
 | nil=>intro _ _; simp
 | cons a Q ih =>
  intro h1 h2
  rw [List.pairwise_cons] at h1
  have h3:=ih h1.2 (fun x hx=>h2 x (by simp [hx]))
  have ha:=h2 a (by simp)
  have h4:0<(qcc n).countP (fun z=>decide (z=a)):=by
   rw [List.countP_pos_iff]
   refine ⟨a,?_,by simp⟩
   simp only [qcc,List.mem_map,List.mem_range]
   exact ⟨a.toNat,by omega,by omega⟩
  have h5:=qq9 (p:=fun z=>decide (z=a)) (q:=fun z=>decide (z∈Q)) (r:=fun z=>decide (z∈a::Q)) (l:=qcc n) (fun x _=>by
   simp only [decide_eq_true_eq]
   rintro ⟨rfl,h⟩
   have:=h1.1 x h
   omega) (fun x _ h=>by
   simp only [decide_eq_true_eq] at h ⊢
   rcases h with rfl | h
   ·simp
   ·simp [h])
  rw [a0p]
  omega
theorem meet {n:Nat}{Q R:List Int}(h1:qak Q n)(h2:qak R n)(h3:n<2*Q.length)(h4:n<2*R.length) : ∃ i,i∈Q∧i∈R:=by
 apply Classical.byContradiction
 intro hn
 obtain ⟨a1,a2⟩:=wl.1 h1
 obtain ⟨b1,b2⟩:=wl.1 h2
 have c1:=qly a1 a2
 have c2:=qly b1 b2
 have c3:=qwi (p:=fun z=>decide (z∈Q)) (q:=fun z=>decide (z∈R)) (l:=qcc n) (fun x _ h=>by
  simp only [decide_eq_true_eq] at h
  exact hn ⟨x,h.1,h.2⟩)
 rw [qpd] at c3
 omega

end Go.Proofs.Ytanblnjomhgphaa.X
