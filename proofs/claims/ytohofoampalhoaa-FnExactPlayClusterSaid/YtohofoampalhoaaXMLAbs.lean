/- slices.BinarySearch in a row that rises. -/
import Derived.Test.YtohofoampalhoaaXMD
import Derived.Test.YtohofoampalhoaaZLib3
open Go.IntKind renaming wrap→a0a
open List renaming getElem?_append_right→a0u,mem_cons→a1l,mem_of_getElem?→a09
set_option linter.unusedVariables false
set_option linter.unusedSimpArgs false
namespace Go.Proofs.Ytohofoampalhoaa.X
open Go

theorem q9d {a b:Nat}(ha:a≤1048576)(hb:b≤1048576) : a0a .i64 (qlq .u64 (a0a .u64 (a0a .i64 ((a:Int)+(b:Int)))) 1)=(((a+b) / 2:Nat) : Int):=by
 rw [qc5 (n:=(a:Int)+b) (by omega) (by omega)]
 have h1:a0a .u64 ((a:Int)+b)=(a:Int)+b:=by
  unfold a0a
  simp [IntKind.bits,IntKind.signed]
  omega
 rw [h1]
 unfold qlq
 rw [show (2:Int) ^ (min (Int.toNat 1) IntKind.u64.bits)=2 by rfl,Int.fdiv_eq_ediv_of_nonneg _ (by omega),qc5 (by omega) (by omega)]
 omega
theorem zdp {A B:List Int}{v:Int}(hl:(A++B).length≤1000)(hA:∀ z∈A,z<v)(hB:∀ z∈B,v≤z) : Ev (fun k=>wm k (A++B) v) ((A.length:Int),decide (B.head? = some v)):=by
 have hlA:A.length+B.length≤1000:=by simpa using hl
 unfold wm
 refine Ev.jn (s:=((A.length:Int),(A.length:Int))) (Ev.loop (B:=fun s36=>yz (A++B) v s36.1 s36.2) (fun s=>∃ i j:Nat,s=((i:Int),(j:Int))∧i≤A.length∧A.length≤j∧j≤A.length+B.length) (fun s=>(s.2 - s.1).toNat) ⟨0,A.length+B.length,by simp,by omega,by omega,by omega⟩ ?_) ?_
 ·rintro s ⟨i,j,rfl,h1,h2,h3⟩
  unfold yz
  by_cases h:i<j
  ·rw [if_pos (by simpa using h),q9d (by omega) (by omega)]
   have hm:(i+j) / 2<A.length+B.length:=by omega
   obtain ⟨z,hz⟩ : ∃ z,(A++B)[(i+j) / 2]? = some z:=⟨_,List.getElem?_eq_getElem (by simpa using hm)⟩
   rw [jl hz,Option.bind_some]
   have hlt:qcd z v=decide (z<v):=by simp [qcd,yo]
   rw [hlt]
   by_cases hmA:(i+j) / 2<A.length
   ·rw [List.getElem?_append_left hmA] at hz
    have:=hA z (a09 hz)
    rw [if_pos (by simpa using this),xe (by omega)]
    exact .inl ⟨_,rfl,⟨(i+j) / 2+1,j,rfl,by omega,h2,h3⟩,by simp only; omega⟩
   ·rw [a0u (by omega)] at hz
    have:=hB z (a09 hz)
    rw [if_neg (by simpa using this)]
    exact .inl ⟨_,rfl,⟨i,(i+j) / 2,rfl,h1,by omega,by omega⟩,by simp only; omega⟩
  ·rw [if_neg (by simpa using h)]
   obtain rfl:i=A.length:=by omega
   obtain rfl:j=A.length:=by omega
   exact .inr (.inl ⟨_,rfl,rfl⟩)
 ·unfold u6
  dsimp only
  cases B with
  | nil=>exact Ev.bind (a:=false) (Ev.iteF (by simp) Ev.rfl) Ev.rfl
  | cons b B =>
   have hz:(A++b::B)[A.length]? = some b:=by rw [a0u (Nat.le_refl _)]; simp
   refine Ev.bind (a:=decide (b=v)) (Ev.iteT (by simp; omega) (Ev.bindp (jl hz) (Ev.bind (a:=decide (b=v)) ?_ Ev.rfl))) (Ev.of ?_)
   ·by_cases e:b=v
    ·exact Ev.iteT (by simpa using e) (Ev.of (by simp [e]))
    ·refine Ev.iteF (by simpa using e) (Ev.bindp (jl hz) (Ev.of ?_))
     simp [wg,e]
   ·simp
theorem ql7 {l:List Int}(h:l.Pairwise (· < ·))(v:Int) : ∃ A B,l=A++B∧(∀ z∈A,z<v)∧(∀ z∈B,v≤z)∧(v∈l↔B.head? = some v)∧(B.head? = some v→∀ z∈B.tail,v<z):=by
 induction l with
 | nil=>exact ⟨[],[],rfl,by simp,by simp,by simp,by simp⟩
 | cons a l ih =>
  rw [List.pairwise_cons] at h
  by_cases ha:a<v
  ·obtain ⟨A,B,rfl,h1,h2,h3,h4⟩:=ih h.2
   refine ⟨a::A,B,rfl,fun z hz=>?_,h2,?_,h4⟩
   ·rcases a1l.1 hz with rfl | hz
    ·exact ha
    ·exact h1 z hz
   ·rw [a1l,h3]
    constructor
    ·rintro (h | h)
     ·omega
     ·exact h
    ·exact fun h => .inr h
  ·refine ⟨[],a::l,rfl,by simp,fun z hz=>?_,?_,fun e z hz=>?_⟩
   ·rcases a1l.1 hz with rfl | hz
    ·omega
    ·have:=h.1 z hz; omega
   ·simp only [List.head?_cons,Option.some.injEq,a1l]
    constructor
    ·rintro (h5 | h5)
     ·exact h5.symm
     ·have:=h.1 v h5; omega
    ·exact fun h => .inl h.symm
   ·simp only [List.head?_cons,Option.some.injEq] at e
    subst e
    exact h.1 z hz
end Go.Proofs.Ytohofoampalhoaa.X
