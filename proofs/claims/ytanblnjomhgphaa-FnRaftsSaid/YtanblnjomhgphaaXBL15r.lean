/- Draws: picks lie where they should. -/
import Derived.Test.YtanblnjomhgphaaXBD
import Derived.Test.YtanblnjomhgphaaZLib
open Go.IntKind renaming wrap→r8
open Option renaming bind_some→a1n
set_option linter.unusedVariables false
set_option linter.unusedSimpArgs false
namespace Go.Proofs.Ytanblnjomhgphaa.X
open Go

def Bytes (l:List Int) : Prop:=∀ x∈l,0≤x∧x≤255
def Cur (t:Nat)(c:L1Cur) : Prop:=Bytes c.code∧0≤c.at_∧c.at_≤t
theorem za9 (a:Int) : 0≤z8 .u64 a 255∧z8 .u64 a 255≤255:=by
 unfold z8
 have h:(BitVec.ofInt IntKind.u64.bits a &&& BitVec.ofInt IntKind.u64.bits 255).toNat≤255:=by
  rw [BitVec.toNat_and]
  exact Nat.le_trans Nat.and_le_right (by decide)
 rw [IntWalk.u64_in _ (by omega)]
 omega
theorem za7 {c:L1Cur}{t:Nat}(hc:Cur t c)(ht:t≤1000000) : ∃ v c',qe3 c=some (v,c')∧Cur (t+1) c'∧0≤v∧v≤255:=by
 obtain ⟨hb,h0,h1⟩:=hc
 have hj:∀ s:Int,0≤s→s≤255→∃ v c',qfa c s=some (v,c')∧Cur (t+1) c'∧0≤v∧v≤255:=by
  intro s hs0 hs1
  unfold qfa
  split
  ·refine ⟨_,_,rfl,⟨hb,?_,?_⟩,hs0,hs1⟩
   ·show 0≤r8 .i64 (c.at_+1)
    rw [k9 (by omega) (by omega)]; omega
   ·show r8 .i64 (c.at_+1)≤_
    rw [k9 (by omega) (by omega)]; omega
  ·have hw:=za9 (jo .u64 (r8 .u64 ((r8 .u64 ((r8 .u64 (c.seed*6364136223846793005))+(r8 .u64 s)))+1442695040888963407)) 40)
   refine ⟨_,_,rfl,⟨hb,?_,?_⟩,?_,?_⟩
   ·show 0≤r8 .i64 (c.at_+1)
    rw [k9 (by omega) (by omega)]; omega
   ·show r8 .i64 (c.at_+1)≤_
    rw [k9 (by omega) (by omega)]; omega
   ·rw [k9 (by omega) (by omega)]; omega
   ·rw [k9 (by omega) (by omega)]; omega
 unfold qe3
 split
 ·rename_i h
  obtain ⟨x,hx,hx'⟩:=qmu h0 (of_decide_eq_true h)
  have hxb:=hb x (List.mem_of_getElem? hx')
  rw [hx]
  simp only [a1n]
  rw [k9 (by omega) (by omega)]
  exact hj x hxb.1 hxb.2
 ·simp only [a1n]
  exact hj 0 (by omega) (by omega)
theorem xm {c:L1Cur}{t:Nat}(hc:Cur t c)(ht:t≤1000000)(n:Int)(h1:n≤200) : ∃ v c',yk c n=some (v,c')∧Cur (t+1) c'∧0≤v∧(v<n∨v=0):=by
 unfold yk
 split
 ·exact ⟨0,c,rfl,⟨hc.1,hc.2.1,by have:=hc.2.2; omega⟩,by omega,.inr rfl⟩
 ·rename_i h
  simp only [decide_eq_true_eq] at h
  obtain ⟨v,c',hv,hc',h0,h2⟩:=za7 hc ht
  rw [hv]
  simp only [a1n]
  rw [if_neg (by simp only [decide_eq_true_eq]; omega),zba (by omega)]
  refine ⟨_,_,rfl,hc',?_,.inl ?_⟩
  ·exact Int.tmod_nonneg _ h0
  ·exact Int.tmod_lt_of_pos _ (by omega)
theorem qph {c:L1Cur}{t:Nat}(hc:Cur t c)(ht:t≤1000000)(n:Int)(h1:n≤200) : ∃ v c',qer c n=some (v,c')∧Cur (t+1) c':=by
 obtain ⟨v,c',hv,hc',_⟩:=xm hc ht n h1
 unfold qer
 rw [hv]
 exact ⟨_,_,rfl,hc'⟩
end Go.Proofs.Ytanblnjomhgphaa.X
