/- Draws: picks lie where they should. -/
import Derived.Test.YtjloihcijdcpeaaXED
import Derived.Test.YtjloihcijdcpeaaZLib
open Go.IntKind renaming wrap→d8
open Option renaming bind_some→n9
set_option linter.unusedVariables false
set_option linter.unusedSimpArgs false
namespace Go.Proofs.Ytjloihcijdcpeaa.X
open Go

def Bytes (l:List Int) : Prop:=∀ x∈l,0≤x∧x≤255
def Cur (t:Nat)(c:L1Cur) : Prop:=Bytes c.code∧0≤c.at_∧c.at_≤t
theorem q70 (a:Int) : 0≤qlp .u64 a 255∧qlp .u64 a 255≤255:=by
 unfold qlp
 have h:(BitVec.ofInt IntKind.u64.bits a &&& BitVec.ofInt IntKind.u64.bits 255).toNat≤255:=by
  rw [BitVec.toNat_and]
  exact Nat.le_trans Nat.and_le_right (by decide)
 rw [IntWalk.u64_in _ (by omega)]
 omega
theorem q71 {c:L1Cur}{t:Nat}(hc:Cur t c)(ht:t≤1000000) : ∃ v c',qei c=some (v,c')∧Cur (t+1) c'∧0≤v∧v≤255:=by
 obtain ⟨hb,h0,h1⟩:=hc
 have hj:∀ s:Int,0≤s→s≤255→∃ v c',qe0 c s=some (v,c')∧Cur (t+1) c'∧0≤v∧v≤255:=by
  intro s hs0 hs1
  unfold qe0
  split
  ·refine ⟨_,_,rfl,⟨hb,?_,?_⟩,hs0,hs1⟩
   ·show 0≤d8 .i64 (c.at_+1)
    rw [kr (by omega) (by omega)]; omega
   ·show d8 .i64 (c.at_+1)≤_
    rw [kr (by omega) (by omega)]; omega
  ·have hw:=q70 (qpn .u64 (d8 .u64 ((d8 .u64 ((d8 .u64 (c.seed*6364136223846793005))+(d8 .u64 s)))+1442695040888963407)) 40)
   refine ⟨_,_,rfl,⟨hb,?_,?_⟩,?_,?_⟩
   ·show 0≤d8 .i64 (c.at_+1)
    rw [kr (by omega) (by omega)]; omega
   ·show d8 .i64 (c.at_+1)≤_
    rw [kr (by omega) (by omega)]; omega
   ·rw [kr (by omega) (by omega)]; omega
   ·rw [kr (by omega) (by omega)]; omega
 unfold qei
 split
 ·rename_i h
  obtain ⟨x,hx,hx'⟩:=qgv h0 (of_decide_eq_true h)
  have hxb:=hb x (List.mem_of_getElem? hx')
  rw [hx]
  simp only [n9]
  rw [kr (by omega) (by omega)]
  exact hj x hxb.1 hxb.2
 ·simp only [n9]
  exact hj 0 (by omega) (by omega)
theorem wy {c:L1Cur}{t:Nat}(hc:Cur t c)(ht:t≤1000000)(n:Int)(h1:n≤200) : ∃ v c',j6 c n=some (v,c')∧Cur (t+1) c'∧0≤v∧(v<n∨v=0):=by
 unfold j6
 split
 ·exact ⟨0,c,rfl,⟨hc.1,hc.2.1,by have:=hc.2.2; omega⟩,by omega,.inr rfl⟩
 ·rename_i h
  simp only [decide_eq_true_eq] at h
  obtain ⟨v,c',hv,hc',h0,h2⟩:=q71 hc ht
  rw [hv]
  simp only [n9]
  rw [if_neg (by simp only [decide_eq_true_eq]; omega),q87 (by omega)]
  refine ⟨_,_,rfl,hc',?_,.inl ?_⟩
  ·exact Int.tmod_nonneg _ h0
  ·exact Int.tmod_lt_of_pos _ (by omega)
theorem qgb {c:L1Cur}{t:Nat}(hc:Cur t c)(ht:t≤1000000)(n:Int)(h1:n≤200) : ∃ v c',ux c n=some (v,c')∧Cur (t+1) c':=by
 obtain ⟨v,c',hv,hc',_⟩:=wy hc ht n h1
 unfold ux
 rw [hv]
 exact ⟨_,_,rfl,hc'⟩
end Go.Proofs.Ytjloihcijdcpeaa.X
