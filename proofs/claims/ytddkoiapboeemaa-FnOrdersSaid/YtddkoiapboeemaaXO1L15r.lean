/- Draws: picks lie where they should. -/
import Derived.Test.YtddkoiapboeemaaXO1D
import Derived.Test.YtddkoiapboeemaaZLib
set_option linter.unusedVariables false
set_option linter.unusedSimpArgs false
namespace Go.Proofs.Ytddkoiapboeemaa.X
open Go

def Bytes (l:List Int) : Prop:=∀ x∈l,0≤x∧x≤255
def Cur (t:Nat)(c:L1Cur) : Prop:=Bytes c.code∧0≤c.at_∧c.at_≤t
theorem qwu (a:Int) : 0≤qhh .u64 a 255∧qhh .u64 a 255≤255:=by
 unfold qhh
 have h:(BitVec.ofInt IntKind.u64.bits a &&& BitVec.ofInt IntKind.u64.bits 255).toNat≤255:=by
  rw [BitVec.toNat_and]
  exact Nat.le_trans Nat.and_le_right (by decide)
 rw [IntWalk.u64_in _ (by omega)]
 omega
theorem qxc {c:L1Cur}{t:Nat}(hc:Cur t c)(ht:t≤1000000) : ∃ v c',qa7 c=some (v,c')∧Cur (t+1) c'∧0≤v∧v≤255:=by
 obtain ⟨hb,h0,h1⟩:=hc
 have hj:∀ s:Int,0≤s→s≤255→∃ v c',qbg c s=some (v,c')∧Cur (t+1) c'∧0≤v∧v≤255:=by
  intro s hs0 hs1
  unfold qbg
  split
  ·refine ⟨_,_,rfl,⟨hb,?_,?_⟩,hs0,hs1⟩
   ·show 0≤IntKind.wrap .i64 (c.at_+1)
    rw [kc (by omega) (by omega)]; omega
   ·show IntKind.wrap .i64 (c.at_+1)≤_
    rw [kc (by omega) (by omega)]; omega
  ·have hw:=qwu (qkw .u64 (IntKind.wrap .u64 ((IntKind.wrap .u64 ((IntKind.wrap .u64 (c.seed*6364136223846793005))+(IntKind.wrap .u64 s)))+1442695040888963407)) 40)
   refine ⟨_,_,rfl,⟨hb,?_,?_⟩,?_,?_⟩
   ·show 0≤IntKind.wrap .i64 (c.at_+1)
    rw [kc (by omega) (by omega)]; omega
   ·show IntKind.wrap .i64 (c.at_+1)≤_
    rw [kc (by omega) (by omega)]; omega
   ·rw [kc (by omega) (by omega)]; omega
   ·rw [kc (by omega) (by omega)]; omega
 unfold qa7
 split
 ·rename_i h
  obtain ⟨x,hx,hx'⟩:=kr h0 (of_decide_eq_true h)
  have hxb:=hb x (List.mem_of_getElem? hx')
  rw [hx]
  simp only [Option.bind_some]
  rw [kc (by omega) (by omega)]
  exact hj x hxb.1 hxb.2
 ·simp only [Option.bind_some]
  exact hj 0 (by omega) (by omega)
theorem y6 {c:L1Cur}{t:Nat}(hc:Cur t c)(ht:t≤1000000)(n:Int)(h1:n≤200) : ∃ v c',ju c n=some (v,c')∧Cur (t+1) c'∧0≤v∧(v<n∨v=0):=by
 unfold ju
 split
 ·exact ⟨0,c,rfl,⟨hc.1,hc.2.1,by have:=hc.2.2; omega⟩,by omega,.inr rfl⟩
 ·rename_i h
  simp only [decide_eq_true_eq] at h
  obtain ⟨v,c',hv,hc',h0,h2⟩:=qxc hc ht
  rw [hv]
  simp only [Option.bind_some]
  rw [if_neg (by simp only [decide_eq_true_eq]; omega),qns (by omega)]
  refine ⟨_,_,rfl,hc',?_,.inl ?_⟩
  ·exact Int.tmod_nonneg _ h0
  ·exact Int.tmod_lt_of_pos _ (by omega)
theorem qdw {c:L1Cur}{t:Nat}(hc:Cur t c)(ht:t≤1000000)(n:Int)(h1:n≤200) : ∃ v c',xn c n=some (v,c')∧Cur (t+1) c':=by
 obtain ⟨v,c',hv,hc',_⟩:=y6 hc ht n h1
 unfold xn
 rw [hv]
 exact ⟨_,_,rfl,hc'⟩
end Go.Proofs.Ytddkoiapboeemaa.X
