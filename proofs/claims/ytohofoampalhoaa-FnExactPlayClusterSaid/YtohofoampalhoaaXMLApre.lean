/- How many first rows two logs share. -/
import Derived.Test.YtohofoampalhoaaXMD
import Derived.Test.YtohofoampalhoaaZLib3
open List renaming getElem?_eq_getElem→a0b,take_add_one→a1v
set_option linter.unusedVariables false
set_option linter.unusedSimpArgs false
namespace Go.Proofs.Ytohofoampalhoaa.X
open Go
theorem qrr {a b:List Row}(hl:a.length≤1048576) : ∃ n:Nat,Ev (fun k=>qb9 k a b) (n:Int)∧n≤a.length∧n≤b.length∧a.take n=b.take n∧(n<a.length→n<b.length→a[n]? ≠ b[n]?):=by
 unfold qb9
 obtain ⟨o,e,n,rfl,h1,h2,h3,h4⟩:=Ev.loopQ (B:=fun s58=>qbn a b s58) (s:=0) (fun o=>∃ n:Nat,o = .nxt (n:Int)∧n≤a.length∧n≤b.length∧a.take n=b.take n∧(n<a.length→n<b.length→a[n]? ≠ b[n]?)) (fun s=>∃ n:Nat,s=(n:Int)∧n≤a.length∧n≤b.length∧a.take n=b.take n) (fun s=>a.length - s.toNat) ⟨0,rfl,by omega,by omega,by simp⟩ (fun s hs=>by
  obtain ⟨n,rfl,h1,h2,h3⟩:=hs
  unfold qbn
  by_cases hc:n<a.length∧n<b.length
  ·have ha:a[n]? = some a[n]:=a0b hc.1
   have hb:b[n]? = some b[n]:=a0b hc.2
   rw [if_pos (by simp; omega),jl ha,jl hb]
   simp only [Option.bind_some]
   by_cases he:a[n]=b[n]
   ·refine .inl ⟨((n+1:Nat) : Int),?_,⟨n+1,rfl,by omega,by omega,?_⟩,?_⟩
    ·rw [if_pos (by simp [he]),xe (by omega)]
    ·rw [a1v,a1v,h3,ha,hb,he]
    ·simp only [Int.toNat_natCast]; omega
   ·refine .inr (.inl ⟨(n:Int),?_,n,rfl,h1,h2,h3,fun _ _=>by rw [ha,hb]; exact fun h=>he (Option.some.inj h)⟩)
    rw [if_neg (fun h=>he (by
     simp at h
     cases hh:a[n]; cases hh2:b[n]
     rw [hh,hh2] at h
     simp at h
     rw [h.1,h.2]))]
  ·rw [if_neg (by simp; omega)]
   exact .inr (.inl ⟨(n:Int),rfl,n,rfl,h1,h2,h3,fun x y=>absurd ⟨x,y⟩ hc⟩))
 exact ⟨n,Ev.jn e Ev.rfl,h1,h2,h3,h4⟩
end Go.Proofs.Ytohofoampalhoaa.X
