/- New elections, and plays. -/
import Derived.Test.YtpddolihbnfahaaXCL9s
set_option linter.unusedVariables false
set_option linter.unusedSimpArgs false
namespace Go.Proofs.Ytpddolihbnfahaa.X
open Go

def Way (e:Election)(m:Nat) : Prop:=(∃ g,Inv e g)∧Sta e∧e.Post.length≤20∧e.Led.length+m≤80
theorem Way.step {e:Election}{m:Nat}{x:ElectStep}(h:Way e (m+1)) : Way (q8y e (est e x)).1 m:=by
 obtain ⟨⟨g,hI⟩,hs,hp,hl⟩:=h
 cases he:est e x with
 | none=>exact ⟨⟨g,hI⟩,hs,hp,by show e.Led.length+m≤80; omega⟩
 | some e' =>
  obtain ⟨g',h1,h2⟩:=q45 hI hs he
  have hk:=qwa he
  have:=hk.led1
  exact ⟨⟨g',h1⟩,h2,hk.post hp,by show e'.Led.length+m≤80; omega⟩
end Go.Proofs.Ytpddolihbnfahaa.X
