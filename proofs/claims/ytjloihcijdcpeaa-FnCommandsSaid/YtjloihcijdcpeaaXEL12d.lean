/- DoCommand: what both sides answer. -/
import Derived.Test.YtjloihcijdcpeaaXEL12v
open Go.Proofs.Ytjloihcijdcpeaa.X.Ev renaming bind→g9,iteF→g8,iteT→m9,rfl→l8
set_option linter.unusedVariables false
set_option linter.unusedSimpArgs false
namespace Go.Proofs.Ytjloihcijdcpeaa.X
open Go

theorem DoCommand_all {v_0:Control}{v_1:Command}(b0:v_0.nn≤1048576)(b1:v_1.nn≤1048576) : (ya v_0∧ww v_0.Brokers.length v_1∧Ev (fun k=>yk v_0 v_1) ((yg v_0 v_1).1,(yg v_0 v_1).2,true)∧Ev (fun k=>ut v_0 v_1) ((yg v_0 v_1).1,(yg v_0 v_1).2,true))∨(¬ (ya v_0∧ww v_0.Brokers.length v_1)∧Ev (fun k=>yk v_0 v_1) (qfy,0,false)∧Ev (fun k=>ut v_0 v_1) (qfy,0,false)):=by
 have hx:v_1.InStep.length≤1048576:=by have h2:v_1.nn=v_1.InStep.length+0:=rfl; omega
 obtain ⟨g,eg,hg⟩:=qh1 b0
 unfold ut
 by_cases h:ya v_0∧ww v_0.Brokers.length v_1
 ·obtain ⟨d,ed,hd⟩:=q1t (x:=v_1) (n:=v_0.Brokers.length) h.1.1.1 hx
  have hg':=hg.2 h.1
  have hd':=hd.2 h.2
  subst hg' hd'
  exact .inl ⟨h.1,h.2,qna h.1 h.2,g9 eg (g9 (a:=false) (g8 rfl (g9 ed l8)) (g8 rfl (g9 (q99 h.1 h.2) l8)))⟩
 ·refine .inr ⟨h,qlc b0 hx h,?_⟩
  cases g with
  | false=>exact g9 eg (g9 (a:=true) (m9 rfl l8) (m9 rfl l8))
  | true =>
   have hc:=hg.1 rfl
   obtain ⟨d,ed,hd⟩:=q1t (x:=v_1) (n:=v_0.Brokers.length) hc.1.1 hx
   have hdf:d=false:=bF hd (fun hh=>h ⟨hc,hh⟩)
   subst hdf
   exact g9 eg (g9 (a:=true) (g8 rfl (g9 ed l8)) (m9 rfl l8))
end Go.Proofs.Ytjloihcijdcpeaa.X
