/- The law's own walk, from its core: one answer. -/
import Derived.Test.YtjloihcijdcpeaaXBL12f
import Derived.Test.YtjloihcijdcpeaaXBK
import Derived.Test.YtjloihcijdcpeaaXBW
set_option linter.unusedVariables false
set_option linter.unusedSimpArgs false
namespace Go.Proofs.Ytjloihcijdcpeaa.X
open Go
theorem PlayCommands_pure (v_0:Int)(w0:inI v_0)(v_1:List Command)(w1:(wfL 64 Command.wf) v_1) : ∃ k,yj k v_0 v_1=some true:=by
 suffices h:Ev (fun k=>yj k v_0 v_1) true by
  obtain ⟨K,h⟩:=h
  exact ⟨K,h K (Nat.le_refl _)⟩
 unfold yj
 refine q4y (qk7 w1 (by omega) (by omega)) (fun c0 d0=>?_) (by omega)
 obtain ⟨⟨r0,r1,r2⟩,hs,hi,s0,s1⟩:=PlayCommands_core v_0 v_1 w0 w1 (by omega)
 dsimp only at s0 s1
 refine Ev.bind (qcy (by omega)) ?_
 refine Ev.bind hs ?_
 refine Ev.bind (qcy (by omega)) ?_
 refine Ev.bind hi ?_
 refine Ev.bind (qfq (by omega)) ?_
 refine Ev.bind (a:=false) (Ev.iteF (by first | (simp; done) | (simp only [decide_eq_false_iff_not]; omega) | (simp; omega)) ?_) ?_
 ·skip
  refine Ev.bind (qdd (by omega)) ?_
  exact Ev.of (by simp)
 refine Ev.iteF (by first | (simp; done) | (simp only [decide_eq_false_iff_not]; omega) | (simp; omega)) ?_
 refine Ev.bind (qcy (by omega)) ?_
 refine Ev.bind (qlc (by omega)) ?_
 refine Ev.iteF (by first | (simp; done) | (simp only [decide_eq_false_iff_not]; omega) | (simp; omega)) ?_
 have e0:zp Command.mce v_1≤100*nnL Command.nn v_1:=qnq Command.mce_le
 refine Ev.bind (qjr (l:=v_1) (n:=1) (by omega) (by omega)) ?_
 refine Ev.bind (a:=false) (Ev.iteF (by first | (simp; done) | (simp only [decide_eq_false_iff_not]; omega) | (simp; omega)) ?_) ?_
 ·skip
  refine Ev.bind (qfq (by omega)) ?_
  exact Ev.of (by simp)
 refine Ev.bind (a:=false) (Ev.iteF (by first | (simp; done) | (simp only [decide_eq_false_iff_not]; omega) | (simp; omega)) ?_) ?_
 ·skip
  refine Ev.bind (qdd (by omega)) ?_
  exact Ev.of (by simp)
 refine Ev.iteF (by first | (simp; done) | (simp only [decide_eq_false_iff_not]; omega) | (simp; omega)) ?_
 have e1:Control.en r0 (1)≤1+100*r0.nn:=Control.en_le (by omega)
 refine Ev.bind (qkc (x:=r0) (n:=1) (by omega) (by omega)) ?_
 have e2:zp (fun _=>1) r1=1*r1.length:=qaf
 refine Ev.bind (qef (l:=r1) (n:=Control.en r0 (1)) (by omega) (by omega)) ?_
 refine Ev.bind (qgk (x:=r0) (n:=1) (by omega) (by omega)) ?_
 refine Ev.iteF (by first | (simp; done) | (simp only [decide_eq_false_iff_not]; omega) | (simp; omega)) ?_
 refine Ev.bind (qeh (l:=r1) (n:=Control.en r0 (1)) (by omega) (by omega)) ?_
 refine Ev.iteF (by first | (simp; done) | (simp only [decide_eq_false_iff_not]; omega) | (simp; omega)) ?_
 refine Ev.iteF (by first | (simp; done) | (simp only [decide_eq_false_iff_not]; omega) | (simp; omega)) ?_
 refine Ev.bind (qcy (by omega)) ?_
 refine Ev.bind hi ?_
 refine Ev.bind (qfq (by omega)) ?_
 refine Ev.bind (a:=false) (Ev.iteF (by first | (simp; done) | (simp only [decide_eq_false_iff_not]; omega) | (simp; omega)) ?_) ?_
 ·skip
  refine Ev.bind (qdd (by omega)) ?_
  exact Ev.of (by simp)
 refine Ev.iteF (by first | (simp; done) | (simp only [decide_eq_false_iff_not]; omega) | (simp; omega)) ?_
 refine Ev.bind (qgk (x:=r0) (n:=1) (by omega) (by omega)) ?_
 refine Ev.iteF (by first | (simp; done) | (simp only [decide_eq_false_iff_not]; omega) | (simp; omega)) ?_
 refine Ev.bind (qeh (l:=r1) (n:=Control.en r0 (1)) (by omega) (by omega)) ?_
 refine Ev.iteF (by first | (simp; done) | (simp only [decide_eq_false_iff_not]; omega) | (simp; omega)) ?_
 refine Ev.iteF (by first | (simp; done) | (simp only [decide_eq_false_iff_not]; omega) | (simp; omega)) ?_
 exact Ev.rfl
end Go.Proofs.Ytjloihcijdcpeaa.X
