/- The law's own walk, from its core: one answer. -/
import Derived.Test.YtpddolihbnfahaaXAL9f
import Derived.Test.YtpddolihbnfahaaXAK
import Derived.Test.YtpddolihbnfahaaXAW
set_option linter.unusedVariables false
set_option linter.unusedSimpArgs false
namespace Go.Proofs.Ytpddolihbnfahaa.X
open Go
theorem PlayElection_pure (v_0:List (List Int))(w0:(wfL 24 (wfL 8 inI)) v_0)(v_1:List ElectStep)(w1:(wfL 16 ElectStep.wf) v_1) : ∃ k,yx k v_0 v_1=some true:=by
 suffices h:Ev (fun k=>yx k v_0 v_1) true by
  obtain ⟨K,h⟩:=h
  exact ⟨K,h K (Nat.le_refl _)⟩
 unfold yx
 refine qpr (qqw w0 (by omega) (by omega)) (fun c0 d0=>?_) (by omega)
 refine qpr (qkz (by have:=w1.1; omega) (by omega) (by omega)) (fun c1 d1=>?_) (by omega)
 obtain ⟨⟨r0,r1,r2⟩,hs,hi,s0,s1⟩:=PlayElection_core v_0 v_1 w0 w1 (by omega) (by omega)
 dsimp only at s0 s1
 refine Ev.bind (qgd (by omega)) ?_
 refine Ev.bind (qco (by omega)) ?_
 refine Ev.bind hs ?_
 refine Ev.bind (qgd (by omega)) ?_
 refine Ev.bind (qco (by omega)) ?_
 refine Ev.bind hi ?_
 refine Ev.bind (qfw (by omega)) ?_
 refine Ev.bind (a:=false) (Ev.iteF (by first | (simp; done) | (simp only [decide_eq_false_iff_not]; omega) | (simp; omega)) ?_) ?_
 ·skip
  refine Ev.bind (qih (by omega)) ?_
  exact Ev.of (by simp)
 refine Ev.iteF (by first | (simp; done) | (simp only [decide_eq_false_iff_not]; omega) | (simp; omega)) ?_
 refine Ev.bind (qgd (by omega)) ?_
 refine Ev.bind (qqt (by omega)) ?_
 refine Ev.iteF (by first | (simp; done) | (simp only [decide_eq_false_iff_not]; omega) | (simp; omega)) ?_
 refine Ev.bind (qco (by omega)) ?_
 refine Ev.bind (qks (by omega)) ?_
 refine Ev.iteF (by first | (simp; done) | (simp only [decide_eq_false_iff_not]; omega) | (simp; omega)) ?_
 have e0:zq IntR.mce v_0≤100*nnL IntR.nn v_0:=qpx IntR.mce_le
 refine Ev.bind (qoc (l:=v_0) (n:=1) (by omega) (by omega)) ?_
 have e1:zq ElectStep.mce v_1=2*v_1.length:=u4
 refine Ev.bind (qjt (l:=v_1) (n:=1+zq IntR.mce v_0) (by omega) (by omega)) ?_
 refine Ev.bind (a:=false) (Ev.iteF (by first | (simp; done) | (simp only [decide_eq_false_iff_not]; omega) | (simp; omega)) ?_) ?_
 ·skip
  refine Ev.bind (qfw (by omega)) ?_
  exact Ev.of (by simp)
 refine Ev.bind (a:=false) (Ev.iteF (by first | (simp; done) | (simp only [decide_eq_false_iff_not]; omega) | (simp; omega)) ?_) ?_
 ·skip
  refine Ev.bind (qih (by omega)) ?_
  exact Ev.of (by simp)
 refine Ev.iteF (by first | (simp; done) | (simp only [decide_eq_false_iff_not]; omega) | (simp; omega)) ?_
 have e2:Election.en r0 (1)≤1+100*r0.nn:=Election.en_le (by omega)
 refine Ev.bind (qk3 (x:=r0) (n:=1) (by omega) (by omega)) ?_
 have e3:zq (fun _=>1) r1=1*r1.length:=u4
 refine Ev.bind (qnk (l:=r1) (n:=Election.en r0 (1)) (by omega) (by omega)) ?_
 refine Ev.bind (qhf (x:=r0) (n:=1) (by omega) (by omega)) ?_
 refine Ev.iteF (by first | (simp; done) | (simp only [decide_eq_false_iff_not]; omega) | (simp; omega)) ?_
 refine Ev.bind (qjc (l:=r1) (n:=Election.en r0 (1)) (by omega) (by omega)) ?_
 refine Ev.iteF (by first | (simp; done) | (simp only [decide_eq_false_iff_not]; omega) | (simp; omega)) ?_
 refine Ev.iteF (by first | (simp; done) | (simp only [decide_eq_false_iff_not]; omega) | (simp; omega)) ?_
 refine Ev.bind (qgd (by omega)) ?_
 refine Ev.bind (qco (by omega)) ?_
 refine Ev.bind hi ?_
 refine Ev.bind (qfw (by omega)) ?_
 refine Ev.bind (a:=false) (Ev.iteF (by first | (simp; done) | (simp only [decide_eq_false_iff_not]; omega) | (simp; omega)) ?_) ?_
 ·skip
  refine Ev.bind (qih (by omega)) ?_
  exact Ev.of (by simp)
 refine Ev.iteF (by first | (simp; done) | (simp only [decide_eq_false_iff_not]; omega) | (simp; omega)) ?_
 refine Ev.bind (qhf (x:=r0) (n:=1) (by omega) (by omega)) ?_
 refine Ev.iteF (by first | (simp; done) | (simp only [decide_eq_false_iff_not]; omega) | (simp; omega)) ?_
 refine Ev.bind (qjc (l:=r1) (n:=Election.en r0 (1)) (by omega) (by omega)) ?_
 refine Ev.iteF (by first | (simp; done) | (simp only [decide_eq_false_iff_not]; omega) | (simp; omega)) ?_
 refine Ev.iteF (by first | (simp; done) | (simp only [decide_eq_false_iff_not]; omega) | (simp; omega)) ?_
 exact Ev.rfl
end Go.Proofs.Ytpddolihbnfahaa.X
