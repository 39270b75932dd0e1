/- The law's own walk, from its core: one answer. -/
import Derived.Test.YtanblnjomhgphaaXAL10c
import Derived.Test.YtanblnjomhgphaaXAK
import Derived.Test.YtanblnjomhgphaaXAW
open Go.Proofs.Ytanblnjomhgphaa.X.Ev renaming bind→a0a,iteF→t3
set_option linter.unusedVariables false
set_option linter.unusedSimpArgs false
namespace Go.Proofs.Ytanblnjomhgphaa.X
open Go
theorem PlayRaft_pure (d8:Int)(w0:inI d8)(a9:List RaftStep)(w1:(wfL 32 RaftStep.wf) a9) : ∃ k,xj k d8 a9=some true:=by
 suffices h:Ev (fun k=>xj k d8 a9) true by
  obtain ⟨K,h⟩:=h
  exact ⟨K,h K (Nat.le_refl _)⟩
 unfold xj
 refine zax (qmm (by have:=w1.1; omega) (by omega) (by omega)) (fun c0 d0=>?_) (by omega)
 obtain ⟨⟨r0,r1,r2⟩,hs,hi,s0,s1⟩:=PlayRaft_core d8 a9 w0 w1 (by omega)
 dsimp only at s0 s1
 refine a0a (qdk (by omega)) ?_
 refine a0a hs ?_
 refine a0a (qdk (by omega)) ?_
 refine a0a hi ?_
 refine a0a (qjt (by omega)) ?_
 refine a0a (a:=false) (t3 (by first | (simp; done) | (simp only [decide_eq_false_iff_not]; omega) | (simp; omega)) ?_) ?_
 ·skip
  refine a0a (qi3 (by omega)) ?_
  exact Ev.of (by simp)
 refine t3 (by first | (simp; done) | (simp only [decide_eq_false_iff_not]; omega) | (simp; omega)) ?_
 refine a0a (qdk (by omega)) ?_
 refine a0a (qm1 (by omega)) ?_
 refine t3 (by first | (simp; done) | (simp only [decide_eq_false_iff_not]; omega) | (simp; omega)) ?_
 have e0:z2 RaftStep.mce a9=4*a9.length:=qa7
 refine a0a (qkx (l:=a9) (n:=1) (by omega) (by omega)) ?_
 refine a0a (a:=false) (t3 (by first | (simp; done) | (simp only [decide_eq_false_iff_not]; omega) | (simp; omega)) ?_) ?_
 ·skip
  refine a0a (qjt (by omega)) ?_
  exact Ev.of (by simp)
 refine a0a (a:=false) (t3 (by first | (simp; done) | (simp only [decide_eq_false_iff_not]; omega) | (simp; omega)) ?_) ?_
 ·skip
  refine a0a (qi3 (by omega)) ?_
  exact Ev.of (by simp)
 refine t3 (by first | (simp; done) | (simp only [decide_eq_false_iff_not]; omega) | (simp; omega)) ?_
 have e1:Raft.en r0 (1)≤1+100*r0.nn:=Raft.en_le (by omega)
 refine a0a (qpi (x:=r0) (n:=1) (by omega) (by omega)) ?_
 have e2:z2 (fun _=>1) r1=1*r1.length:=qa7
 refine a0a (qor (l:=r1) (n:=Raft.en r0 (1)) (by omega) (by omega)) ?_
 refine a0a (qka (x:=r0) (n:=1) (by omega) (by omega)) ?_
 refine t3 (by first | (simp; done) | (simp only [decide_eq_false_iff_not]; omega) | (simp; omega)) ?_
 refine a0a (qjs (l:=r1) (n:=Raft.en r0 (1)) (by omega) (by omega)) ?_
 refine t3 (by first | (simp; done) | (simp only [decide_eq_false_iff_not]; omega) | (simp; omega)) ?_
 refine t3 (by first | (simp; done) | (simp only [decide_eq_false_iff_not]; omega) | (simp; omega)) ?_
 refine a0a (qdk (by omega)) ?_
 refine a0a hi ?_
 refine a0a (qjt (by omega)) ?_
 refine a0a (a:=false) (t3 (by first | (simp; done) | (simp only [decide_eq_false_iff_not]; omega) | (simp; omega)) ?_) ?_
 ·skip
  refine a0a (qi3 (by omega)) ?_
  exact Ev.of (by simp)
 refine t3 (by first | (simp; done) | (simp only [decide_eq_false_iff_not]; omega) | (simp; omega)) ?_
 refine a0a (qka (x:=r0) (n:=1) (by omega) (by omega)) ?_
 refine t3 (by first | (simp; done) | (simp only [decide_eq_false_iff_not]; omega) | (simp; omega)) ?_
 refine a0a (qjs (l:=r1) (n:=Raft.en r0 (1)) (by omega) (by omega)) ?_
 refine t3 (by first | (simp; done) | (simp only [decide_eq_false_iff_not]; omega) | (simp; omega)) ?_
 refine t3 (by first | (simp; done) | (simp only [decide_eq_false_iff_not]; omega) | (simp; omega)) ?_
 exact Ev.rfl
end Go.Proofs.Ytanblnjomhgphaa.X
