/- The law's own walk, from its core: one answer. -/
import Derived.Test.YtohofoampalhoaaXML17q
import Derived.Test.YtohofoampalhoaaXMK
import Derived.Test.YtohofoampalhoaaXMW
open Go.Proofs.Ytohofoampalhoaa.X.Ev renaming bind→a0n,iteF→a0t
set_option linter.unusedVariables false
set_option linter.unusedSimpArgs false
namespace Go.Proofs.Ytohofoampalhoaa.X
open Go
theorem PlayCluster_pure (f0:Int)(w0:inI f0)(d8:List ClusterStep)(w1:(wfL 32 ClusterStep.wf) d8) : ∃ k,wo k f0 d8=some true:=by
 suffices h:Ev (fun k=>wo k f0 d8) true by
  obtain ⟨K,h⟩:=h
  exact ⟨K,h K (Nat.le_refl _)⟩
 unfold wo
 refine q91 (qk5 (by have:=w1.1; omega) (by omega) (by omega)) (fun c0 d0=>?_) (by omega)
 obtain ⟨⟨r0,r1,r2⟩,hs,hi,s0,s1⟩:=PlayCluster_core f0 d8 w0 w1 (by omega)
 dsimp only at s0 s1
 refine a0n (qbz (by omega)) ?_
 refine a0n hs ?_
 refine a0n (qbz (by omega)) ?_
 refine a0n hi ?_
 refine a0n (qg5 (by omega)) ?_
 refine a0n (a:=false) (a0t (by first | (simp; done) | (simp only [decide_eq_false_iff_not]; omega) | (simp; omega)) ?_) ?_
 ·skip
  refine a0n (qjl (by omega)) ?_
  exact Ev.of (by simp)
 refine a0t (by first | (simp; done) | (simp only [decide_eq_false_iff_not]; omega) | (simp; omega)) ?_
 refine a0n (qbz (by omega)) ?_
 refine a0n (qk6 (by omega)) ?_
 refine a0t (by first | (simp; done) | (simp only [decide_eq_false_iff_not]; omega) | (simp; omega)) ?_
 have e0:ja ClusterStep.mce d8=4*d8.length:=wy
 refine a0n (qj0 (l:=d8) (n:=1) (by omega) (by omega)) ?_
 refine a0n (a:=false) (a0t (by first | (simp; done) | (simp only [decide_eq_false_iff_not]; omega) | (simp; omega)) ?_) ?_
 ·skip
  refine a0n (qg5 (by omega)) ?_
  exact Ev.of (by simp)
 refine a0n (a:=false) (a0t (by first | (simp; done) | (simp only [decide_eq_false_iff_not]; omega) | (simp; omega)) ?_) ?_
 ·skip
  refine a0n (qjl (by omega)) ?_
  exact Ev.of (by simp)
 refine a0t (by first | (simp; done) | (simp only [decide_eq_false_iff_not]; omega) | (simp; omega)) ?_
 have e1:Cluster.en r0 (1)≤1+100*r0.nn:=Cluster.en_le (by omega)
 refine a0n (qns (x:=r0) (n:=1) (by omega) (by omega)) ?_
 have e2:ja (fun _=>1) r1=1*r1.length:=wy
 refine a0n (qoq (l:=r1) (n:=Cluster.en r0 (1)) (by omega) (by omega)) ?_
 refine a0n (qiq (x:=r0) (n:=1) (by omega) (by omega)) ?_
 refine a0t (by first | (simp; done) | (simp only [decide_eq_false_iff_not]; omega) | (simp; omega)) ?_
 refine a0n (qka (l:=r1) (n:=Cluster.en r0 (1)) (by omega) (by omega)) ?_
 refine a0t (by first | (simp; done) | (simp only [decide_eq_false_iff_not]; omega) | (simp; omega)) ?_
 refine a0t (by first | (simp; done) | (simp only [decide_eq_false_iff_not]; omega) | (simp; omega)) ?_
 refine a0n (qbz (by omega)) ?_
 refine a0n hi ?_
 refine a0n (qg5 (by omega)) ?_
 refine a0n (a:=false) (a0t (by first | (simp; done) | (simp only [decide_eq_false_iff_not]; omega) | (simp; omega)) ?_) ?_
 ·skip
  refine a0n (qjl (by omega)) ?_
  exact Ev.of (by simp)
 refine a0t (by first | (simp; done) | (simp only [decide_eq_false_iff_not]; omega) | (simp; omega)) ?_
 refine a0n (qiq (x:=r0) (n:=1) (by omega) (by omega)) ?_
 refine a0t (by first | (simp; done) | (simp only [decide_eq_false_iff_not]; omega) | (simp; omega)) ?_
 refine a0n (qka (l:=r1) (n:=Cluster.en r0 (1)) (by omega) (by omega)) ?_
 refine a0t (by first | (simp; done) | (simp only [decide_eq_false_iff_not]; omega) | (simp; omega)) ?_
 refine a0t (by first | (simp; done) | (simp only [decide_eq_false_iff_not]; omega) | (simp; omega)) ?_
 exact Ev.rfl
end Go.Proofs.Ytohofoampalhoaa.X
