/- The law's own walk, from its core: one answer. -/
import Derived.Test.YtjloihcijdcpeaaXAL12e
import Derived.Test.YtjloihcijdcpeaaXAK
import Derived.Test.YtjloihcijdcpeaaXAW
set_option linter.unusedVariables false
set_option linter.unusedSimpArgs false
namespace Go.Proofs.Ytjloihcijdcpeaa.X
open Go
theorem DoCommand_pure (v_0:Control)(w0:Control.wf v_0)(v_1:Command)(w1:Command.wf v_1) : ∃ k,y9 k v_0 v_1=some true:=by
 suffices h:Ev (fun k=>y9 k v_0 v_1) true by
  obtain ⟨K,h⟩:=h
  exact ⟨K,h K (Nat.le_refl _)⟩
 unfold y9
 refine qnu (ql8 w0 (by omega) (by omega)) (fun c0 d0=>?_) (by omega)
 refine qnu (qlx w1 (by omega) (by omega)) (fun c1 d1=>?_) (by omega)
 obtain ⟨⟨r0,r1,r2⟩,hs,hi,s0⟩:=DoCommand_core v_0 v_1 w0 w1 (by omega) (by omega)
 dsimp only at s0
 refine Ev.bind (qdr (by omega)) ?_
 refine Ev.bind (qdy (by omega)) ?_
 refine Ev.bind hs ?_
 refine Ev.bind (qdr (by omega)) ?_
 refine Ev.bind (qdy (by omega)) ?_
 refine Ev.bind hi ?_
 refine Ev.bind (qdj (by omega)) ?_
 refine Ev.iteF (by first | (simp; done) | (simp only [decide_eq_false_iff_not]; omega) | (simp; omega)) ?_
 refine Ev.bind (qdr (by omega)) ?_
 refine Ev.bind (qdj (by omega)) ?_
 refine Ev.iteF (by first | (simp; done) | (simp only [decide_eq_false_iff_not]; omega) | (simp; omega)) ?_
 refine Ev.bind (qdy (by omega)) ?_
 refine Ev.bind (qmg (by omega)) ?_
 refine Ev.iteF (by first | (simp; done) | (simp only [decide_eq_false_iff_not]; omega) | (simp; omega)) ?_
 have e0:Control.en v_0 (1)≤1+100*v_0.nn:=Control.en_le (by omega)
 refine Ev.bind (qgq (x:=v_0) (n:=1) (by omega) (by omega)) ?_
 have e1:Command.en v_1 (Control.en v_0 (1))≤Control.en v_0 (1)+100*v_1.nn:=Command.en_le (by omega)
 refine Ev.bind (qkq (x:=v_1) (n:=Control.en v_0 (1)) (by omega) (by omega)) ?_
 refine Ev.bind (a:=false) (Ev.iteF (by first | (simp; done) | (simp only [decide_eq_false_iff_not]; omega) | (simp; omega)) ?_) ?_
 ·skip
  refine Ev.bind (qdj (by omega)) ?_
  exact Ev.of (by simp)
 refine Ev.iteF (by first | (simp; done) | (simp only [decide_eq_false_iff_not]; omega) | (simp; omega)) ?_
 have e2:Control.en r0 (1)≤1+100*r0.nn:=Control.en_le (by omega)
 refine Ev.bind (qgq (x:=r0) (n:=1) (by omega) (by omega)) ?_
 refine Ev.bind (qgt (x:=r0) (n:=1) (by omega) (by omega)) ?_
 refine Ev.iteF (by first | (simp; done) | (simp only [decide_eq_false_iff_not]; omega) | (simp; omega)) ?_
 refine Ev.iteF (by first | (simp; done) | (simp only [decide_eq_false_iff_not]; omega) | (simp; omega)) ?_
 refine Ev.bind (qdr (by omega)) ?_
 refine Ev.bind (qdy (by omega)) ?_
 refine Ev.bind hi ?_
 refine Ev.bind (qdj (by omega)) ?_
 refine Ev.iteF (by first | (simp; done) | (simp only [decide_eq_false_iff_not]; omega) | (simp; omega)) ?_
 refine Ev.bind (qgt (x:=r0) (n:=1) (by omega) (by omega)) ?_
 refine Ev.iteF (by first | (simp; done) | (simp only [decide_eq_false_iff_not]; omega) | (simp; omega)) ?_
 refine Ev.iteF (by first | (simp; done) | (simp only [decide_eq_false_iff_not]; omega) | (simp; omega)) ?_
 exact Ev.rfl
end Go.Proofs.Ytjloihcijdcpeaa.X
