/- PlayRaft: its core, joined. -/
import Derived.Test.YtanblnjomhgphaaXAL10q
open Go.Proofs.Ytanblnjomhgphaa.X.Ev renaming bind→a0a,iteT→a0e,rfl→a0b
set_option linter.unusedVariables false
set_option linter.unusedSimpArgs false
namespace Go.Proofs.Ytanblnjomhgphaa.X
open Go

theorem PlayRaft_core (d8:Int)(a9:List RaftStep)(w0:inI d8)(w1:(wfL 32 RaftStep.wf) a9)(b0:a9.length≤1048576) : ∃ (r:Raft × List Bool × Bool),Ev (fun k=>qck k d8 a9) r∧Ev (fun k=>qas d8 a9) r∧r.1.nn≤1048576∧r.2.1.length≤1048576:=by
 unfold qck qas
 by_cases h:1≤d8∧d8≤5
 case neg =>
  refine ⟨(⟨[],[]⟩,[],false),?_,a0e ?_ a0b,by decide,by decide⟩
  ·refine a0a (a:=(⟨[],[]⟩,false)) ?_ (a0e rfl a0b)
   unfold qc5
   exact a0e (zgr.2 h) a0b
  ·rw [Bool.or_eq_true,zcx]
   exact .inl h
 obtain ⟨n,rfl⟩ : ∃ n:Nat,d8=(n:Int):=⟨d8.toNat,by omega⟩
 have h5:1≤n∧n≤5:=by omega
 by_cases hl:a9.length≤100
 case neg =>
  exact ⟨(⟨[],[]⟩,[],false),a0a (qyk h5) (a0e (by simp; omega) a0b),a0e (by simp; omega) a0b,by decide,by decide⟩
 obtain ⟨p1,p2,p3⟩:=zcw (n:=n) (l:=a9) (by omega) h5
 have q1:=zbu (n:=n) (l:=a9) (by omega) h5
 obtain ⟨m,G,hr⟩:=p2
 refine ⟨((qcu (qde n) a9 []).1,(qcu (qde n) a9 []).2,true),?_,?_,hr.nn,by dsimp only; omega⟩
 ·refine a0a (qyk h5) (Ev.iteF (by simp; omega) (Ev.jn p1 ?_))
  unfold qd6
  exact a0a (q5n hr.sg) a0b
 ·refine Ev.iteF ?_ (a0a (zdv h5) (Ev.jn q1 a0b))
  have:=bF (zcx (n:=(n:Int)) (a:=1) (b:=5)) (fun q=>q h)
  rw [this]
  simp
  omega
end Go.Proofs.Ytanblnjomhgphaa.X
