/- FnExactStepClusterSaid is proved: for every input the law FnExactStepCluster returns true, and each argument reads behind the call as it read before; no condition beyond the statement's own. -/
import Derived.Test.YtohofoampalhoaaRows
import Derived.Test.YtohofoampalhoaaXGH8
import Derived.Test.YtohofoampalhoaaXGW
import Derived.Test.YtohofoampalhoaaXGC
import Derived.WalkKit
import Derived.ProofKit
import Derived.OpenShut
import Derived.ChangeOld
import Derived.SizedLaws
set_option linter.unusedVariables false
namespace Go.Proofs.Ytohofoampalhoaa.X.LawStepCluster
open Go Go.ChangeShapes Go.WideShapes Go.ChangeAt Go.RowKit

theorem law (xs:List XV)(hlen:xs.length=Try.f8.params.size)(hfit:∀ (j:Nat) t x,Try.f8.params.toList[j]? = some t→xs[j]? = some x→FitsV T t x) : ∃ n h',wt X.E n (fun _=>true) 8 xs []=some (.bool true,h'):=by
 have hlen:xs.length=2:=hlen
 rw [Try.params8] at hfit
 match xs,hlen with
 | [a0,a1],_ =>
  obtain ⟨cs0,rfl,g0⟩:=(hfit 0 _ _ rfl rfl).many (t:=38) rfl rfl
  obtain ⟨y0,rfl,w0⟩:=zcp _ g0
  obtain ⟨cs1,rfl,g1⟩:=(hfit 1 _ _ rfl rfl).many (t:=60) rfl rfl
  obtain ⟨y1,rfl,w1⟩:=zbl _ g1
  obtain ⟨k,hk⟩:=StepCluster_pure y0 w0 y1 w1
  exact zah (qgf (W:=fun _=>true) (h:=[]) (fun _ _=>rfl) k y0 y1 true hk)

theorem own:ownKnob Try.prog.godebug=none:=by kernel_rfl
theorem q9h:laidOutB Try.prog=true:=by kernel_rfl
set_option maxRecDepth 100000 in
theorem zbi (os:Os)(started:os.Started)(H:Type)(enc:TypeId × Value→H) :
  ReturnsInHanded {} Try.checked os 8 .any (Rows.fnExactStepClusterSpec.pre6 enc Try.prog Try.f8 Rows.fnExactStepClusterRow.domain false) (Rows.fnExactStepClusterSpec.post enc Try.prog Try.f8 false true false false):=by
 refine returnsInHanded_of_change_sized (C:=Try.checked) own started (by kernel_rfl) Try.func8
  (ChangeSpec.witness6 (enc:=enc) (C:=Try.checked) false ⟨#[],#[.agg #[.int .i64 0,.int .i64 0,.slice none 0 0,.slice none 0 0,.slice none 0 0],.agg #[.int .i64 0,.int .i64 0,.int .i64 0,.int .i64 0]],[]⟩ 8 (by kernel_rfl) (by kernel_rfl) (by kernel_rfl) (by kernel_rfl)) ?_
 intro W base args ds gs before hval0 hW hcnd hsz0 _
 have hW':=hW
 obtain ⟨p,q,hA0,hV,rfl,hfz,hnd⟩:=hW
 obtain ⟨rfl,rfl⟩:=trodVars_none hV
 have hA1:DataW.TrodAll enc Try.prog W 0 (fun _=>true) true Try.f8.params.toList args.toList ds p:=hA0
 rw [Try.params8] at hA1
 obtain ⟨v0,vs0,d0,ds0,p0,q0,hargs,rfl,rfl,h0,r0⟩:=trodAll_cons hA1
 obtain ⟨v1,vs1,d1,ds1,p1,q1,rfl,rfl,rfl,h1,r1⟩:=trodAll_cons r0
 obtain ⟨rfl,rfl,rfl⟩:=trodAll_nil r1
 have hT:=q9k (P:=Try.prog) zca
 obtain ⟨xs,hl,hlen,hfit⟩:=qx7 (T:=T) hT (dp:=9) hA0 (fun j t v h1 h2=>hval0 j t v (by simpa using h1) (by simpa using h2)) (by
  have h:=hsz0
  simp only [Try.params8,List.cons_append,List.nil_append,DataW.weightsEach,List.append_nil,List.all_append,Bool.and_eq_true] at h ⊢
  first | exact h.1 | exact ⟨h.1,h.2.1⟩ | exact ⟨h.1,h.2.1,h.2.2.1⟩ | exact ⟨h.1,h.2.1,h.2.2.1,h.2.2.2.1⟩) (by kernel_rfl)
 obtain ⟨n,h',hx⟩:=law xs (by simpa using hlen) hfit
 refine (quy (q84 zb6 zcw) hT (by kernel_rfl) hx hl).mono fun e W' ⟨he,bel⟩=>?_
 subst he
 obtain ⟨q2,hback⟩:=qxt q9h bel (by kernel_rfl) hA0
 exact ⟨_,rfl,_,_,_,[],_,[],hW',trodAll_mk1 (shut_bool Try.underlying4 _),hback,rfl,bel.frame _,fun h=>by cases h⟩
theorem said:Rows.FnExactStepClusterSaid :=
 OpenClaim.holds_of_wide 8 Try.f8 rfl rfl rfl rfl rfl rfl rfl ⟨rfl,rfl,rfl,rfl,rfl⟩ rfl rfl rfl rfl rfl (by kernel_rfl) Try.func8 (by kernel_rfl)
  (of_decide_eq_true (by kernel_rfl)) (by unfold Func.isWrapper; first | (rw [if_pos (by decide +kernel)]; kernel_rfl) | (rw [if_neg (by decide +kernel)]; exact ⟨rfl,rfl⟩))
  (fun os started H enc _=>zbi os started H enc)
end Go.Proofs.Ytohofoampalhoaa.X.LawStepCluster
