/- FnRaftsSaid is proved: for every input the law FnRafts returns true, and each argument reads behind the call as it read before; no condition beyond the statement's own. -/
import Derived.Test.YtanblnjomhgphaaRows
import Derived.Test.YtanblnjomhgphaaXBH8
import Derived.Test.YtanblnjomhgphaaXBW
import Derived.Test.YtanblnjomhgphaaXBL10v
import Derived.WalkKit
import Derived.ProofKit
import Derived.OpenShut
import Derived.ChangeOld
import Derived.SizedLaws
set_option linter.unusedVariables false
namespace Go.Proofs.Ytanblnjomhgphaa.X.LawFnRafts
open Go Go.ChangeShapes Go.WideShapes Go.ChangeAt Go.RowKit

theorem law (xs:List XV)(hlen:xs.length=Try.f3.params.size)(hfit:∀ (j:Nat) t x,Try.f3.params.toList[j]? = some t→xs[j]? = some x→FitsV T t x) : ∃ n h',xu X.E n (fun _=>true) 3 xs []=some (.bool true,h'):=by
 have hlen:xs.length=1:=hlen
 rw [Try.params3] at hfit
 match xs,hlen with
 | [a0],_ =>
  have g0:=(hfit 0 _ _ rfl rfl).one (t:=22) rfl rfl
  obtain ⟨y0,e0,w0⟩:=zds _ g0
  cases e0
  obtain ⟨k,hk⟩:=FnRafts_pure y0 w0
  exact zc4 (qnh (W:=fun _=>true) (h:=[]) (fun _ _=>rfl) k y0 true hk)

theorem own:ownKnob Try.prog.godebug=none:=by kernel_rfl
theorem zaa:laidOutB Try.prog=true:=by kernel_rfl
set_option maxRecDepth 100000 in
theorem zbm (os:Os)(started:os.Started)(H:Type)(enc:TypeId × Value→H) :
  ReturnsInHanded {} Try.checked os 3 .any (Rows.fnRaftsSpec.pre6 enc Try.prog Try.f3 Rows.fnRaftsRow.domain false) (Rows.fnRaftsSpec.post enc Try.prog Try.f3 false true false false):=by
 refine returnsInHanded_of_change_sized (C:=Try.checked) own started (by kernel_rfl) Try.func3
  (ChangeSpec.witness6 (enc:=enc) (C:=Try.checked) false ⟨#[],#[.slice none 0 0],[]⟩ 8 (by kernel_rfl) (by kernel_rfl) (by kernel_rfl) (by kernel_rfl)) ?_
 intro W base args ds gs before hval0 hW hcnd hsz0 _
 have hW':=hW
 obtain ⟨p,q,hA0,hV,rfl,hfz,hnd⟩:=hW
 obtain ⟨rfl,rfl⟩:=trodVars_none hV
 have hA1:DataW.TrodAll enc Try.prog W 0 (fun _=>true) true Try.f3.params.toList args.toList ds p:=hA0
 rw [Try.params3] at hA1
 obtain ⟨v0,vs0,d0,ds0,p0,q0,hargs,rfl,rfl,h0,r0⟩:=trodAll_cons hA1
 obtain ⟨rfl,rfl,rfl⟩:=trodAll_nil r0
 have hT:=q94 (P:=Try.prog) zed
 obtain ⟨xs,hl,hlen,hfit⟩:=q02 (T:=T) hT (dp:=9) hA0 (fun j t v h1 h2=>hval0 j t v (by simpa using h1) (by simpa using h2)) (by
  have h:=hsz0
  simp only [Try.params3,List.cons_append,List.nil_append,DataW.weightsEach,List.append_nil,List.all_append,Bool.and_eq_true] at h ⊢
  first | exact h.1 | exact ⟨h.1,h.2.1⟩ | exact ⟨h.1,h.2.1,h.2.2.1⟩ | exact ⟨h.1,h.2.1,h.2.2.1,h.2.2.2.1⟩) (by kernel_rfl)
 obtain ⟨n,h',hx⟩:=law xs (by simpa using hlen) hfit
 refine (qt1 (q98 zd6 zd3) hT (by kernel_rfl) hx hl).mono fun e W' ⟨he,bel⟩=>?_
 subst he
 obtain ⟨q2,hback⟩:=q0s zaa bel (by kernel_rfl) hA0
 exact ⟨_,rfl,_,_,_,[],_,[],hW',trodAll_mk1 (shut_bool Try.underlying4 _),hback,rfl,bel.frame _,fun h=>by cases h⟩
theorem said:Rows.FnRaftsSaid :=
 OpenClaim.holds_of_wide 3 Try.f3 rfl rfl rfl rfl rfl rfl rfl ⟨rfl,rfl,rfl,rfl,rfl⟩ rfl rfl rfl rfl rfl (by kernel_rfl) Try.func3 (by kernel_rfl)
  (of_decide_eq_true (by kernel_rfl)) (by unfold Func.isWrapper; first | (rw [if_pos (by decide +kernel)]; kernel_rfl) | (rw [if_neg (by decide +kernel)]; exact ⟨rfl,rfl⟩))
  (fun os started H enc _=>zbm os started H enc)
end Go.Proofs.Ytanblnjomhgphaa.X.LawFnRafts
