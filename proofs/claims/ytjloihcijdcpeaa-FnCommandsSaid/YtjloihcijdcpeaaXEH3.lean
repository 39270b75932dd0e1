/- The functions' code comes to what the plain functions say (3). -/
import Derived.Test.YtjloihcijdcpeaaXEH2
open List renaming drop_succ_cons→b7,drop_zero→e8,length→b6,take_succ_cons→d7,take_zero→e9
open Nat renaming add_zero→b4,reduceAdd→a8,reduceEqDiff→a7,zero_add→a9
set_option linter.unusedVariables false
set_option linter.unusedSimpArgs false
set_option maxRecDepth 100000
namespace Go.Proofs.Ytjloihcijdcpeaa.X
open Go
theorem qjt {W:Nat→Bool}{h:Heap} (hW:∀ b,
  (geL h.length) b→W b=true) (v_0:Control) (v_1:Command) (r:Bool) (hF:qb0 v_0 v_1=some r) : Ret E W 54 [.agg [lst qe v_0.Brokers,
  lst qd v_0.Parts,.int .i64 v_0.Next],.agg [.int .i64 v_1.Kind,.int .i64 v_1.Broker,.int .i64 v_1.Epoch,.int .i64 v_1.Part,.int .i64 v_1.Stamp,
  lst cI v_1.InStep]] h (fun v h'=>cut h.length h' E.sz false 9 v=some (.bool r)):=by
 refine Ret.of (fn:=x54) rfl (Run.of ?_)
 unfold qb0 at hF
 have zf0:zj [.agg [lst qe v_0.Brokers,lst qd v_0.Parts,.int .i64 v_0.Next],.agg [.int .i64 v_1.Kind,.int .i64 v_1.Broker,.int .i64 v_1.Epoch,
   .int .i64 v_1.Part,.int .i64 v_1.Stamp,lst cI v_1.InStep]] 0 = .agg [lst qe v_0.Brokers,lst qd v_0.Parts,.int .i64 v_0.Next]:=rfl
 have zf1:zj [.agg [lst qe v_0.Brokers,lst qd v_0.Parts,.int .i64 v_0.Next],.agg [.int .i64 v_1.Kind,.int .i64 v_1.Broker,.int .i64 v_1.Epoch,
   .int .i64 v_1.Part,.int .i64 v_1.Stamp,lst cI v_1.InStep]] 1 = .agg [.int .i64 v_1.Kind,.int .i64 v_1.Broker,.int .i64 v_1.Epoch,.int .i64 v_1.Part,
   .int .i64 v_1.Stamp,lst cI v_1.InStep]:=rfl
 generalize zj [.agg [lst qe v_0.Brokers,lst qd v_0.Parts,.int .i64 v_0.Next],.agg [.int .i64 v_1.Kind,.int .i64 v_1.Broker,.int .i64 v_1.Epoch,
   .int .i64 v_1.Part,.int .i64 v_1.Stamp,lst cI v_1.InStep]]=fr0 at zf0 zf1 ⊢
 have hS:Sep h (geL h.length) []:=Sep.nil h
 simp only [x54,qh,qf,jp,zf0,B0,reduceIte,a7]
 refine jc (cs:=[lst qe v_0.Brokers,lst qd v_0.Parts,.int .i64 v_0.Next]) hS rfl rfl rfl (fun b1 h2 hS3=>?_)
 simp only [jp,zf1,B0,reduceIte,a7]
 refine jc (cs:=[.int .i64 v_1.Kind,.int .i64 v_1.Broker,.int .i64 v_1.Epoch,.int .i64 v_1.Part,.int .i64 v_1.Stamp,
   lst cI v_1.InStep]) hS3 rfl rfl rfl (fun b5 h6 hS7=>?_)
 simp only [qg,qa,B0,reduceIte,a7]
 refine zq (Sep.m1 hS7) hW (by simp only [B0,reduceIte,a7]) (fun h9 hS10=>?_)
 refine zq hS10 hW (by simp only [B0,reduceIte,a7]) (fun h11 hS12=>?_)
 simp only [zp,qvd,qh,qf,qp,qb,a8,a9,b4,qs,qm,B0,reduceIte,a7]
 refine qi (v := .int .i64 v_1.Broker) rfl ?_
 simp only [qv,qb,qcg,qg,B0,reduceIte,a7]
 refine zr 7 (fun fr' h'=>Sep h' (geL h.length) ([])∧fr' 17 = .bool ((decide ((0:Int)≤v_1.Broker))&&(decide (v_1.Broker <
   (b6 v_0.Brokers:Int))))∧fr' 2 = .ref [lst qe v_0.Brokers,lst qd v_0.Parts,.int .i64 v_0.Next] 0∧fr' 3 = .ref [.int .i64 v_1.Kind,
   .int .i64 v_1.Broker,.int .i64 v_1.Epoch,.int .i64 v_1.Part,.int .i64 v_1.Stamp,lst cI v_1.InStep] 0) (fun Q13 hN14=>?_) ?_
 ·simp only [d7,e9]
  simp only [qc (g:=10),B0,reduceIte,a7]
  refine qy (t:=(decide ((0:Int)≤v_1.Broker))) (fun hg15=>?_) (fun hg15=>?_)
  ·simp only [hg15,qc (g:=10),qw,qp,qb,a8,a9,b4,qs,qm,B0,reduceIte,a7]
   refine qi (v := .int .i64 v_1.Broker) rfl ?_
   simp only [hg15,qc (g:=10),qw,qp,qb,a8,a9,b4,qs,qm,B0,reduceIte,a7]
   refine qi (v:=lst qe v_0.Brokers) rfl ?_
   simp only [hg15,qc (g:=10),qw,zx,qb,z1,qv,qfi,qr,zh,qa,qn,B0,reduceIte,a7]
   exact hN14 _ _ ⟨hS12,by rw [k8 hg15]; simp only [B0,reduceIte,a7],rfl,rfl⟩
  ·simp only [hg15,qc (g:=10),zy,qr,qb,zi,qa,qn,B0,reduceIte,a7]
   exact hN14 _ _ ⟨hS12,by rw [k9 hg15]; simp only [B0,reduceIte,a7],rfl,rfl⟩
 rintro fr16 h20 ⟨hS21,f17,f18,f19⟩
 simp only [b7,e8]
 simp only [f17,qg,qa,qqu,qh,qf,f19,qp,qb,a8,a9,b4,qs,qm,B0,reduceIte,a7]
 refine qi (v:=lst cI v_1.InStep) rfl ?_
 simp only [zx,qb,z1,qv,z8,qg,qa,qqt,qh,qf,f19,qp,a8,a9,b4,qs,qm,
   B0,reduceIte,a7]
 refine qi (v := .int .i64 v_1.Kind) rfl ?_
 simp only [qa,qv3,wi,qqz,qh,qf,qv,qb,z8,qg,qva,qz,B0,reduceIte,a7]
 refine qx (t:=(decide (v_1.Kind=1))) (fun hc22=>?_) (fun hc22=>?_)
 ·rw [iteT hc22] at hF
  simp only [q6y,qh,qf,qg,B0,reduceIte,a7]
  refine zr 4 (fun fr' h'=>Sep h' (geL h.length) ([])∧fr' 31 = .bool (((decide ((0:Int)≤v_1.Broker))&&(decide (v_1.Broker<(b6 v_0.Brokers:Int)))) &&
    (decide (v_1.Epoch=0)))∧fr' 3 = .ref [.int .i64 v_1.Kind,.int .i64 v_1.Broker,.int .i64 v_1.Epoch,.int .i64 v_1.Part,.int .i64 v_1.Stamp,
    lst cI v_1.InStep] 0∧fr' 6 = .bool (decide ((b6 v_1.InStep:Int)=0))) (fun Q23 hN24=>?_) ?_
  ·simp only [d7,e9]
   simp only [qc (g:=27),B0,reduceIte,a7]
   refine qy (t:=((decide ((0:Int)≤v_1.Broker))&&(decide (v_1.Broker<(b6 v_0.Brokers:Int))))) (fun hg25=>?_) (fun hg25=>?_)
   ·simp only [hg25,qc (g:=27),qw,f19,qp,qb,a8,a9,b4,qs,qm,B0,reduceIte,a7]
    refine qi (v := .int .i64 v_1.Epoch) rfl ?_
    simp only [hg25,qc (g:=27),qw,qv,qb,z8,qr,zh,qa,qn,B0,reduceIte,a7]
    exact hN24 _ _ ⟨hS21,by rw [k8 hg25]; simp only [B0,reduceIte,a7],f19,rfl⟩
   ·simp only [hg25,qc (g:=27),zy,qr,qb,zi,qa,qn,B0,reduceIte,a7]
    exact hN24 _ _ ⟨hS21,by rw [k9 hg25]; simp only [B0,reduceIte,a7],f19,rfl⟩
  rintro fr26 h30 ⟨hS31,f27,f28,f29⟩
  simp only [b7,e8]
  simp only [f27,qg,B0,reduceIte,a7]
  refine zr 4 (fun fr' h'=>Sep h' (geL h.length) ([])∧fr' 36 = .bool ((((decide ((0:Int)≤v_1.Broker))&&(decide (v_1.Broker<(b6 v_0.Brokers:Int)))) &&
    (decide (v_1.Epoch=0)))&&(decide (v_1.Part=0)))∧fr' 3 = .ref [.int .i64 v_1.Kind,.int .i64 v_1.Broker,.int .i64 v_1.Epoch,.int .i64 v_1.Part,
    .int .i64 v_1.Stamp,lst cI v_1.InStep] 0∧fr' 6 = .bool (decide ((b6 v_1.InStep:Int)=0))) (fun Q32 hN33=>?_) ?_
  ·simp only [d7,e9]
   simp only [qc (g:=32),B0,reduceIte,a7]
   refine qy (t:=(((decide ((0:Int)≤v_1.Broker))&&(decide (v_1.Broker<(b6 v_0.Brokers:Int))))&&(decide (v_1.Epoch=0)))) (fun hg34=>?_)
     (fun hg34=>?_)
   ·simp only [hg34,qc (g:=32),qw,f28,qp,qb,a8,a9,b4,qs,qm,B0,reduceIte,a7]
    refine qi (v := .int .i64 v_1.Part) rfl ?_
    simp only [hg34,qc (g:=32),qw,qv,qb,z8,qr,zh,qa,qn,B0,reduceIte,a7]
    exact hN33 _ _ ⟨hS31,by rw [k8 hg34]; simp only [B0,reduceIte,a7],f28,f29⟩
   ·simp only [hg34,qc (g:=32),zy,qr,qb,zi,qa,qn,B0,reduceIte,a7]
    exact hN33 _ _ ⟨hS31,by rw [k9 hg34]; simp only [B0,reduceIte,a7],f28,f29⟩
  rintro fr35 h39 ⟨hS40,f36,f37,f38⟩
  simp only [b7,e8]
  simp only [f36,qg,B0,reduceIte,a7]
  refine zr 4 (fun fr' h'=>Sep h' (geL h.length) ([])∧fr' 41 = .bool (((((decide ((0:Int)≤v_1.Broker))&&(decide (v_1.Broker<(b6 v_0.Brokers:Int)))) &&
    (decide (v_1.Epoch=0)))&&(decide (v_1.Part=0)))&&(decide (v_1.Stamp=0)))∧fr' 6 = .bool (decide ((b6 v_1.InStep:Int)=0))) (fun Q41 hN42=>?_) ?_
  ·simp only [d7,e9]
   simp only [qc (g:=37),B0,reduceIte,a7]
   refine qy (t:=((((decide ((0:Int)≤v_1.Broker))&&(decide (v_1.Broker<(b6 v_0.Brokers:Int))))&&(decide (v_1.Epoch=0)))&&(decide
     (v_1.Part=0)))) (fun hg43=>?_) (fun hg43=>?_)
   ·simp only [hg43,qc (g:=37),qw,f37,qp,qb,a8,a9,b4,qs,qm,B0,reduceIte,a7]
    refine qi (v := .int .i64 v_1.Stamp) rfl ?_
    simp only [hg43,qc (g:=37),qw,qv,qb,z8,qr,zh,qa,qn,B0,reduceIte,a7]
    exact hN42 _ _ ⟨hS40,by rw [k8 hg43]; simp only [B0,reduceIte,a7],f38⟩
   ·simp only [hg43,qc (g:=37),zy,qr,qb,zi,qa,qn,B0,reduceIte,a7]
    exact hN42 _ _ ⟨hS40,by rw [k9 hg43]; simp only [B0,reduceIte,a7],f38⟩
  rintro fr44 h47 ⟨hS48,f45,f46⟩
  simp only [b7,e8]
  simp only [f45,qg,B0,reduceIte,a7]
  refine zr 2 (fun fr' h'=>Sep h' (geL h.length) ([])∧fr' 44 = .bool ((((((decide ((0:Int)≤v_1.Broker))&&(decide (v_1.Broker <
    (b6 v_0.Brokers:Int))))&&(decide (v_1.Epoch=0)))&&(decide (v_1.Part=0)))&&(decide (v_1.Stamp=0)))&&(decide
    ((b6 v_1.InStep:Int)=0)))) (fun Q49 hN50=>?_) ?_
  ·simp only [d7,e9]
   simp only [qc (g:=42),B0,reduceIte,a7]
   refine qy (t:=(((((decide ((0:Int)≤v_1.Broker))&&(decide (v_1.Broker<(b6 v_0.Brokers:Int))))&&(decide (v_1.Epoch=0)))&&(decide
     (v_1.Part=0)))&&(decide (v_1.Stamp=0)))) (fun hg51=>?_) (fun hg51=>?_)
   ·simp only [hg51,qc (g:=42),qw,f46,qg,qr,qb,zh,qa,qn,B0,reduceIte,a7]
    exact hN50 _ _ ⟨hS48,by rw [k8 hg51]; simp only [B0,reduceIte,a7]⟩
   ·simp only [hg51,qc (g:=42),zy,qr,qb,zi,qa,qn,B0,reduceIte,a7]
    exact hN50 _ _ ⟨hS48,by rw [k9 hg51]; simp only [B0,reduceIte,a7]⟩
  rintro fr52 h54 ⟨hS55,f53⟩
  simp only [b7,e8]
  simp only [f53,qg,qa,q8,B0,reduceIte,a7]
  have he:=qj hF
  subst he
  simp only [zg,B0,reduceIte,a7]
  exact rfl
 rw [iteF hc22] at hF
 simp only [qq3,qh,qf,qv,qb,z8,qg,qa,qw5,qz,B0,reduceIte,a7]
 refine qx (t:=(decide (v_1.Kind=2))) (fun hc56=>?_) (fun hc56=>?_)
 ·rw [iteT hc56] at hF
  simp only [q7k,qh,qf,qg,B0,reduceIte,a7]
  refine zr 4 (fun fr' h'=>Sep h' (geL h.length) ([])∧fr' 52 = .bool (((decide ((0:Int)≤v_1.Broker))&&(decide (v_1.Broker<(b6 v_0.Brokers:Int)))) &&
    (zu v_1.Epoch 0 1000))∧fr' 3 = .ref [.int .i64 v_1.Kind,.int .i64 v_1.Broker,.int .i64 v_1.Epoch,.int .i64 v_1.Part,.int .i64 v_1.Stamp,
    lst cI v_1.InStep] 0∧fr' 6 = .bool (decide ((b6 v_1.InStep:Int)=0))) (fun Q57 hN58=>?_) ?_
  ·simp only [d7,e9]
   simp only [qc (g:=48),B0,reduceIte,a7]
   refine qy (t:=((decide ((0:Int)≤v_1.Broker))&&(decide (v_1.Broker<(b6 v_0.Brokers:Int))))) (fun hg59=>?_) (fun hg59=>?_)
   ·simp only [hg59,qc (g:=48),qw,f19,qp,qb,a8,a9,b4,qs,qm,B0,reduceIte,a7]
    refine qi (v := .int .i64 v_1.Epoch) rfl ?_
    simp only [hg59,qc (g:=48),qw,za,B0,reduceIte,a7]
    refine ja rfl (ql qu (ql qu (ql qu zd))) (w5 (fun b hb=>decide_eq_true hb) v_1.Epoch 0 1000 _ rfl) ?_
    simp only [hg59,qr,qb,zh,qa,qn,B0,reduceIte,a7]
    exact hN58 _ _ ⟨hS21,by rw [k8 hg59]; simp only [B0,reduceIte,a7],f19,rfl⟩
   ·simp only [hg59,qc (g:=48),zy,qr,qb,zi,qa,qn,B0,reduceIte,a7]
    exact hN58 _ _ ⟨hS21,by rw [k9 hg59]; simp only [B0,reduceIte,a7],f19,rfl⟩
  rintro fr60 h64 ⟨hS65,f61,f62,f63⟩
  simp only [b7,e8]
  simp only [f61,qg,B0,reduceIte,a7]
  refine zr 4 (fun fr' h'=>Sep h' (geL h.length) ([])∧fr' 57 = .bool ((((decide ((0:Int)≤v_1.Broker))&&(decide (v_1.Broker<(b6 v_0.Brokers:Int)))) &&
    (zu v_1.Epoch 0 1000))&&(decide (v_1.Part=0)))∧fr' 3 = .ref [.int .i64 v_1.Kind,.int .i64 v_1.Broker,.int .i64 v_1.Epoch,.int .i64 v_1.Part,
    .int .i64 v_1.Stamp,lst cI v_1.InStep] 0∧fr' 6 = .bool (decide ((b6 v_1.InStep:Int)=0))) (fun Q66 hN67=>?_) ?_
  ·simp only [d7,e9]
   simp only [qc (g:=53),B0,reduceIte,a7]
   refine qy (t:=(((decide ((0:Int)≤v_1.Broker))&&(decide (v_1.Broker<(b6 v_0.Brokers:Int))))&&(zu v_1.Epoch 0 1000))) (fun hg68=>?_)
     (fun hg68=>?_)
   ·simp only [hg68,qc (g:=53),qw,f62,qp,qb,a8,a9,b4,qs,qm,B0,reduceIte,a7]
    refine qi (v := .int .i64 v_1.Part) rfl ?_
    simp only [hg68,qc (g:=53),qw,qv,qb,z8,qr,zh,qa,qn,B0,reduceIte,a7]
    exact hN67 _ _ ⟨hS65,by rw [k8 hg68]; simp only [B0,reduceIte,a7],f62,f63⟩
   ·simp only [hg68,qc (g:=53),zy,qr,qb,zi,qa,qn,B0,reduceIte,a7]
    exact hN67 _ _ ⟨hS65,by rw [k9 hg68]; simp only [B0,reduceIte,a7],f62,f63⟩
  rintro fr69 h73 ⟨hS74,f70,f71,f72⟩
  simp only [b7,e8]
  simp only [f70,qg,B0,reduceIte,a7]
  refine zr 4 (fun fr' h'=>Sep h' (geL h.length) ([])∧fr' 62 = .bool (((((decide ((0:Int)≤v_1.Broker))&&(decide (v_1.Broker<(b6 v_0.Brokers:Int)))) &&
    (zu v_1.Epoch 0 1000))&&(decide (v_1.Part=0)))&&(decide (v_1.Stamp=0)))∧fr' 6 = .bool (decide ((b6 v_1.InStep:Int)=0)))
    (fun Q75 hN76=>?_) ?_
  ·simp only [d7,e9]
   simp only [qc (g:=58),B0,reduceIte,a7]
   refine qy (t:=((((decide ((0:Int)≤v_1.Broker))&&(decide (v_1.Broker<(b6 v_0.Brokers:Int))))&&(zu v_1.Epoch 0 1000))&&(decide
     (v_1.Part=0)))) (fun hg77=>?_) (fun hg77=>?_)
   ·simp only [hg77,qc (g:=58),qw,f71,qp,qb,a8,a9,b4,qs,qm,B0,reduceIte,a7]
    refine qi (v := .int .i64 v_1.Stamp) rfl ?_
    simp only [hg77,qc (g:=58),qw,qv,qb,z8,qr,zh,qa,qn,B0,reduceIte,a7]
    exact hN76 _ _ ⟨hS74,by rw [k8 hg77]; simp only [B0,reduceIte,a7],f72⟩
   ·simp only [hg77,qc (g:=58),zy,qr,qb,zi,qa,qn,B0,reduceIte,a7]
    exact hN76 _ _ ⟨hS74,by rw [k9 hg77]; simp only [B0,reduceIte,a7],f72⟩
  rintro fr78 h81 ⟨hS82,f79,f80⟩
  simp only [b7,e8]
  simp only [f79,qg,B0,reduceIte,a7]
  refine zr 2 (fun fr' h'=>Sep h' (geL h.length) ([])∧fr' 65 = .bool ((((((decide ((0:Int)≤v_1.Broker))&&(decide (v_1.Broker <
    (b6 v_0.Brokers:Int))))&&(zu v_1.Epoch 0 1000))&&(decide (v_1.Part=0)))&&(decide (v_1.Stamp=0)))&&(decide
    ((b6 v_1.InStep:Int)=0)))) (fun Q83 hN84=>?_) ?_
  ·simp only [d7,e9]
   simp only [qc (g:=63),B0,reduceIte,a7]
   refine qy (t:=(((((decide ((0:Int)≤v_1.Broker))&&(decide (v_1.Broker<(b6 v_0.Brokers:Int))))&&(zu v_1.Epoch 0 1000))&&(decide
     (v_1.Part=0)))&&(decide (v_1.Stamp=0)))) (fun hg85=>?_) (fun hg85=>?_)
   ·simp only [hg85,qc (g:=63),qw,f80,qg,qr,qb,zh,qa,qn,B0,reduceIte,a7]
    exact hN84 _ _ ⟨hS82,by rw [k8 hg85]; simp only [B0,reduceIte,a7]⟩
   ·simp only [hg85,qc (g:=63),zy,qr,qb,zi,qa,qn,B0,reduceIte,a7]
    exact hN84 _ _ ⟨hS82,by rw [k9 hg85]; simp only [B0,reduceIte,a7]⟩
  rintro fr86 h88 ⟨hS89,f87⟩
  simp only [b7,e8]
  simp only [f87,qg,qa,q8,B0,reduceIte,a7]
  have he:=qj hF
  subst he
  simp only [zg,B0,reduceIte,a7]
  exact rfl
 rw [iteF hc56] at hF
 simp only [qwo,qh,qf,qv,qb,z8,qg,qa,qqx,qz,B0,reduceIte,a7]
 refine qx (t:=(decide (v_1.Kind=3))) (fun hc90=>?_) (fun hc90=>?_)
 ·rw [iteT hc90] at hF
  simp only [q63,qh,qf,f19,qp,qb,a8,a9,b4,qs,qm,B0,reduceIte,a7]
  refine qi (v := .int .i64 v_1.Broker) rfl ?_
  simp only [qv,qb,z8,qg,B0,reduceIte,a7]
  refine zr 4 (fun fr' h'=>Sep h' (geL h.length) ([])∧fr' 75 = .bool ((decide (v_1.Broker=0))&&(decide (v_1.Epoch=0)))∧fr' 3 = .ref [.int .i64 v_1.Kind,
    .int .i64 v_1.Broker,.int .i64 v_1.Epoch,.int .i64 v_1.Part,.int .i64 v_1.Stamp,
    lst cI v_1.InStep] 0∧fr' 6 = .bool (decide ((b6 v_1.InStep:Int)=0))) (fun Q91 hN92=>?_) ?_
  ·simp only [d7,e9]
   simp only [qc (g:=71),B0,reduceIte,a7]
   refine qy (t:=(decide (v_1.Broker=0))) (fun hg93=>?_) (fun hg93=>?_)
   ·simp only [hg93,qc (g:=71),qw,f19,qp,qb,a8,a9,b4,qs,qm,B0,reduceIte,a7]
    refine qi (v := .int .i64 v_1.Epoch) rfl ?_
    simp only [hg93,qc (g:=71),qw,qv,qb,z8,qr,zh,qa,qn,B0,reduceIte,a7]
    exact hN92 _ _ ⟨hS21,by rw [k8 hg93]; simp only [B0,reduceIte,a7],f19,rfl⟩
   ·simp only [hg93,qc (g:=71),zy,qr,qb,zi,qa,qn,B0,reduceIte,a7]
    exact hN92 _ _ ⟨hS21,by rw [k9 hg93]; simp only [B0,reduceIte,a7],f19,rfl⟩
  rintro fr94 h98 ⟨hS99,f95,f96,f97⟩
  simp only [b7,e8]
  simp only [f95,qg,B0,reduceIte,a7]
  refine zr 4 (fun fr' h'=>Sep h' (geL h.length) ([])∧fr' 80 = .bool (((decide (v_1.Broker=0))&&(decide (v_1.Epoch=0)))&&(decide
    (v_1.Part=0)))∧fr' 3 = .ref [.int .i64 v_1.Kind,.int .i64 v_1.Broker,.int .i64 v_1.Epoch,.int .i64 v_1.Part,.int .i64 v_1.Stamp,
    lst cI v_1.InStep] 0∧fr' 6 = .bool (decide ((b6 v_1.InStep:Int)=0))) (fun Q100 hN101=>?_) ?_
  ·simp only [d7,e9]
   simp only [qc (g:=76),B0,reduceIte,a7]
   refine qy (t:=((decide (v_1.Broker=0))&&(decide (v_1.Epoch=0)))) (fun hg102=>?_) (fun hg102=>?_)
   ·simp only [hg102,qc (g:=76),qw,f96,qp,qb,a8,a9,b4,qs,qm,B0,reduceIte,a7]
    refine qi (v := .int .i64 v_1.Part) rfl ?_
    simp only [hg102,qc (g:=76),qw,qv,qb,z8,qr,zh,qa,qn,B0,reduceIte,a7]
    exact hN101 _ _ ⟨hS99,by rw [k8 hg102]; simp only [B0,reduceIte,a7],f96,f97⟩
   ·simp only [hg102,qc (g:=76),zy,qr,qb,zi,qa,qn,B0,reduceIte,a7]
    exact hN101 _ _ ⟨hS99,by rw [k9 hg102]; simp only [B0,reduceIte,a7],f96,f97⟩
  rintro fr103 h107 ⟨hS108,f104,f105,f106⟩
  simp only [b7,e8]
  simp only [f104,qg,B0,reduceIte,a7]
  refine zr 4 (fun fr' h'=>Sep h' (geL h.length) ([])∧fr' 85 = .bool ((((decide (v_1.Broker=0))&&(decide (v_1.Epoch=0)))&&(decide (v_1.Part=0)))&&(decide
    (v_1.Stamp=0)))∧fr' 6 = .bool (decide ((b6 v_1.InStep:Int)=0))) (fun Q109 hN110=>?_) ?_
  ·simp only [d7,e9]
   simp only [qc (g:=81),B0,reduceIte,a7]
   refine qy (t:=(((decide (v_1.Broker=0))&&(decide (v_1.Epoch=0)))&&(decide (v_1.Part=0)))) (fun hg111=>?_) (fun hg111=>?_)
   ·simp only [hg111,qc (g:=81),qw,f105,qp,qb,a8,a9,b4,qs,qm,B0,reduceIte,a7]
    refine qi (v := .int .i64 v_1.Stamp) rfl ?_
    simp only [hg111,qc (g:=81),qw,qv,qb,z8,qr,zh,qa,qn,B0,reduceIte,a7]
    exact hN110 _ _ ⟨hS108,by rw [k8 hg111]; simp only [B0,reduceIte,a7],f106⟩
   ·simp only [hg111,qc (g:=81),zy,qr,qb,zi,qa,qn,B0,reduceIte,a7]
    exact hN110 _ _ ⟨hS108,by rw [k9 hg111]; simp only [B0,reduceIte,a7],f106⟩
  rintro fr112 h115 ⟨hS116,f113,f114⟩
  simp only [b7,e8]
  simp only [f113,qg,B0,reduceIte,a7]
  refine zr 2 (fun fr' h'=>Sep h' (geL h.length) ([])∧fr' 88 = .bool (((((decide (v_1.Broker=0))&&(decide (v_1.Epoch=0)))&&(decide (v_1.Part=0)))&&(decide
    (v_1.Stamp=0)))&&(decide ((b6 v_1.InStep:Int)=0)))) (fun Q117 hN118=>?_) ?_
  ·simp only [d7,e9]
   simp only [qc (g:=86),B0,reduceIte,a7]
   refine qy (t:=((((decide (v_1.Broker=0))&&(decide (v_1.Epoch=0)))&&(decide (v_1.Part=0)))&&(decide (v_1.Stamp=0)))) (fun hg119=>?_)
     (fun hg119=>?_)
   ·simp only [hg119,qc (g:=86),qw,f114,qg,qr,qb,zh,qa,qn,B0,reduceIte,a7]
    exact hN118 _ _ ⟨hS116,by rw [k8 hg119]; simp only [B0,reduceIte,a7]⟩
   ·simp only [hg119,qc (g:=86),zy,qr,qb,zi,qa,qn,B0,reduceIte,a7]
    exact hN118 _ _ ⟨hS116,by rw [k9 hg119]; simp only [B0,reduceIte,a7]⟩
  rintro fr120 h122 ⟨hS123,f121⟩
  simp only [b7,e8]
  simp only [f121,qg,qa,q8,B0,reduceIte,a7]
  have he:=qj hF
  subst he
  simp only [zg,B0,reduceIte,a7]
  exact rfl
 rw [iteF hc90] at hF
 simp only [qu9,qh,qf,qv,qb,z8,qg,qa,qwy,qz,B0,reduceIte,a7]
 refine qx (t:=(decide (v_1.Kind=4))) (fun hc124=>?_) (fun hc124=>?_)
 ·rw [iteT hc124] at hF
  simp only [q6n,qh,qf,f19,qp,qb,a8,a9,b4,qs,qm,B0,reduceIte,a7]
  refine qi (v := .int .i64 v_1.Broker) rfl ?_
  simp only [qv,qb,z8,qg,B0,reduceIte,a7]
  refine zr 4 (fun fr' h'=>Sep h' (geL h.length) ([])∧fr' 98 = .bool ((decide (v_1.Broker=0))&&(decide (v_1.Epoch=0)))∧fr' 2 = .ref [lst qe v_0.Brokers,
    lst qd v_0.Parts,.int .i64 v_0.Next] 0∧fr' 3 = .ref [.int .i64 v_1.Kind,.int .i64 v_1.Broker,.int .i64 v_1.Epoch,.int .i64 v_1.Part,
    .int .i64 v_1.Stamp,lst cI v_1.InStep] 0) (fun Q125 hN126=>?_) ?_
  ·simp only [d7,e9]
   simp only [qc (g:=94),B0,reduceIte,a7]
   refine qy (t:=(decide (v_1.Broker=0))) (fun hg127=>?_) (fun hg127=>?_)
   ·simp only [hg127,qc (g:=94),qw,f19,qp,qb,a8,a9,b4,qs,qm,B0,reduceIte,a7]
    refine qi (v := .int .i64 v_1.Epoch) rfl ?_
    simp only [hg127,qc (g:=94),qw,qv,qb,z8,qr,zh,qa,qn,B0,reduceIte,a7]
    exact hN126 _ _ ⟨hS21,by rw [k8 hg127]; simp only [B0,reduceIte,a7],f18,f19⟩
   ·simp only [hg127,qc (g:=94),zy,qr,qb,zi,qa,qn,B0,reduceIte,a7]
    exact hN126 _ _ ⟨hS21,by rw [k9 hg127]; simp only [B0,reduceIte,a7],f18,f19⟩
  rintro fr128 h132 ⟨hS133,f129,f130,f131⟩
  simp only [b7,e8]
  simp only [f129,qg,B0,reduceIte,a7]
  refine zr 4 (fun fr' h'=>Sep h' (geL h.length) ([])∧fr' 103 = .bool (((decide (v_1.Broker=0))&&(decide (v_1.Epoch=0)))&&(decide
    (v_1.Part=0)))∧fr' 2 = .ref [lst qe v_0.Brokers,lst qd v_0.Parts,.int .i64 v_0.Next] 0∧fr' 3 = .ref [.int .i64 v_1.Kind,
    .int .i64 v_1.Broker,.int .i64 v_1.Epoch,.int .i64 v_1.Part,.int .i64 v_1.Stamp,lst cI v_1.InStep] 0) (fun Q134 hN135=>?_) ?_
  ·simp only [d7,e9]
   simp only [qc (g:=99),B0,reduceIte,a7]
   refine qy (t:=((decide (v_1.Broker=0))&&(decide (v_1.Epoch=0)))) (fun hg136=>?_) (fun hg136=>?_)
   ·simp only [hg136,qc (g:=99),qw,f131,qp,qb,a8,a9,b4,qs,qm,B0,reduceIte,a7]
    refine qi (v := .int .i64 v_1.Part) rfl ?_
    simp only [hg136,qc (g:=99),qw,qv,qb,z8,qr,zh,qa,qn,B0,reduceIte,a7]
    exact hN135 _ _ ⟨hS133,by rw [k8 hg136]; simp only [B0,reduceIte,a7],f130,f131⟩
   ·simp only [hg136,qc (g:=99),zy,qr,qb,zi,qa,qn,B0,reduceIte,a7]
    exact hN135 _ _ ⟨hS133,by rw [k9 hg136]; simp only [B0,reduceIte,a7],f130,f131⟩
  rintro fr137 h141 ⟨hS142,f138,f139,f140⟩
  simp only [b7,e8]
  simp only [f138,qg,B0,reduceIte,a7]
  refine zr 4 (fun fr' h'=>Sep h' (geL h.length) ([])∧fr' 108 = .bool ((((decide (v_1.Broker=0))&&(decide (v_1.Epoch=0)))&&(decide (v_1.Part=0)))&&(decide
    (v_1.Stamp=0)))∧fr' 2 = .ref [lst qe v_0.Brokers,lst qd v_0.Parts,.int .i64 v_0.Next] 0∧fr' 3 = .ref [.int .i64 v_1.Kind,
    .int .i64 v_1.Broker,.int .i64 v_1.Epoch,.int .i64 v_1.Part,.int .i64 v_1.Stamp,lst cI v_1.InStep] 0) (fun Q143 hN144=>?_) ?_
  ·simp only [d7,e9]
   simp only [qc (g:=104),B0,reduceIte,a7]
   refine qy (t:=(((decide (v_1.Broker=0))&&(decide (v_1.Epoch=0)))&&(decide (v_1.Part=0)))) (fun hg145=>?_) (fun hg145=>?_)
   ·simp only [hg145,qc (g:=104),qw,f140,qp,qb,a8,a9,b4,qs,qm,B0,reduceIte,a7]
    refine qi (v := .int .i64 v_1.Stamp) rfl ?_
    simp only [hg145,qc (g:=104),qw,qv,qb,z8,qr,zh,qa,qn,B0,reduceIte,a7]
    exact hN144 _ _ ⟨hS142,by rw [k8 hg145]; simp only [B0,reduceIte,a7],f139,f140⟩
   ·simp only [hg145,qc (g:=104),zy,qr,qb,zi,qa,qn,B0,reduceIte,a7]
    exact hN144 _ _ ⟨hS142,by rw [k9 hg145]; simp only [B0,reduceIte,a7],f139,f140⟩
  rintro fr146 h150 ⟨hS151,f147,f148,f149⟩
  simp only [b7,e8]
  simp only [f147,qg,B0,reduceIte,a7]
  obtain ⟨v155,hx156,hF157⟩:=qk hF
  refine zr 7 (fun fr' h'=>Sep h' (geL h.length) ([])∧fr' 116 = .bool v155) (fun Q152 hN153=>?_) ?_
  ·simp only [d7,e9]
   simp only [qc (g:=109),B0,reduceIte,a7]
   refine qy (t:=((((decide (v_1.Broker=0))&&(decide (v_1.Epoch=0)))&&(decide (v_1.Part=0)))&&(decide (v_1.Stamp=0)))) (fun hg154=>?_)
     (fun hg154=>?_)
   ·rw [iteT hg154] at hx156
    simp only [hg154,qc (g:=109),qw,f149,qp,qb,a8,a9,b4,qs,qm,B0,reduceIte,a7]
    refine qi (v:=lst cI v_1.InStep) rfl ?_
    simp only [hg154,qc (g:=109),qw,f148,qp,qb,a8,a9,b4,qs,qm,B0,reduceIte,a7]
    refine qi (v:=lst qe v_0.Brokers) rfl ?_
    obtain ⟨v158,hx159,hF160⟩:=qk hx156
    simp only [hg154,qc (g:=109),qw,zx,qb,z1,za,B0,reduceIte,a7]
    refine ja rfl (ql zn (ql qu zd)) (qdm (fun b hb=>decide_eq_true hb) v_1.InStep (b6 v_0.Brokers:Int) v158 hx159) ?_
    simp only [hg154,qr,qb,zh,qa,qn,B0,reduceIte,a7]
    have e161:=qj hF160
    exact hN153 _ _ ⟨hS151,by rw [←e161]; simp only [B0,reduceIte,a7]⟩
   ·rw [iteF hg154] at hx156
    simp only [hg154,qc (g:=109),zy,qr,qb,zi,qa,qn,B0,reduceIte,a7]
    have e162:=qj hx156
    exact hN153 _ _ ⟨hS151,by rw [←e162]; simp only [B0,reduceIte,a7]⟩
  rintro fr163 h165 ⟨hS166,f164⟩
  simp only [b7,e8]
  simp only [f164,qg,qa,q8,B0,reduceIte,a7]
  have he:=qj hF157
  subst he
  simp only [zg,B0,reduceIte,a7]
  exact rfl
 rw [iteF hc124] at hF
 simp only [qve,qh,qf,qv,qb,z8,qg,qa,q43,qz,B0,reduceIte,a7]
 refine qx (t:=(decide (v_1.Kind=5))) (fun hc167=>?_) (fun hc167=>?_)
 ·rw [iteT hc167] at hF
  simp only [q5v,qh,qf,qg,B0,reduceIte,a7]
  refine zr 4 (fun fr' h'=>Sep h' (geL h.length) ([])∧fr' 124 = .bool (((decide ((0:Int)≤v_1.Broker))&&(decide (v_1.Broker<(b6 v_0.Brokers:Int)))) &&
    (zu v_1.Epoch 0 1000))∧fr' 2 = .ref [lst qe v_0.Brokers,lst qd v_0.Parts,.int .i64 v_0.Next] 0∧fr' 3 = .ref [.int .i64 v_1.Kind,
    .int .i64 v_1.Broker,.int .i64 v_1.Epoch,.int .i64 v_1.Part,.int .i64 v_1.Stamp,lst cI v_1.InStep] 0) (fun Q168 hN169=>?_) ?_
  ·simp only [d7,e9]
   simp only [qc (g:=120),B0,reduceIte,a7]
   refine qy (t:=((decide ((0:Int)≤v_1.Broker))&&(decide (v_1.Broker<(b6 v_0.Brokers:Int))))) (fun hg170=>?_) (fun hg170=>?_)
   ·simp only [hg170,qc (g:=120),qw,f19,qp,qb,a8,a9,b4,qs,qm,B0,reduceIte,a7]
    refine qi (v := .int .i64 v_1.Epoch) rfl ?_
    simp only [hg170,qc (g:=120),qw,za,B0,reduceIte,a7]
    refine ja rfl (ql qu (ql qu (ql qu zd))) (w5 (fun b hb=>decide_eq_true hb) v_1.Epoch 0 1000 _ rfl) ?_
    simp only [hg170,qr,qb,zh,qa,qn,B0,reduceIte,a7]
    exact hN169 _ _ ⟨hS21,by rw [k8 hg170]; simp only [B0,reduceIte,a7],f18,f19⟩
   ·simp only [hg170,qc (g:=120),zy,qr,qb,zi,qa,qn,B0,reduceIte,a7]
    exact hN169 _ _ ⟨hS21,by rw [k9 hg170]; simp only [B0,reduceIte,a7],f18,f19⟩
  rintro fr171 h175 ⟨hS176,f172,f173,f174⟩
  simp only [b7,e8]
  simp only [f172,qg,B0,reduceIte,a7]
  refine zr 4 (fun fr' h'=>Sep h' (geL h.length) ([])∧fr' 129 = .bool ((((decide ((0:Int)≤v_1.Broker))&&(decide (v_1.Broker<(b6 v_0.Brokers:Int)))) &&
    (zu v_1.Epoch 0 1000))&&(zu v_1.Part 0 1000))∧fr' 2 = .ref [lst qe v_0.Brokers,lst qd v_0.Parts,
    .int .i64 v_0.Next] 0∧fr' 3 = .ref [.int .i64 v_1.Kind,.int .i64 v_1.Broker,.int .i64 v_1.Epoch,.int .i64 v_1.Part,.int .i64 v_1.Stamp,
    lst cI v_1.InStep] 0) (fun Q177 hN178=>?_) ?_
  ·simp only [d7,e9]
   simp only [qc (g:=125),B0,reduceIte,a7]
   refine qy (t:=(((decide ((0:Int)≤v_1.Broker))&&(decide (v_1.Broker<(b6 v_0.Brokers:Int))))&&(zu v_1.Epoch 0 1000))) (fun hg179=>?_)
     (fun hg179=>?_)
   ·simp only [hg179,qc (g:=125),qw,f174,qp,qb,a8,a9,b4,qs,qm,B0,reduceIte,a7]
    refine qi (v := .int .i64 v_1.Part) rfl ?_
    simp only [hg179,qc (g:=125),qw,za,B0,reduceIte,a7]
    refine ja rfl (ql qu (ql qu (ql qu zd))) (w5 (fun b hb=>decide_eq_true hb) v_1.Part 0 1000 _ rfl) ?_
    simp only [hg179,qr,qb,zh,qa,qn,B0,reduceIte,a7]
    exact hN178 _ _ ⟨hS176,by rw [k8 hg179]; simp only [B0,reduceIte,a7],f173,f174⟩
   ·simp only [hg179,qc (g:=125),zy,qr,qb,zi,qa,qn,B0,reduceIte,a7]
    exact hN178 _ _ ⟨hS176,by rw [k9 hg179]; simp only [B0,reduceIte,a7],f173,f174⟩
  rintro fr180 h184 ⟨hS185,f181,f182,f183⟩
  simp only [b7,e8]
  simp only [f181,qg,B0,reduceIte,a7]
  refine zr 4 (fun fr' h'=>Sep h' (geL h.length) ([])∧fr' 134 = .bool (((((decide ((0:Int)≤v_1.Broker))&&(decide (v_1.Broker <
    (b6 v_0.Brokers:Int))))&&(zu v_1.Epoch 0 1000))&&(zu v_1.Part 0 1000)) &&
    (zu v_1.Stamp 0 1000))∧fr' 2 = .ref [lst qe v_0.Brokers,lst qd v_0.Parts,.int .i64 v_0.Next] 0∧fr' 3 = .ref [.int .i64 v_1.Kind,
    .int .i64 v_1.Broker,.int .i64 v_1.Epoch,.int .i64 v_1.Part,.int .i64 v_1.Stamp,lst cI v_1.InStep] 0) (fun Q186 hN187=>?_) ?_
  ·simp only [d7,e9]
   simp only [qc (g:=130),B0,reduceIte,a7]
   refine qy (t:=((((decide ((0:Int)≤v_1.Broker))&&(decide (v_1.Broker<(b6 v_0.Brokers:Int))))&&(zu v_1.Epoch 0 1000)) &&
     (zu v_1.Part 0 1000))) (fun hg188=>?_) (fun hg188=>?_)
   ·simp only [hg188,qc (g:=130),qw,f183,qp,qb,a8,a9,b4,qs,qm,B0,reduceIte,a7]
    refine qi (v := .int .i64 v_1.Stamp) rfl ?_
    simp only [hg188,qc (g:=130),qw,za,B0,reduceIte,a7]
    refine ja rfl (ql qu (ql qu (ql qu zd))) (w5 (fun b hb=>decide_eq_true hb) v_1.Stamp 0 1000 _ rfl) ?_
    simp only [hg188,qr,qb,zh,qa,qn,B0,reduceIte,a7]
    exact hN187 _ _ ⟨hS185,by rw [k8 hg188]; simp only [B0,reduceIte,a7],f182,f183⟩
   ·simp only [hg188,qc (g:=130),zy,qr,qb,zi,qa,qn,B0,reduceIte,a7]
    exact hN187 _ _ ⟨hS185,by rw [k9 hg188]; simp only [B0,reduceIte,a7],f182,f183⟩
  rintro fr189 h193 ⟨hS194,f190,f191,f192⟩
  simp only [b7,e8]
  simp only [f190,qg,B0,reduceIte,a7]
  obtain ⟨v198,hx199,hF200⟩:=qk hF
  refine zr 7 (fun fr' h'=>Sep h' (geL h.length) ([])∧fr' 142 = .bool v198) (fun Q195 hN196=>?_) ?_
  ·simp only [d7,e9]
   simp only [qc (g:=135),B0,reduceIte,a7]
   refine qy (t:=(((((decide ((0:Int)≤v_1.Broker))&&(decide (v_1.Broker<(b6 v_0.Brokers:Int))))&&(zu v_1.Epoch 0 1000)) &&
     (zu v_1.Part 0 1000))&&(zu v_1.Stamp 0 1000))) (fun hg197=>?_) (fun hg197=>?_)
   ·rw [iteT hg197] at hx199
    simp only [hg197,qc (g:=135),qw,f192,qp,qb,a8,a9,b4,qs,qm,B0,reduceIte,a7]
    refine qi (v:=lst cI v_1.InStep) rfl ?_
    simp only [hg197,qc (g:=135),qw,f191,qp,qb,a8,a9,b4,qs,qm,B0,reduceIte,a7]
    refine qi (v:=lst qe v_0.Brokers) rfl ?_
    obtain ⟨v201,hx202,hF203⟩:=qk hx199
    simp only [hg197,qc (g:=135),qw,zx,qb,z1,za,B0,reduceIte,a7]
    refine ja rfl (ql zn (ql qu zd)) (qdm (fun b hb=>decide_eq_true hb) v_1.InStep (b6 v_0.Brokers:Int) v201 hx202) ?_
    simp only [hg197,qr,qb,zh,qa,qn,B0,reduceIte,a7]
    have e204:=qj hF203
    exact hN196 _ _ ⟨hS194,by rw [←e204]; simp only [B0,reduceIte,a7]⟩
   ·rw [iteF hg197] at hx199
    simp only [hg197,qc (g:=135),zy,qr,qb,zi,qa,qn,B0,reduceIte,a7]
    have e205:=qj hx199
    exact hN196 _ _ ⟨hS194,by rw [←e205]; simp only [B0,reduceIte,a7]⟩
  rintro fr206 h208 ⟨hS209,f207⟩
  simp only [b7,e8]
  simp only [f207,qg,qa,q8,B0,reduceIte,a7]
  have he:=qj hF200
  subst he
  simp only [zg,B0,reduceIte,a7]
  exact rfl
 rw [iteF hc167] at hF
 simp only [q1h,qh,qf,qv,qb,z8,qg,qa,q4i,qz,B0,reduceIte,a7]
 refine qx (t:=(decide (v_1.Kind=6))) (fun hc210=>?_) (fun hc210=>?_)
 ·rw [iteT hc210] at hF
  simp only [q5j,qh,qf,qg,B0,reduceIte,a7]
  refine zr 4 (fun fr' h'=>Sep h' (geL h.length) ([])∧fr' 150 = .bool (((decide ((0:Int)≤v_1.Broker))&&(decide (v_1.Broker<(b6 v_0.Brokers:Int)))) &&
    (decide (v_1.Epoch=0)))∧fr' 3 = .ref [.int .i64 v_1.Kind,.int .i64 v_1.Broker,.int .i64 v_1.Epoch,.int .i64 v_1.Part,.int .i64 v_1.Stamp,
    lst cI v_1.InStep] 0∧fr' 6 = .bool (decide ((b6 v_1.InStep:Int)=0))) (fun Q211 hN212=>?_) ?_
  ·simp only [d7,e9]
   simp only [qc (g:=146),B0,reduceIte,a7]
   refine qy (t:=((decide ((0:Int)≤v_1.Broker))&&(decide (v_1.Broker<(b6 v_0.Brokers:Int))))) (fun hg213=>?_) (fun hg213=>?_)
   ·simp only [hg213,qc (g:=146),qw,f19,qp,qb,a8,a9,b4,qs,qm,B0,reduceIte,a7]
    refine qi (v := .int .i64 v_1.Epoch) rfl ?_
    simp only [hg213,qc (g:=146),qw,qv,qb,z8,qr,zh,qa,qn,B0,reduceIte,a7]
    exact hN212 _ _ ⟨hS21,by rw [k8 hg213]; simp only [B0,reduceIte,a7],f19,rfl⟩
   ·simp only [hg213,qc (g:=146),zy,qr,qb,zi,qa,qn,B0,reduceIte,a7]
    exact hN212 _ _ ⟨hS21,by rw [k9 hg213]; simp only [B0,reduceIte,a7],f19,rfl⟩
  rintro fr214 h218 ⟨hS219,f215,f216,f217⟩
  simp only [b7,e8]
  simp only [f215,qg,B0,reduceIte,a7]
  refine zr 4 (fun fr' h'=>Sep h' (geL h.length) ([])∧fr' 155 = .bool ((((decide ((0:Int)≤v_1.Broker))&&(decide (v_1.Broker<(b6 v_0.Brokers:Int)))) &&
    (decide (v_1.Epoch=0)))&&(zu v_1.Part 0 1000))∧fr' 3 = .ref [.int .i64 v_1.Kind,.int .i64 v_1.Broker,.int .i64 v_1.Epoch,.int .i64 v_1.Part,
    .int .i64 v_1.Stamp,lst cI v_1.InStep] 0∧fr' 6 = .bool (decide ((b6 v_1.InStep:Int)=0))) (fun Q220 hN221=>?_) ?_
  ·simp only [d7,e9]
   simp only [qc (g:=151),B0,reduceIte,a7]
   refine qy (t:=(((decide ((0:Int)≤v_1.Broker))&&(decide (v_1.Broker<(b6 v_0.Brokers:Int))))&&(decide (v_1.Epoch=0)))) (fun hg222=>?_)
     (fun hg222=>?_)
   ·simp only [hg222,qc (g:=151),qw,f216,qp,qb,a8,a9,b4,qs,qm,B0,reduceIte,a7]
    refine qi (v := .int .i64 v_1.Part) rfl ?_
    simp only [hg222,qc (g:=151),qw,za,B0,reduceIte,a7]
    refine ja rfl (ql qu (ql qu (ql qu zd))) (w5 (fun b hb=>decide_eq_true hb) v_1.Part 0 1000 _ rfl) ?_
    simp only [hg222,qr,qb,zh,qa,qn,B0,reduceIte,a7]
    exact hN221 _ _ ⟨hS219,by rw [k8 hg222]; simp only [B0,reduceIte,a7],f216,f217⟩
   ·simp only [hg222,qc (g:=151),zy,qr,qb,zi,qa,qn,B0,reduceIte,a7]
    exact hN221 _ _ ⟨hS219,by rw [k9 hg222]; simp only [B0,reduceIte,a7],f216,f217⟩
  rintro fr223 h227 ⟨hS228,f224,f225,f226⟩
  simp only [b7,e8]
  simp only [f224,qg,B0,reduceIte,a7]
  refine zr 4 (fun fr' h'=>Sep h' (geL h.length) ([])∧fr' 160 = .bool (((((decide ((0:Int)≤v_1.Broker))&&(decide (v_1.Broker <
    (b6 v_0.Brokers:Int))))&&(decide (v_1.Epoch=0)))&&(zu v_1.Part 0 1000))&&(decide (v_1.Stamp=0)))∧fr' 6 = .bool (decide
    ((b6 v_1.InStep:Int)=0))) (fun Q229 hN230=>?_) ?_
  ·simp only [d7,e9]
   simp only [qc (g:=156),B0,reduceIte,a7]
   refine qy (t:=((((decide ((0:Int)≤v_1.Broker))&&(decide (v_1.Broker<(b6 v_0.Brokers:Int))))&&(decide (v_1.Epoch=0))) &&
     (zu v_1.Part 0 1000))) (fun hg231=>?_) (fun hg231=>?_)
   ·simp only [hg231,qc (g:=156),qw,f225,qp,qb,a8,a9,b4,qs,qm,B0,reduceIte,a7]
    refine qi (v := .int .i64 v_1.Stamp) rfl ?_
    simp only [hg231,qc (g:=156),qw,qv,qb,z8,qr,zh,qa,qn,B0,reduceIte,a7]
    exact hN230 _ _ ⟨hS228,by rw [k8 hg231]; simp only [B0,reduceIte,a7],f226⟩
   ·simp only [hg231,qc (g:=156),zy,qr,qb,zi,qa,qn,B0,reduceIte,a7]
    exact hN230 _ _ ⟨hS228,by rw [k9 hg231]; simp only [B0,reduceIte,a7],f226⟩
  rintro fr232 h235 ⟨hS236,f233,f234⟩
  simp only [b7,e8]
  simp only [f233,qg,B0,reduceIte,a7]
  refine zr 2 (fun fr' h'=>Sep h' (geL h.length) ([])∧fr' 163 = .bool ((((((decide ((0:Int)≤v_1.Broker))&&(decide (v_1.Broker <
    (b6 v_0.Brokers:Int))))&&(decide (v_1.Epoch=0)))&&(zu v_1.Part 0 1000))&&(decide (v_1.Stamp=0)))&&(decide
    ((b6 v_1.InStep:Int)=0)))) (fun Q237 hN238=>?_) ?_
  ·simp only [d7,e9]
   simp only [qc (g:=161),B0,reduceIte,a7]
   refine qy (t:=(((((decide ((0:Int)≤v_1.Broker))&&(decide (v_1.Broker<(b6 v_0.Brokers:Int))))&&(decide (v_1.Epoch=0))) &&
     (zu v_1.Part 0 1000))&&(decide (v_1.Stamp=0)))) (fun hg239=>?_) (fun hg239=>?_)
   ·simp only [hg239,qc (g:=161),qw,f234,qg,qr,qb,zh,qa,qn,B0,reduceIte,a7]
    exact hN238 _ _ ⟨hS236,by rw [k8 hg239]; simp only [B0,reduceIte,a7]⟩
   ·simp only [hg239,qc (g:=161),zy,qr,qb,zi,qa,qn,B0,reduceIte,a7]
    exact hN238 _ _ ⟨hS236,by rw [k9 hg239]; simp only [B0,reduceIte,a7]⟩
  rintro fr240 h242 ⟨hS243,f241⟩
  simp only [b7,e8]
  simp only [f241,qg,qa,q8,B0,reduceIte,a7]
  have he:=qj hF
  subst he
  simp only [zg,B0,reduceIte,a7]
  exact rfl
 rw [iteF hc210] at hF
 simp only [zf,ki,qh,qf,qg,qa,q8,B0,reduceIte,a7]
 have he:=qj hF
 subst he
 simp only [zg,B0,reduceIte,a7]
 exact rfl
end Go.Proofs.Ytjloihcijdcpeaa.X
namespace Go.Proofs.Ytjloihcijdcpeaa.X
open Go
theorem qky {W:Nat→Bool}{h:Heap} (hW:∀ b,
  (geL h.length) b→W b=true) (v_0:Control) (v_1:Command) (r:Int) (hF:uk v_0 v_1=some r) : Ret E W 83 [.agg [lst qe v_0.Brokers,
  lst qd v_0.Parts,.int .i64 v_0.Next],.agg [.int .i64 v_1.Kind,.int .i64 v_1.Broker,.int .i64 v_1.Epoch,.int .i64 v_1.Part,.int .i64 v_1.Stamp,
  lst cI v_1.InStep]] h (fun v h'=>cut h.length h' E.sz false 9 v=some (.int .i64 r)):=by
 refine Ret.of (fn:=x83) rfl (Run.of ?_)
 unfold uk at hF
 have zf0:zj [.agg [lst qe v_0.Brokers,lst qd v_0.Parts,.int .i64 v_0.Next],.agg [.int .i64 v_1.Kind,.int .i64 v_1.Broker,.int .i64 v_1.Epoch,
   .int .i64 v_1.Part,.int .i64 v_1.Stamp,lst cI v_1.InStep]] 0 = .agg [lst qe v_0.Brokers,lst qd v_0.Parts,.int .i64 v_0.Next]:=rfl
 have zf1:zj [.agg [lst qe v_0.Brokers,lst qd v_0.Parts,.int .i64 v_0.Next],.agg [.int .i64 v_1.Kind,.int .i64 v_1.Broker,.int .i64 v_1.Epoch,
   .int .i64 v_1.Part,.int .i64 v_1.Stamp,lst cI v_1.InStep]] 1 = .agg [.int .i64 v_1.Kind,.int .i64 v_1.Broker,.int .i64 v_1.Epoch,.int .i64 v_1.Part,
   .int .i64 v_1.Stamp,lst cI v_1.InStep]:=rfl
 generalize zj [.agg [lst qe v_0.Brokers,lst qd v_0.Parts,.int .i64 v_0.Next],.agg [.int .i64 v_1.Kind,.int .i64 v_1.Broker,.int .i64 v_1.Epoch,
   .int .i64 v_1.Part,.int .i64 v_1.Stamp,lst cI v_1.InStep]]=fr0 at zf0 zf1 ⊢
 have hS:Sep h (geL h.length) []:=Sep.nil h
 simp only [x83,qh,qf,jp,zf0,B0,reduceIte,a7]
 refine jc (cs:=[lst qe v_0.Brokers,lst qd v_0.Parts,.int .i64 v_0.Next]) hS rfl rfl rfl (fun b1 h2 hS3=>?_)
 simp only [jp,zf1,B0,reduceIte,a7]
 refine jc (cs:=[.int .i64 v_1.Kind,.int .i64 v_1.Broker,.int .i64 v_1.Epoch,.int .i64 v_1.Part,.int .i64 v_1.Stamp,
   lst cI v_1.InStep]) hS3 rfl rfl rfl (fun b5 h6 hS7=>?_)
 simp only [qg,qa,B0,reduceIte,a7]
 refine zq (Sep.m1 hS7) hW (by simp only [B0,reduceIte,a7]) (fun h9 hS10=>?_)
 refine zq hS10 hW (by simp only [B0,reduceIte,a7]) (fun h11 hS12=>?_)
 simp only [zp,qtt,qh,qf,qp,qb,a8,a9,b4,qs,qm,B0,reduceIte,a7]
 refine qi (v := .int .i64 v_1.Part) rfl ?_
 simp only [qp,qb,a8,a9,b4,qs,qm,B0,reduceIte,a7]
 refine qi (v:=lst qd v_0.Parts) rfl ?_
 simp only [zx,qb,z1,qv,qcg,qa,qz,B0,reduceIte,a7]
 refine qx (t:=(decide ((b6 v_0.Parts:Int)≤v_1.Part))) (fun hc13=>?_) (fun hc13=>?_)
 ·rw [iteT hc13] at hF
  simp only [qh,qf,qg,qa,q8,B0,reduceIte,a7]
  have he:=qj hF
  subst he
  simp only [zg,B0,reduceIte,a7]
  exact rfl
 rw [iteF hc13] at hF
 simp only [zf,qwl,qh,qf,qp,qb,a8,a9,b4,qs,qm,B0,reduceIte,a7]
 refine qi (v:=lst qd v_0.Parts) rfl ?_
 simp only [qp,qb,a8,a9,b4,qs,qm,B0,reduceIte,a7]
 refine qi (v := .int .i64 v_1.Part) rfl ?_
 obtain ⟨x14,hx15,hF16⟩:=qk hF
 simp only [jf,B0,reduceIte,a7]
 refine qi (v := .ref (qd x14) 0) (uw hx15 rfl) ?_
 simp only [qm,B0,reduceIte,a7]
 refine qi (v := .agg [lst cI x14.Homes,lst cI x14.InStep,.int .i64 x14.Leader,.int .i64 x14.Epoch,.int .i64 x14.Stamp]) rfl ?_
 simp only [z5,B0,reduceIte,a7]
 refine zt hS12 (fun b17 h18 hS19=>?_)
 simp only [zk,B0,reduceIte,a7]
 refine zb (us:=[lst cI x14.Homes,lst cI x14.InStep,.int .i64 x14.Leader,.int .i64 x14.Epoch,.int .i64 x14.Stamp]) rfl (cs':=[lst cI x14.Homes,lst cI x14.InStep,
   .int .i64 x14.Leader,.int .i64 x14.Epoch,.int .i64 x14.Stamp]) hS19 hW rfl rfl (nle rfl) rfl (fun h21 hS22=>?_)
 simp only [qa,B0,reduceIte,a7]
 refine zq hS22 hW (by simp only [B0,reduceIte,a7]) (fun h23 hS24=>?_)
 simp only [zp,qsu,qh,wi,q5q,qf,qp,qb,a8,a9,b4,qs,qm,B0,reduceIte,a7]
 refine qi (v := .int .i64 v_1.Epoch) rfl ?_
 simp only [qp,qb,a8,a9,b4,qs,qm,B0,reduceIte,a7]
 refine qi (v := .int .i64 x14.Epoch) rfl ?_
 simp only [qv,qb,wm,qg,qa,q55,qz,B0,reduceIte,a7]
 refine qx (t:=(decide (v_1.Epoch≠x14.Epoch))) (fun hc25=>?_) (fun hc25=>?_)
 ·rw [iteT hc25] at hF16
  simp only [qh,qf,qg,qa,q8,B0,reduceIte,a7]
  have he:=qj hF16
  subst he
  simp only [zg,B0,reduceIte,a7]
  exact rfl
 rw [iteF hc25] at hF16
 simp only [q5d,qh,qf,qp,qb,a8,a9,b4,qs,qm,B0,reduceIte,a7]
 refine qi (v := .int .i64 v_1.Broker) rfl ?_
 simp only [qp,qb,a8,a9,b4,qs,qm,B0,reduceIte,a7]
 refine qi (v := .int .i64 x14.Leader) rfl ?_
 simp only [qv,qb,wm,qg,qa,q3b,qz,B0,reduceIte,a7]
 refine qx (t:=(decide (v_1.Broker≠x14.Leader))) (fun hc26=>?_) (fun hc26=>?_)
 ·rw [iteT hc26] at hF16
  simp only [qh,qf,qg,qa,q8,B0,reduceIte,a7]
  have he:=qj hF16
  subst he
  simp only [zg,B0,reduceIte,a7]
  exact rfl
 rw [iteF hc26] at hF16
 simp only [q42,qh,qf,qp,qb,a8,a9,b4,qs,qm,B0,reduceIte,a7]
 refine qi (v := .int .i64 v_1.Stamp) rfl ?_
 simp only [qp,qb,a8,a9,b4,qs,qm,B0,reduceIte,a7]
 refine qi (v := .int .i64 x14.Stamp) rfl ?_
 simp only [qv,qb,wm,qg,qa,q20,qz,B0,reduceIte,a7]
 refine qx (t:=(decide (v_1.Stamp≠x14.Stamp))) (fun hc27=>?_) (fun hc27=>?_)
 ·rw [iteT hc27] at hF16
  simp only [qh,qf,qg,qa,q8,B0,reduceIte,a7]
  have he:=qj hF16
  subst he
  simp only [zg,B0,reduceIte,a7]
  exact rfl
 rw [iteF hc27] at hF16
 simp only [q5p,qh,qf,qp,qb,a8,a9,b4,qs,qm,B0,reduceIte,a7]
 refine qi (v:=lst cI x14.Homes) rfl ?_
 simp only [qp,qb,a8,a9,b4,qs,qm,B0,reduceIte,a7]
 refine qi (v:=lst cI v_1.InStep) rfl ?_
 obtain ⟨v28,hx29,hF30⟩:=qk hF16
 simp only [za,B0,reduceIte,a7]
 refine ja rfl (ql zn (ql zn zd)) (qja (fun b hb=>decide_eq_true hb) x14.Homes v_1.InStep v28 hx29) ?_
 simp only [je,qb,jt,qg,B0,reduceIte,a7]
 obtain ⟨v34,hx35,hF36⟩:=qk hF30
 refine zr 7 (fun fr' h'=>Sep h' (geL h.length) ([])∧fr' 52 = .bool v34∧fr' 2 = .ref [lst qe v_0.Brokers,lst qd v_0.Parts,
   .int .i64 v_0.Next] 0∧fr' 3 = .ref [.int .i64 v_1.Kind,.int .i64 v_1.Broker,.int .i64 v_1.Epoch,.int .i64 v_1.Part,.int .i64 v_1.Stamp,
   lst cI v_1.InStep] 0∧fr' 5 = .ref [lst cI x14.Homes,lst cI x14.InStep,.int .i64 x14.Leader,.int .i64 x14.Epoch,.int .i64 x14.Stamp] 0) (fun Q31 hN32=>?_) ?_
 ·simp only [d7,e9]
  simp only [qc (g:=45),B0,reduceIte,a7]
  refine qy (t:=(!v28)) (fun hg33=>?_) (fun hg33=>?_)
  ·rw [iteT hg33] at hx35
   simp only [hg33,qc (g:=45),zv,qr,qb,zh,qa,qn,B0,reduceIte,a7]
   have e37:=qj hx35
   exact hN32 _ _ ⟨hS24,by rw [←e37]; simp only [B0,reduceIte,a7],rfl,rfl,rfl⟩
  ·rw [iteF hg33] at hx35
   simp only [hg33,qc (g:=45),qq,qp,qb,a8,a9,b4,qs,qm,B0,reduceIte,a7]
   refine qi (v:=lst cI v_1.InStep) rfl ?_
   simp only [hg33,qc (g:=45),qq,qp,qb,a8,a9,b4,qs,qm,B0,reduceIte,a7]
   refine qi (v := .int .i64 x14.Leader) rfl ?_
   obtain ⟨v38,hx39,hF40⟩:=qk hx35
   simp only [hg33,qc (g:=45),qq,za,B0,reduceIte,a7]
   refine ja rfl (ql zn (ql qu zd)) (qc5 (fun b hb=>decide_eq_true hb) v_1.InStep x14.Leader v38 hx39) ?_
   simp only [hg33,qc (g:=45),qq,je,qb,jt,qr,zi,qa,qn,B0,reduceIte,a7]
   have e41:=qj hF40
   exact hN32 _ _ ⟨hS24,by rw [←e41]; simp only [B0,reduceIte,a7],rfl,rfl,rfl⟩
 rintro fr42 h47 ⟨hS48,f43,f44,f45,f46⟩
 simp only [b7,e8]
 simp only [f43,qg,qa,qz,B0,reduceIte,a7]
 refine qx (t:=v34) (fun hc49=>?_) (fun hc49=>?_)
 ·rw [iteT hc49] at hF36
  simp only [qh,qf,qg,qa,q8,B0,reduceIte,a7]
  have he:=qj hF36
  subst he
  simp only [zg,B0,reduceIte,a7]
  exact rfl
 rw [iteF hc49] at hF36
 simp only [zf,ki,qr4,qh,qf,f45,qp,qb,a8,a9,b4,qs,qm,B0,reduceIte,a7]
 refine qi (v:=lst cI v_1.InStep) rfl ?_
 simp only [zx,qb,z1,qg,qa,B0,reduceIte,a7]
 obtain ⟨oc52,hX54,hk55⟩:=jo hF36
 simp only [qq9]
 refine ku (σ:=Unit) v_1.InStep (fun i50 x51 _=>qa5 v_0 x14 i50 x51 ) (fun s fr' h'=>fr' 2 = .ref [lst qe v_0.Brokers,
   lst qd v_0.Parts,.int .i64 v_0.Next] 0∧fr' 5 = .ref [lst cI x14.Homes,lst cI x14.InStep,.int .i64 x14.Leader,.int .i64 x14.Epoch,
   .int .i64 x14.Stamp] 0∧fr' 54=lst cI v_1.InStep∧Sep h' (geL h.length) ([])) hX54 ⟨f44,f46,rfl,hS48⟩ (by simp only [B0,reduceIte,a7]) (by simp only [B0,
   reduceIte,a7]) (fun _ _ _ h=>h) rfl rfl (fun _ _ _ _ h=>h) (fun _ _ _ _ h=>h) (fun _ _ _ _ h=>h) (by decide) ?_ ?_
 ·rintro i50 x51 _ fr64 h65 hx70 ⟨f67,f68,f69,hS66⟩ f71 f72 oc53 hF56 hr57 Q58 hN59 hB63 hK60 hR61 hE62
  unfold qa5 at hF56
  simp only [q41,qh,qf,f69,f71,jf,B0,reduceIte,a7]
  refine qi (v := .ref (cI x51) 0) (kt hx70 rfl) ?_
  simp only [qm,B0,reduceIte,a7]
  refine qi (v := .int .i64 x51) rfl ?_
  simp only [qg,qa,q3k,qh,qf,f67,qp,qb,a8,a9,b4,qs,qm,B0,reduceIte,a7]
  refine qi (v:=lst qe v_0.Brokers) rfl ?_
  obtain ⟨x73,hx74,hF75⟩:=qk hF56
  simp only [qg,jf,B0,reduceIte,a7]
  refine qi (v := .ref (qe x73) 0) (uw hx74 rfl) ?_
  simp only [qp,qb,a8,a9,b4,qs,qm,B0,reduceIte,a7]
  refine qi (v := .bool x73.Fenced) rfl ?_
  simp only [qg,B0,reduceIte,a7]
  obtain ⟨v79,hx80,hF81⟩:=qk hF75
  refine zr 6 (fun fr' h'=>Sep h' (geL h.length) ([])∧fr' 72 = .bool v79∧fr' 2 = .ref [lst qe v_0.Brokers,lst qd v_0.Parts,
    .int .i64 v_0.Next] 0∧fr' 5 = .ref [lst cI x14.Homes,lst cI x14.InStep,.int .i64 x14.Leader,.int .i64 x14.Epoch,
    .int .i64 x14.Stamp] 0∧fr' 54=lst cI v_1.InStep∧fr' 55 = .int .i64 (b6 v_1.InStep:Int)∧fr' 56 = .int .i64 (i50:Int)) (fun Q76 hN77=>?_) ?_
  ·simp only [d7,e9]
   simp only [qc (g:=66),B0,reduceIte,a7]
   refine qy (t:=x73.Fenced) (fun hg78=>?_) (fun hg78=>?_)
   ·rw [iteT hg78] at hx80
    simp only [hg78,qc (g:=66),qw,f68,qp,qb,a8,a9,b4,qs,qm,B0,reduceIte,a7]
    refine qi (v:=lst cI x14.InStep) rfl ?_
    obtain ⟨v82,hx83,hF84⟩:=qk hx80
    simp only [hg78,qc (g:=66),qw,qg,za,B0,reduceIte,a7]
    refine ja rfl (ql zn (ql qu zd)) (qc5 (fun b hb=>decide_eq_true hb) x14.InStep x51 v82 hx83) ?_
    simp only [hg78,qc (g:=66),qw,je,qb,jt,qr,zh,qa,qn,B0,reduceIte,a7]
    have e85:=qj hF84
    exact hN77 _ _ ⟨hS66,by rw [←e85]; simp only [B0,reduceIte,a7],f67,f68,f69,f72,f71⟩
   ·rw [iteF hg78] at hx80
    simp only [hg78,qc (g:=66),zy,qr,qb,zi,qa,qn,B0,reduceIte,a7]
    have e86:=qj hx80
    exact hN77 _ _ ⟨hS66,by rw [←e86]; simp only [B0,reduceIte,a7],f67,f68,f69,f72,f71⟩
  rintro fr87 h94 ⟨hS95,f88,f89,f90,f91,f92,f93⟩
  simp only [b7,e8]
  simp only [qa,f88,qz,B0,reduceIte,a7]
  refine qx (t:=v79) (fun hc96=>?_) (fun hc96=>?_)
  ·rw [iteT hc96] at hF81
   simp only [qh,qf,qg,qa,q8,B0,reduceIte,a7]
   have e97:=qj hF81
   subst e97
   have ho98:=hr57 _ rfl
   have hk99:=hk55
   rw [ho98] at hk99
   dsimp only [jnO] at hk99
   apply hR61
   have he:=qj hk99
   subst he
   simp only [zg,B0,reduceIte,a7]
   exact rfl
  rw [iteF hc96] at hF81
  simp only [zf,qn,B0,reduceIte,a7]
  have e100:=qj hF81
  exact hN59 _ _ _ e100.symm ⟨f89,f90,f91,hS95⟩ (f93) (f92)
 rintro _ fr102 h103 rfl ⟨f105,f106,f107,hS104⟩
 dsimp only [jnO] at hk55
 unfold qg5 at hk55
 simp only [qh,qf,qg,qa,q8,B0,reduceIte,a7]
 have he:=qj hk55
 subst he
 simp only [zg,B0,reduceIte,a7]
 exact rfl
end Go.Proofs.Ytjloihcijdcpeaa.X
