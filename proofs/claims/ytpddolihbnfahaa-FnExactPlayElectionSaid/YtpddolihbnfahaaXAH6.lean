/- The functions' code comes to what the plain functions say (6). -/
import Derived.Test.YtpddolihbnfahaaXAH5
set_option linter.unusedVariables false
set_option linter.unusedSimpArgs false
set_option maxRecDepth 100000
namespace Go.Proofs.Ytpddolihbnfahaa.X
open Go
open Nat (reduceEqDiff)
theorem qkl {W:Nat→Bool}{h:Heap}{lo:Nat→Prop}{S0:List Obj} (hW:∀ b,
  lo b→W b=true) (k:Nat) (pv0:XV) (pc0:List Obj) (a_0:List Bool) (ph0:SlF cB 1 4 pv0 a_0 pc0) (k_1:Int) (r:Int × (List Bool))
  (hF:qbu k a_0 k_1=some r) (hS:Sep h lo (pc0++(S0))) : Ret E W 41 [pv0,.int .i64 k_1] h (fun v h'=>∃ ic0,
  v = .int .i64 r.1∧SlF cB 1 4 pv0 r.2 ic0∧Sep h' lo (ic0++(S0))):=by
 refine Ret.of (fn:=x41) rfl (Run.of ?_)
 unfold qbu at hF
 have zf0:qy [pv0,.int .i64 k_1] 0=pv0:=rfl
 have zf1:qy [pv0,.int .i64 k_1] 1 = .int .i64 k_1:=rfl
 generalize qy [pv0,.int .i64 k_1]=fr0 at zf0 zf1 ⊢
 simp only [x41,qd,qc,qe,qa,qzw,B0,reduceIte,reduceEqDiff]
 obtain ⟨oc13,hX15,hk16⟩:=jm hF
 simp only [q5b]
 refine yb (σ:=Int × Int × (List Bool)) (fun s45=>uz s45.1 s45.2.1 s45.2.2) (fun s fr' h'=>∃ c9,
   fr' 0=pv0∧fr' 1 = .int .i64 s.1∧fr' 5 = .int .i64 s.2.1∧SlF cB 1 4 pv0 s.2.2 c9∧Sep h' lo (c9++(S0))) hX15 ⟨pc0,zf0,zf1,rfl,ph0,hS⟩ (fun _ _ _ h=>h) ?_ ?_
 ·rintro ⟨s6,s7,s8⟩ fr25 h26 ⟨c9,f28,f29,f30,hv10,hS27⟩ oc14 hF17 hr18 Q19 hN20 hK21 hR22 hE23
  dsimp only at *
  unfold uz at hF17
  simp only [q7n,qd,qc,f30,qe,f28,zj,qb,SlF.plen hv10,qm,kr,qa,qr,B0,reduceIte,reduceEqDiff]
  refine qq (t:=(decide (s7<(List.length s8:Int)))) (fun hc32=>?_) (fun hc32=>?_)
  ·rw [iteT hc32] at hF17
   obtain ⟨x33,hx34,hF35⟩:=qi hF17
   simp only [qt,q2r,qd,jq,qzd,qc,f28,qe,f30,f29,qm,qb,qck (n:=3) (by decide),yi,zt,B0,reduceIte,
     reduceEqDiff]
   obtain ⟨b36,hb37⟩:=SlF.isrow hv10 (yo hx34)
   refine qh (SlF.ia hv10 hb37 hx34) ?_
   simp only [ze,B0,reduceIte,reduceEqDiff]
   refine ws (f:=cB) (x':=(decide ((Int.tmod s6 3)=0))) (o:=0) hv10 hS27 hW hb37 hx34 (fun _=>rfl) rfl rfl (Nat.le_of_ble_eq_true rfl) rfl
     (fun c40 h38 hv41 hS39=>?_)
   have hx42:=jz (x':=(decide ((Int.tmod s6 3)=0))) hx34
   simp only [qa,qc,f29,qe,qm,qb,j8,kh,f30,ql,B0,reduceIte,reduceEqDiff]
   have e43:=qf hF35
   exact hN20 _ _ _ e43.symm ⟨c40,f28,rfl,rfl,hv41,hS39⟩
  rw [iteF hc32] at hF17
  simp only [kg,ka,ky,B0,reduceIte,reduceEqDiff]
  have e44:=qf hF17
  exact hK21 _ _ _ e44.symm ⟨c9,f28,f29,f30,hv10,hS27⟩
 rintro ⟨s46,s47,s48⟩ fr51 h52 rfl ⟨c49,f54,f55,f56,hv50,hS53⟩
 dsimp only [jnO] at hk16
 dsimp only at *
 unfold qf9 at hk16
 simp only [qd,qc,f55,qe,qa,qs,B0,reduceIte,reduceEqDiff]
 have he:=qf hk16
 subst he
 simp only [qw,B0,reduceIte,reduceEqDiff]
 exact ⟨c49,by first | trivial | rfl,hv50,hS53⟩
theorem qgz {W:Nat→Bool}{h:Heap} (hW:∀ b,
  (geL h.length) b→W b=true) (k:Nat) (a_0:List Int) (k_1:Int) (r:Int) (hF:qa0 k a_0 k_1=some r) : Ret E W 108 [lst cI a_0,
  .int .i64 k_1] h (fun v h'=>cut h.length h' E.sz false 9 v=some (.int .i64 r)):=by
 refine Ret.of (fn:=qqu) rfl (Run.of ?_)
 unfold qa0 at hF
 have zf0:qy [lst cI a_0,.int .i64 k_1] 0=lst cI a_0:=rfl
 have zf1:qy [lst cI a_0,.int .i64 k_1] 1 = .int .i64 k_1:=rfl
 generalize qy [lst cI a_0,.int .i64 k_1]=fr0 at zf0 zf1 ⊢
 have hS:Sep h (geL h.length) []:=Sep.nil h
 simp only [qqu,qd,qc,qe,qa,qw8,B0,reduceIte,reduceEqDiff]
 obtain ⟨oc7,hX9,hk10⟩:=jm hF
 simp only [qsr]
 refine yb (σ:=Int × Int) (fun s36=>qam a_0 s36.1 s36.2) (fun s fr' h'=>fr' 0=lst cI a_0∧fr' 1 = .int .i64 s.1∧fr' 5 = .int .i64 s.2∧Sep h'
   (geL h.length) ([])) hX9 ⟨zf0,zf1,rfl,hS⟩ (fun _ _ _ h=>h) ?_ ?_
 ·rintro ⟨s3,s4⟩ fr19 h20 ⟨f22,f23,f24,hS21⟩ oc8 hF11 hr12 Q13 hN14 hK15 hR16 hE17
  dsimp only at *
  unfold qam at hF11
  simp only [qte,qd,qc,f24,qe,f22,zj,qb,zr,qm,kr,qa,qr,B0,reduceIte,reduceEqDiff]
  refine qq (t:=(decide (s4<(List.length a_0:Int)))) (fun hc26=>?_) (fun hc26=>?_)
  ·rw [iteT hc26] at hF11
   obtain ⟨x27,hx28,hF29⟩:=qi hF11
   simp only [qt,qs2,qd,jq,qxe,qc,f22,qe,f24,zt,B0,reduceIte,reduceEqDiff]
   refine qh (v := .ref (cI x27) 0) (je hx28 rfl) ?_
   simp only [qj,B0,reduceIte,reduceEqDiff]
   refine qh (v := .int .i64 x27) rfl ?_
   simp only [f23,qe,qm,qb,yq,qa,qr,B0,reduceIte,reduceEqDiff]
   refine qq (t:=(decide (x27≠s3))) (fun hc30=>?_) (fun hc30=>?_)
   ·rw [iteT hc30] at hF29
    simp only [qd,qc,qe,qa,qs,B0,reduceIte,reduceEqDiff]
    have e31:=qf hF29
    subst e31
    have ho32:=hr12 _ rfl
    have hk33:=hk10
    rw [ho32] at hk33
    dsimp only [jnO] at hk33
    apply hR16
    have he:=qf hk33
    subst he
    simp only [qw,B0,reduceIte,reduceEqDiff]
    exact rfl
   rw [iteF hc30] at hF29
   simp only [qt,qc,f23,qe,qm,qb,j8,qa,kh,f24,ql,B0,reduceIte,reduceEqDiff]
   have e34:=qf hF29
   exact hN14 _ _ _ e34.symm ⟨f22,rfl,rfl,hS21⟩
  rw [iteF hc26] at hF11
  simp only [kg,ka,ky,B0,reduceIte,reduceEqDiff]
  have e35:=qf hF11
  exact hK15 _ _ _ e35.symm ⟨f22,f23,f24,hS21⟩
 rintro ⟨s37,s38⟩ fr39 h40 rfl ⟨f42,f43,f44,hS41⟩
 dsimp only [jnO] at hk10
 dsimp only at *
 unfold qgn at hk10
 simp only [qd,qc,f43,qe,qa,qs,B0,reduceIte,reduceEqDiff]
 have he:=qf hk10
 subst he
 simp only [qw,B0,reduceIte,reduceEqDiff]
 exact rfl
theorem qje {W:Nat→Bool}{h:Heap} (hW:∀ b,
  (geL h.length) b→W b=true) (k:Nat) (v_0:List Server) (v_1:Int) (r:Int) (hF:qaf k v_0 v_1=some r) : Ret E W 81 [lst Server.cells v_0,
  .int .i64 v_1] h (fun v h'=>cut h.length h' E.sz false 9 v=some (.int .i64 r)):=by
 refine Ret.of (fn:=x81) rfl (Run.of ?_)
 unfold qaf at hF
 have zf0:qy [lst Server.cells v_0,.int .i64 v_1] 0=lst Server.cells v_0:=rfl
 have zf1:qy [lst Server.cells v_0,.int .i64 v_1] 1 = .int .i64 v_1:=rfl
 generalize qy [lst Server.cells v_0,.int .i64 v_1]=fr0 at zf0 zf1 ⊢
 have hS:Sep h (geL h.length) []:=Sep.nil h
 simp only [x81,qd,qc,qe,qa,qtd,B0,reduceIte,reduceEqDiff]
 obtain ⟨oc7,hX9,hk10⟩:=jm hF
 simp only [qt5]
 refine yb (σ:=Int × Int) (fun s77=>xl k v_0 s77.1 s77.2)
   (fun s fr' h'=>fr' 0=lst Server.cells v_0∧fr' 1 = .int .i64 s.1∧fr' 5 = .int .i64 s.2∧Sep h' (geL h.length) ([])) hX9 ⟨zf0,zf1,rfl,hS⟩ (fun _ _ _ h=>h) ?_ ?_
 ·rintro ⟨s3,s4⟩ fr19 h20 ⟨f22,f23,f24,hS21⟩ oc8 hF11 hr12 Q13 hN14 hK15 hR16 hE17
  dsimp only at *
  unfold xl at hF11
  simp only [qvy,qd,qc,f24,qe,f22,zj,qb,zr,qm,kr,qa,qr,B0,reduceIte,reduceEqDiff]
  refine qq (t:=(decide (s4<(List.length v_0:Int)))) (fun hc26=>?_) (fun hc26=>?_)
  ·rw [iteT hc26] at hF11
   obtain ⟨x27,hx28,hF29⟩:=qi hF11
   simp only [qt,quk,qd,jq,qrd,qc,f22,qe,f24,zt,B0,reduceIte,reduceEqDiff]
   refine qh (v := .ref (Server.cells x27) 0) (je hx28 rfl) ?_
   simp only [qn,qb,Nat.reduceAdd,Nat.zero_add,Nat.add_zero,qu,qj,B0,reduceIte,reduceEqDiff]
   refine qh (v := .int .i64 x27.Term) rfl ?_
   simp only [f23,qe,qm,qb,yq,qa,qr,B0,reduceIte,reduceEqDiff]
   refine qq (t:=(decide (x27.Term≠s3))) (fun hc30=>?_) (fun hc30=>?_)
   ·rw [iteT hc30] at hF29
    simp only [qd,qc,qe,qa,qs,B0,reduceIte,reduceEqDiff]
    have e31:=qf hF29
    subst e31
    have ho32:=hr12 _ rfl
    have hk33:=hk10
    rw [ho32] at hk33
    dsimp only [jnO] at hk33
    apply hR16
    have he:=qf hk33
    subst he
    simp only [qw,B0,reduceIte,reduceEqDiff]
    exact rfl
   rw [iteF hc30] at hF29
   obtain ⟨x34,hx35,hF36⟩:=qi hF29
   simp only [qt,qwh,qd,qc,f23,qe,qm,qb,j8,qa,qud,f22,f24,zt,B0,reduceIte,reduceEqDiff]
   refine qh (v := .ref (Server.cells x34) 0) (je hx35 rfl) ?_
   simp only [qn,qb,Nat.reduceAdd,Nat.zero_add,Nat.add_zero,qu,qj,B0,reduceIte,reduceEqDiff]
   refine qh (v := .int .i64 x34.Voted) rfl ?_
   simp only [qe,qm,qb,yq,qa,qr,B0,reduceIte,reduceEqDiff]
   refine qq (t:=(decide (x34.Voted≠(IntKind.wrap .i64 (s3+1))))) (fun hc37=>?_) (fun hc37=>?_)
   ·rw [iteT hc37] at hF36
    simp only [qd,qc,qe,qa,qs,B0,reduceIte,reduceEqDiff]
    have e38:=qf hF36
    subst e38
    have ho39:=hr12 _ rfl
    have hk40:=hk10
    rw [ho39] at hk40
    dsimp only [jnO] at hk40
    apply hR16
    have he:=qf hk40
    subst he
    simp only [qw,B0,reduceIte,reduceEqDiff]
    exact rfl
   rw [iteF hc37] at hF36
   obtain ⟨x41,hx42,hF43⟩:=qi hF36
   simp only [qt,q7s,qd,qc,qe,qm,qb,j8,qa,q51,f22,f24,zt,B0,reduceIte,reduceEqDiff]
   refine qh (v := .ref (Server.cells x41) 0) (je hx42 rfl) ?_
   simp only [qn,qb,Nat.reduceAdd,Nat.zero_add,Nat.add_zero,qu,qj,B0,reduceIte,reduceEqDiff]
   refine qh (v := .bool x41.Stands) rfl ?_
   simp only [qe,qm,qb,qck (n:=3) (by decide),yi,qa1,qbz,qa,qr,B0,reduceIte,reduceEqDiff]
   refine qq (t:=(!(x41.Stands == (decide ((Int.tmod (IntKind.wrap .i64 ((IntKind.wrap .i64 (s3+1))+1)) 3)=0))))) (fun hc44=>?_) (fun hc44=>?_)
   ·rw [iteT hc44] at hF43
    simp only [qd,qc,qe,qa,qs,B0,reduceIte,reduceEqDiff]
    have e45:=qf hF43
    subst e45
    have ho46:=hr12 _ rfl
    have hk47:=hk10
    rw [ho46] at hk47
    dsimp only [jnO] at hk47
    apply hR16
    have he:=qf hk47
    subst he
    simp only [qw,B0,reduceIte,reduceEqDiff]
    exact rfl
   rw [iteF hc44] at hF43
   obtain ⟨x48,hx49,hF50⟩:=qi hF43
   simp only [qt,q0z,qd,qc,qe,qm,qb,j8,qa,q29,f22,f24,zt,B0,reduceIte,reduceEqDiff]
   refine qh (v := .ref (Server.cells x48) 0) (je hx49 rfl) ?_
   simp only [qn,qb,Nat.reduceAdd,Nat.zero_add,Nat.add_zero,qu,qj,B0,reduceIte,reduceEqDiff]
   refine qh (v := .bool x48.Leads) rfl ?_
   simp only [qe,qm,qb,qck (n:=3) (by decide),yi,qa1,qbz,qa,qr,B0,reduceIte,reduceEqDiff]
   refine qq (t:=(!(x48.Leads == (decide ((Int.tmod (IntKind.wrap .i64 ((IntKind.wrap .i64 ((IntKind.wrap .i64 (s3+1))+1))+1)) 3)=0))))) (fun hc51=>?_)
     (fun hc51=>?_)
   ·rw [iteT hc51] at hF50
    simp only [qd,qc,qe,qa,qs,B0,reduceIte,reduceEqDiff]
    have e52:=qf hF50
    subst e52
    have ho53:=hr12 _ rfl
    have hk54:=hk10
    rw [ho53] at hk54
    dsimp only [jnO] at hk54
    apply hR16
    have he:=qf hk54
    subst he
    simp only [qw,B0,reduceIte,reduceEqDiff]
    exact rfl
   rw [iteF hc51] at hF50
   obtain ⟨x55,hx56,hF57⟩:=qi hF50
   simp only [qt,q6u,qd,qc,qe,qm,qb,j8,qa,q53,f22,f24,zt,B0,reduceIte,reduceEqDiff]
   refine qh (v := .ref (Server.cells x55) 0) (je hx56 rfl) ?_
   simp only [qn,qb,Nat.reduceAdd,Nat.zero_add,Nat.add_zero,qu,qj,B0,reduceIte,reduceEqDiff]
   refine qh (v:=lst cI x55.Got) rfl ?_
   obtain ⟨v58,hx59,hF60⟩:=qi hF57
   simp only [qe,zb,B0,reduceIte,reduceEqDiff]
   refine jg rfl (qk zx (qk za zd)) (qgz (fun b hb=>decide_eq_true hb) k x55.Got (IntKind.wrap .i64 ((IntKind.wrap .i64
     ((IntKind.wrap .i64 ((IntKind.wrap .i64 (s3+1))+1))+1))+1)) v58 hx59) ?_
   simp only [qe,qa,q3k,qd,qc,qm,qb,kr,qr,B0,reduceIte,reduceEqDiff]
   refine qq (t:=(decide (v58<0))) (fun hc61=>?_) (fun hc61=>?_)
   ·rw [iteT hc61] at hF60
    simp only [qd,qc,qe,qa,qs,B0,reduceIte,reduceEqDiff]
    have e62:=qf hF60
    subst e62
    have ho63:=hr12 _ rfl
    have hk64:=hk10
    rw [ho63] at hk64
    dsimp only [jnO] at hk64
    apply hR16
    have he:=qf hk64
    subst he
    simp only [qw,B0,reduceIte,reduceEqDiff]
    exact rfl
   rw [iteF hc61] at hF60
   obtain ⟨x65,hx66,hF67⟩:=qi hF60
   simp only [qt,q45,qd,qc,f22,qe,f24,zt,B0,reduceIte,reduceEqDiff]
   refine qh (v := .ref (Server.cells x65) 0) (je hx66 rfl) ?_
   simp only [qn,qb,Nat.reduceAdd,Nat.zero_add,Nat.add_zero,qu,qj,B0,reduceIte,reduceEqDiff]
   refine qh (v:=lst cI x65.Log) rfl ?_
   obtain ⟨v68,hx69,hF70⟩:=qi hF67
   simp only [qe,zb,B0,reduceIte,reduceEqDiff]
   refine jg rfl (qk zx (qk za zd)) (qgz (fun b hb=>decide_eq_true hb) k x65.Log v58 v68 hx69) ?_
   simp only [qe,qa,q66,qd,qc,qm,qb,kr,qr,B0,reduceIte,reduceEqDiff]
   refine qq (t:=(decide (v68<0))) (fun hc71=>?_) (fun hc71=>?_)
   ·rw [iteT hc71] at hF70
    simp only [qd,qc,qe,qa,qs,B0,reduceIte,reduceEqDiff]
    have e72:=qf hF70
    subst e72
    have ho73:=hr12 _ rfl
    have hk74:=hk10
    rw [ho73] at hk74
    dsimp only [jnO] at hk74
    apply hR16
    have he:=qf hk74
    subst he
    simp only [qw,B0,reduceIte,reduceEqDiff]
    exact rfl
   rw [iteF hc71] at hF70
   simp only [qt,kh,qc,f24,qe,qm,qb,j8,qa,ql,B0,reduceIte,reduceEqDiff]
   have e75:=qf hF70
   exact hN14 _ _ _ e75.symm ⟨f22,rfl,rfl,hS21⟩
  rw [iteF hc26] at hF11
  simp only [kg,ka,ky,B0,reduceIte,reduceEqDiff]
  have e76:=qf hF11
  exact hK15 _ _ _ e76.symm ⟨f22,f23,f24,hS21⟩
 rintro ⟨s78,s79⟩ fr80 h81 rfl ⟨f83,f84,f85,hS82⟩
 dsimp only [jnO] at hk10
 dsimp only at *
 unfold qev at hk10
 simp only [qd,qc,f84,qe,qa,qs,B0,reduceIte,reduceEqDiff]
 have he:=qf hk10
 subst he
 simp only [qw,B0,reduceIte,reduceEqDiff]
 exact rfl
theorem qi2 {W:Nat→Bool}{h:Heap} (hW:∀ b,
  (geL h.length) b→W b=true) (k:Nat) (v_0:List Letter) (v_1:Int) (r:Int) (hF:qai k v_0 v_1=some r) : Ret E W 82 [lst Letter.cells v_0,
  .int .i64 v_1] h (fun v h'=>cut h.length h' E.sz false 9 v=some (.int .i64 r)):=by
 refine Ret.of (fn:=x82) rfl (Run.of ?_)
 unfold qai at hF
 have zf0:qy [lst Letter.cells v_0,.int .i64 v_1] 0=lst Letter.cells v_0:=rfl
 have zf1:qy [lst Letter.cells v_0,.int .i64 v_1] 1 = .int .i64 v_1:=rfl
 generalize qy [lst Letter.cells v_0,.int .i64 v_1]=fr0 at zf0 zf1 ⊢
 have hS:Sep h (geL h.length) []:=Sep.nil h
 simp only [x82,qd,qc,qe,qa,qrv,B0,reduceIte,reduceEqDiff]
 obtain ⟨oc7,hX9,hk10⟩:=jm hF
 simp only [qt0]
 refine yb (σ:=Int × Int) (fun s78=>xu v_0 s78.1 s78.2)
   (fun s fr' h'=>fr' 0=lst Letter.cells v_0∧fr' 1 = .int .i64 s.1∧fr' 5 = .int .i64 s.2∧Sep h' (geL h.length) ([])) hX9 ⟨zf0,zf1,rfl,hS⟩ (fun _ _ _ h=>h) ?_ ?_
 ·rintro ⟨s3,s4⟩ fr19 h20 ⟨f22,f23,f24,hS21⟩ oc8 hF11 hr12 Q13 hN14 hK15 hR16 hE17
  dsimp only at *
  unfold xu at hF11
  simp only [qw0,qd,qc,f24,qe,f22,zj,qb,zr,qm,kr,qa,qr,B0,reduceIte,reduceEqDiff]
  refine qq (t:=(decide (s4<(List.length v_0:Int)))) (fun hc26=>?_) (fun hc26=>?_)
  ·rw [iteT hc26] at hF11
   obtain ⟨x27,hx28,hF29⟩:=qi hF11
   simp only [qt,qw1,qd,jq,qxl,qc,f22,qe,f24,zt,B0,reduceIte,reduceEqDiff]
   refine qh (v := .ref (Letter.cells x27) 0) (je hx28 rfl) ?_
   simp only [qn,qb,Nat.reduceAdd,Nat.zero_add,Nat.add_zero,qu,qj,B0,reduceIte,reduceEqDiff]
   refine qh (v := .int .i64 x27.To) rfl ?_
   simp only [f23,qe,qm,qb,yq,qa,qr,B0,reduceIte,reduceEqDiff]
   refine qq (t:=(decide (x27.To≠s3))) (fun hc30=>?_) (fun hc30=>?_)
   ·rw [iteT hc30] at hF29
    simp only [qd,qc,qe,qa,qs,B0,reduceIte,reduceEqDiff]
    have e31:=qf hF29
    subst e31
    have ho32:=hr12 _ rfl
    have hk33:=hk10
    rw [ho32] at hk33
    dsimp only [jnO] at hk33
    apply hR16
    have he:=qf hk33
    subst he
    simp only [qw,B0,reduceIte,reduceEqDiff]
    exact rfl
   rw [iteF hc30] at hF29
   obtain ⟨x34,hx35,hF36⟩:=qi hF29
   simp only [qt,qvj,qd,qc,f23,qe,qm,qb,j8,qa,qxf,f22,f24,zt,B0,reduceIte,reduceEqDiff]
   refine qh (v := .ref (Letter.cells x34) 0) (je hx35 rfl) ?_
   simp only [qn,qb,Nat.reduceAdd,Nat.zero_add,Nat.add_zero,qu,qj,B0,reduceIte,reduceEqDiff]
   refine qh (v := .int .i64 x34.From) rfl ?_
   simp only [qe,qm,qb,yq,qa,qr,B0,reduceIte,reduceEqDiff]
   refine qq (t:=(decide (x34.From≠(IntKind.wrap .i64 (s3+1))))) (fun hc37=>?_) (fun hc37=>?_)
   ·rw [iteT hc37] at hF36
    simp only [qd,qc,qe,qa,qs,B0,reduceIte,reduceEqDiff]
    have e38:=qf hF36
    subst e38
    have ho39:=hr12 _ rfl
    have hk40:=hk10
    rw [ho39] at hk40
    dsimp only [jnO] at hk40
    apply hR16
    have he:=qf hk40
    subst he
    simp only [qw,B0,reduceIte,reduceEqDiff]
    exact rfl
   rw [iteF hc37] at hF36
   obtain ⟨x41,hx42,hF43⟩:=qi hF36
   simp only [qt,qr5,qd,qc,qe,qm,qb,j8,qa,qzo,f22,f24,zt,B0,reduceIte,reduceEqDiff]
   refine qh (v := .ref (Letter.cells x41) 0) (je hx42 rfl) ?_
   simp only [qn,qb,Nat.reduceAdd,Nat.zero_add,Nat.add_zero,qu,qj,B0,reduceIte,reduceEqDiff]
   refine qh (v := .int .i64 x41.Term) rfl ?_
   simp only [qe,qm,qb,yq,qa,qr,B0,reduceIte,reduceEqDiff]
   refine qq (t:=(decide (x41.Term≠(IntKind.wrap .i64 ((IntKind.wrap .i64 (s3+1))+1))))) (fun hc44=>?_) (fun hc44=>?_)
   ·rw [iteT hc44] at hF43
    simp only [qd,qc,qe,qa,qs,B0,reduceIte,reduceEqDiff]
    have e45:=qf hF43
    subst e45
    have ho46:=hr12 _ rfl
    have hk47:=hk10
    rw [ho46] at hk47
    dsimp only [jnO] at hk47
    apply hR16
    have he:=qf hk47
    subst he
    simp only [qw,B0,reduceIte,reduceEqDiff]
    exact rfl
   rw [iteF hc44] at hF43
   obtain ⟨x48,hx49,hF50⟩:=qi hF43
   simp only [qt,q6b,qd,qc,qe,qm,qb,j8,qa,q5k,f22,f24,zt,B0,reduceIte,reduceEqDiff]
   refine qh (v := .ref (Letter.cells x48) 0) (je hx49 rfl) ?_
   simp only [qn,qb,Nat.reduceAdd,Nat.zero_add,Nat.add_zero,qu,qj,B0,reduceIte,reduceEqDiff]
   refine qh (v := .bool x48.Asks) rfl ?_
   simp only [qe,qm,qb,qck (n:=3) (by decide),yi,qa1,qbz,qa,qr,B0,reduceIte,reduceEqDiff]
   refine qq (t:=(!(x48.Asks == (decide ((Int.tmod (IntKind.wrap .i64 ((IntKind.wrap .i64 ((IntKind.wrap .i64 (s3+1))+1))+1)) 3)=0))))) (fun hc51=>?_)
     (fun hc51=>?_)
   ·rw [iteT hc51] at hF50
    simp only [qd,qc,qe,qa,qs,B0,reduceIte,reduceEqDiff]
    have e52:=qf hF50
    subst e52
    have ho53:=hr12 _ rfl
    have hk54:=hk10
    rw [ho53] at hk54
    dsimp only [jnO] at hk54
    apply hR16
    have he:=qf hk54
    subst he
    simp only [qw,B0,reduceIte,reduceEqDiff]
    exact rfl
   rw [iteF hc51] at hF50
   obtain ⟨x55,hx56,hF57⟩:=qi hF50
   simp only [qt,qy7,qd,qc,qe,qm,qb,j8,qa,q6r,f22,f24,zt,B0,reduceIte,reduceEqDiff]
   refine qh (v := .ref (Letter.cells x55) 0) (je hx56 rfl) ?_
   simp only [qn,qb,Nat.reduceAdd,Nat.zero_add,Nat.add_zero,qu,qj,B0,reduceIte,reduceEqDiff]
   refine qh (v := .int .i64 x55.Last) rfl ?_
   simp only [qe,qm,qb,yq,qa,qr,B0,reduceIte,reduceEqDiff]
   refine qq (t:=(decide (x55.Last≠(IntKind.wrap .i64 ((IntKind.wrap .i64 ((IntKind.wrap .i64 ((IntKind.wrap .i64 (s3+1))+1))+1))+1))))) (fun hc58=>?_)
     (fun hc58=>?_)
   ·rw [iteT hc58] at hF57
    simp only [qd,qc,qe,qa,qs,B0,reduceIte,reduceEqDiff]
    have e59:=qf hF57
    subst e59
    have ho60:=hr12 _ rfl
    have hk61:=hk10
    rw [ho60] at hk61
    dsimp only [jnO] at hk61
    apply hR16
    have he:=qf hk61
    subst he
    simp only [qw,B0,reduceIte,reduceEqDiff]
    exact rfl
   rw [iteF hc58] at hF57
   obtain ⟨x62,hx63,hF64⟩:=qi hF57
   simp only [qt,q47,qd,qc,qe,qm,qb,j8,qa,q15,f22,f24,zt,B0,reduceIte,reduceEqDiff]
   refine qh (v := .ref (Letter.cells x62) 0) (je hx63 rfl) ?_
   simp only [qn,qb,Nat.reduceAdd,Nat.zero_add,Nat.add_zero,qu,qj,B0,reduceIte,reduceEqDiff]
   refine qh (v := .int .i64 x62.Long) rfl ?_
   simp only [qe,qm,qb,yq,qa,qr,B0,reduceIte,reduceEqDiff]
   refine qq (t:=(decide (x62.Long≠(IntKind.wrap .i64 ((IntKind.wrap .i64 ((IntKind.wrap .i64 ((IntKind.wrap .i64 ((IntKind.wrap .i64
     (s3+1))+1))+1))+1))+1))))) (fun hc65=>?_) (fun hc65=>?_)
   ·rw [iteT hc65] at hF64
    simp only [qd,qc,qe,qa,qs,B0,reduceIte,reduceEqDiff]
    have e66:=qf hF64
    subst e66
    have ho67:=hr12 _ rfl
    have hk68:=hk10
    rw [ho67] at hk68
    dsimp only [jnO] at hk68
    apply hR16
    have he:=qf hk68
    subst he
    simp only [qw,B0,reduceIte,reduceEqDiff]
    exact rfl
   rw [iteF hc65] at hF64
   obtain ⟨x69,hx70,hF71⟩:=qi hF64
   simp only [qt,q22,qd,qc,qe,qm,qb,j8,qa,q44,f22,f24,zt,B0,reduceIte,reduceEqDiff]
   refine qh (v := .ref (Letter.cells x69) 0) (je hx70 rfl) ?_
   simp only [qn,qb,Nat.reduceAdd,Nat.zero_add,Nat.add_zero,qu,qj,B0,reduceIte,reduceEqDiff]
   refine qh (v := .bool x69.Grant) rfl ?_
   simp only [qe,qm,qb,qck (n:=3) (by decide),yi,qa1,qbz,qa,qr,B0,reduceIte,reduceEqDiff]
   refine qq (t:=(!(x69.Grant == (decide ((Int.tmod (IntKind.wrap .i64 ((IntKind.wrap .i64 ((IntKind.wrap .i64 ((IntKind.wrap .i64 ((IntKind.wrap .i64
     ((IntKind.wrap .i64 (s3+1))+1))+1))+1))+1))+1)) 3)=0))))) (fun hc72=>?_) (fun hc72=>?_)
   ·rw [iteT hc72] at hF71
    simp only [qd,qc,qe,qa,qs,B0,reduceIte,reduceEqDiff]
    have e73:=qf hF71
    subst e73
    have ho74:=hr12 _ rfl
    have hk75:=hk10
    rw [ho74] at hk75
    dsimp only [jnO] at hk75
    apply hR16
    have he:=qf hk75
    subst he
    simp only [qw,B0,reduceIte,reduceEqDiff]
    exact rfl
   rw [iteF hc72] at hF71
   simp only [qt,qc,qe,qm,qb,j8,qa,kh,f24,ql,B0,reduceIte,reduceEqDiff]
   have e76:=qf hF71
   exact hN14 _ _ _ e76.symm ⟨f22,rfl,rfl,hS21⟩
  rw [iteF hc26] at hF11
  simp only [kg,ka,ky,B0,reduceIte,reduceEqDiff]
  have e77:=qf hF11
  exact hK15 _ _ _ e77.symm ⟨f22,f23,f24,hS21⟩
 rintro ⟨s79,s80⟩ fr81 h82 rfl ⟨f84,f85,f86,hS83⟩
 dsimp only [jnO] at hk10
 dsimp only at *
 unfold qex at hk10
 simp only [qd,qc,f85,qe,qa,qs,B0,reduceIte,reduceEqDiff]
 have he:=qf hk10
 subst he
 simp only [qw,B0,reduceIte,reduceEqDiff]
 exact rfl
theorem qj3 {W:Nat→Bool}{h:Heap} (hW:∀ b,
  (geL h.length) b→W b=true) (k:Nat) (a_0:List Vote) (k_1:Int) (r:Int) (hF:qbw k a_0 k_1=some r) : Ret E W 83 [lst Vote.cells a_0,
  .int .i64 k_1] h (fun v h'=>cut h.length h' E.sz false 9 v=some (.int .i64 r)):=by
 refine Ret.of (fn:=x83) rfl (Run.of ?_)
 unfold qbw at hF
 have zf0:qy [lst Vote.cells a_0,.int .i64 k_1] 0=lst Vote.cells a_0:=rfl
 have zf1:qy [lst Vote.cells a_0,.int .i64 k_1] 1 = .int .i64 k_1:=rfl
 generalize qy [lst Vote.cells a_0,.int .i64 k_1]=fr0 at zf0 zf1 ⊢
 have hS:Sep h (geL h.length) []:=Sep.nil h
 simp only [x83,qd,qc,qe,qa,q60,B0,reduceIte,reduceEqDiff]
 obtain ⟨oc7,hX9,hk10⟩:=jm hF
 simp only [q4c]
 refine yb (σ:=Int × Int) (fun s43=>u0 a_0 s43.1 s43.2)
   (fun s fr' h'=>fr' 0=lst Vote.cells a_0∧fr' 1 = .int .i64 s.1∧fr' 5 = .int .i64 s.2∧Sep h' (geL h.length) ([])) hX9 ⟨zf0,zf1,rfl,hS⟩ (fun _ _ _ h=>h) ?_ ?_
 ·rintro ⟨s3,s4⟩ fr19 h20 ⟨f22,f23,f24,hS21⟩ oc8 hF11 hr12 Q13 hN14 hK15 hR16 hE17
  dsimp only at *
  unfold u0 at hF11
  simp only [qzm,qd,qc,f24,qe,f22,zj,qb,zr,qm,kr,qa,qr,B0,reduceIte,reduceEqDiff]
  refine qq (t:=(decide (s4<(List.length a_0:Int)))) (fun hc26=>?_) (fun hc26=>?_)
  ·rw [iteT hc26] at hF11
   obtain ⟨x27,hx28,hF29⟩:=qi hF11
   simp only [qt,q7t,qd,jq,q58,qc,f22,qe,f24,zt,B0,reduceIte,reduceEqDiff]
   refine qh (v := .ref (Vote.cells x27) 0) (je hx28 rfl) ?_
   simp only [qn,qb,Nat.reduceAdd,Nat.zero_add,Nat.add_zero,qu,qj,B0,reduceIte,reduceEqDiff]
   refine qh (v := .int .i64 x27.Term) rfl ?_
   simp only [f23,qe,qm,qb,yq,qa,qr,B0,reduceIte,reduceEqDiff]
   refine qq (t:=(decide (x27.Term≠s3))) (fun hc30=>?_) (fun hc30=>?_)
   ·rw [iteT hc30] at hF29
    simp only [qd,qc,qe,qa,qs,B0,reduceIte,reduceEqDiff]
    have e31:=qf hF29
    subst e31
    have ho32:=hr12 _ rfl
    have hk33:=hk10
    rw [ho32] at hk33
    dsimp only [jnO] at hk33
    apply hR16
    have he:=qf hk33
    subst he
    simp only [qw,B0,reduceIte,reduceEqDiff]
    exact rfl
   rw [iteF hc30] at hF29
   obtain ⟨x34,hx35,hF36⟩:=qi hF29
   simp only [qt,q2x,qd,qc,f23,qe,qm,qb,j8,qa,q1w,f22,f24,zt,B0,reduceIte,reduceEqDiff]
   refine qh (v := .ref (Vote.cells x34) 0) (je hx35 rfl) ?_
   simp only [qn,qb,Nat.reduceAdd,Nat.zero_add,Nat.add_zero,qu,qj,B0,reduceIte,reduceEqDiff]
   refine qh (v := .int .i64 x34.Leader) rfl ?_
   simp only [qe,qm,qb,yq,qa,qr,B0,reduceIte,reduceEqDiff]
   refine qq (t:=(decide (x34.Leader≠(IntKind.wrap .i64 (s3+1))))) (fun hc37=>?_) (fun hc37=>?_)
   ·rw [iteT hc37] at hF36
    simp only [qd,qc,qe,qa,qs,B0,reduceIte,reduceEqDiff]
    have e38:=qf hF36
    subst e38
    have ho39:=hr12 _ rfl
    have hk40:=hk10
    rw [ho39] at hk40
    dsimp only [jnO] at hk40
    apply hR16
    have he:=qf hk40
    subst he
    simp only [qw,B0,reduceIte,reduceEqDiff]
    exact rfl
   rw [iteF hc37] at hF36
   simp only [qt,qc,qe,qm,qb,j8,qa,kh,f24,ql,B0,reduceIte,reduceEqDiff]
   have e41:=qf hF36
   exact hN14 _ _ _ e41.symm ⟨f22,rfl,rfl,hS21⟩
  rw [iteF hc26] at hF11
  simp only [kg,ka,ky,B0,reduceIte,reduceEqDiff]
  have e42:=qf hF11
  exact hK15 _ _ _ e42.symm ⟨f22,f23,f24,hS21⟩
 rintro ⟨s44,s45⟩ fr46 h47 rfl ⟨f49,f50,f51,hS48⟩
 dsimp only [jnO] at hk10
 dsimp only at *
 unfold qf2 at hk10
 simp only [qd,qc,f50,qe,qa,qs,B0,reduceIte,reduceEqDiff]
 have he:=qf hk10
 subst he
 simp only [qw,B0,reduceIte,reduceEqDiff]
 exact rfl
theorem qeu {W:Nat→Bool}{h:Heap} (hW:∀ b,
  (geL h.length) b→W b=true) (k:Nat) (a_0:Election) (k_1:Int) (r:Int) (hF:xk k a_0 k_1=some r) : Ret E W 42 [.agg [lst Server.cells a_0.Servers,
  lst Letter.cells a_0.Post,lst Vote.cells a_0.Led],.int .i64 k_1] h (fun v h'=>cut h.length h' E.sz false 9 v=some (.int .i64 r)):=by
 refine Ret.of (fn:=x42) rfl (Run.of ?_)
 unfold xk at hF
 have zf0:qy [.agg [lst Server.cells a_0.Servers,lst Letter.cells a_0.Post,lst Vote.cells a_0.Led],.int .i64 k_1] 0 = .agg [lst Server.cells a_0.Servers,
   lst Letter.cells a_0.Post,lst Vote.cells a_0.Led]:=rfl
 have zf1:qy [.agg [lst Server.cells a_0.Servers,lst Letter.cells a_0.Post,lst Vote.cells a_0.Led],.int .i64 k_1] 1 = .int .i64 k_1:=rfl
 generalize qy [.agg [lst Server.cells a_0.Servers,lst Letter.cells a_0.Post,lst Vote.cells a_0.Led],.int .i64 k_1]=fr0 at zf0 zf1 ⊢
 have hS:Sep h (geL h.length) []:=Sep.nil h
 simp only [x42,qd,qc,kx,zf0,B0,reduceIte,reduceEqDiff]
 refine ju (cs:=[lst Server.cells a_0.Servers,lst Letter.cells a_0.Post,lst Vote.cells a_0.Led]) hS rfl rfl rfl (fun b1 h2 hS3=>?_)
 simp only [qe,qa,B0,reduceIte,reduceEqDiff]
 refine jd hS3 hW (by simp only [B0,reduceIte,reduceEqDiff]) (fun h5 hS6=>?_)
 simp only [jc,q4s,qd,qc,qn,qb,Nat.reduceAdd,Nat.zero_add,Nat.add_zero,qu,qj,B0,reduceIte,reduceEqDiff]
 refine qh (v:=lst Server.cells a_0.Servers) rfl ?_
 obtain ⟨v7,hx8,hF9⟩:=qi hF
 simp only [zf1,qe,zb,B0,reduceIte,reduceEqDiff]
 refine jg rfl (qk zx (qk za zd)) (qje (fun b hb=>decide_eq_true hb) k a_0.Servers k_1 v7 hx8) ?_
 simp only [qe,qa,q2u,qd,qc,qm,qb,kr,qr,B0,reduceIte,reduceEqDiff]
 refine qq (t:=(decide (v7<0))) (fun hc10=>?_) (fun hc10=>?_)
 ·rw [iteT hc10] at hF9
  simp only [qd,qc,qe,qa,qs,B0,reduceIte,reduceEqDiff]
  have he:=qf hF9
  subst he
  simp only [qw,B0,reduceIte,reduceEqDiff]
  exact rfl
 rw [iteF hc10] at hF9
 simp only [qt,q4v,qd,qc,qn,qb,Nat.reduceAdd,Nat.zero_add,Nat.add_zero,qu,qj,B0,reduceIte,reduceEqDiff]
 refine qh (v:=lst Letter.cells a_0.Post) rfl ?_
 obtain ⟨v11,hx12,hF13⟩:=qi hF9
 simp only [qe,zb,B0,reduceIte,reduceEqDiff]
 refine jg rfl (qk zx (qk za zd)) (qi2 (fun b hb=>decide_eq_true hb) k a_0.Post v7 v11 hx12) ?_
 simp only [qe,qa,q2n,qd,qc,qm,qb,kr,qr,B0,reduceIte,reduceEqDiff]
 refine qq (t:=(decide (v11<0))) (fun hc14=>?_) (fun hc14=>?_)
 ·rw [iteT hc14] at hF13
  simp only [qd,qc,qe,qa,qs,B0,reduceIte,reduceEqDiff]
  have he:=qf hF13
  subst he
  simp only [qw,B0,reduceIte,reduceEqDiff]
  exact rfl
 rw [iteF hc14] at hF13
 simp only [qt,q37,qd,qc,qn,qb,Nat.reduceAdd,Nat.zero_add,Nat.add_zero,qu,qj,B0,reduceIte,reduceEqDiff]
 refine qh (v:=lst Vote.cells a_0.Led) rfl ?_
 obtain ⟨v15,hx16,hF17⟩:=qi hF13
 simp only [qe,zb,B0,reduceIte,reduceEqDiff]
 refine jg rfl (qk zx (qk za zd)) (qj3 (fun b hb=>decide_eq_true hb) k a_0.Led v11 v15 hx16) ?_
 simp only [qe,qa,q5v,qd,qc,qm,qb,kr,qr,B0,reduceIte,reduceEqDiff]
 refine qq (t:=(decide (v15<0))) (fun hc18=>?_) (fun hc18=>?_)
 ·rw [iteT hc18] at hF17
  simp only [qd,qc,qe,qa,qs,B0,reduceIte,reduceEqDiff]
  have he:=qf hF17
  subst he
  simp only [qw,B0,reduceIte,reduceEqDiff]
  exact rfl
 rw [iteF hc18] at hF17
 simp only [qt,qd,qc,qe,qa,qs,B0,reduceIte,reduceEqDiff]
 have he:=qf hF17
 subst he
 simp only [qw,B0,reduceIte,reduceEqDiff]
 exact rfl
theorem qgk {W:Nat→Bool}{h:Heap} (hW:∀ b,
  (geL h.length) b→W b=true) (k:Nat) (a_0:List Bool) (k_1:Int) (r:Int) (hF:qaa k a_0 k_1=some r) : Ret E W 43 [lst cB a_0,
  .int .i64 k_1] h (fun v h'=>cut h.length h' E.sz false 9 v=some (.int .i64 r)):=by
 refine Ret.of (fn:=x43) rfl (Run.of ?_)
 unfold qaa at hF
 have zf0:qy [lst cB a_0,.int .i64 k_1] 0=lst cB a_0:=rfl
 have zf1:qy [lst cB a_0,.int .i64 k_1] 1 = .int .i64 k_1:=rfl
 generalize qy [lst cB a_0,.int .i64 k_1]=fr0 at zf0 zf1 ⊢
 have hS:Sep h (geL h.length) []:=Sep.nil h
 simp only [x43,qd,qc,qe,qa,qzx,B0,reduceIte,reduceEqDiff]
 obtain ⟨oc7,hX9,hk10⟩:=jm hF
 simp only [q2j]
 refine yb (σ:=Int × Int) (fun s36=>uw a_0 s36.1 s36.2) (fun s fr' h'=>fr' 0=lst cB a_0∧fr' 1 = .int .i64 s.1∧fr' 5 = .int .i64 s.2∧Sep h'
   (geL h.length) ([])) hX9 ⟨zf0,zf1,rfl,hS⟩ (fun _ _ _ h=>h) ?_ ?_
 ·rintro ⟨s3,s4⟩ fr19 h20 ⟨f22,f23,f24,hS21⟩ oc8 hF11 hr12 Q13 hN14 hK15 hR16 hE17
  dsimp only at *
  unfold uw at hF11
  simp only [qze,qd,qc,f24,qe,f22,zj,qb,zr,qm,kr,qa,qr,B0,reduceIte,reduceEqDiff]
  refine qq (t:=(decide (s4<(List.length a_0:Int)))) (fun hc26=>?_) (fun hc26=>?_)
  ·rw [iteT hc26] at hF11
   obtain ⟨x27,hx28,hF29⟩:=qi hF11
   simp only [qt,q3v,qd,jq,q1t,qc,f22,qe,f24,zt,B0,reduceIte,reduceEqDiff]
   refine qh (v := .ref (cB x27) 0) (je hx28 rfl) ?_
   simp only [qj,B0,reduceIte,reduceEqDiff]
   refine qh (v := .bool x27) rfl ?_
   simp only [f23,qe,qm,qb,qck (n:=3) (by decide),yi,qa1,qbz,qa,qr,B0,reduceIte,reduceEqDiff]
   refine qq (t:=(!(x27 == (decide ((Int.tmod s3 3)=0))))) (fun hc30=>?_) (fun hc30=>?_)
   ·rw [iteT hc30] at hF29
    simp only [qd,qc,qe,qa,qs,B0,reduceIte,reduceEqDiff]
    have e31:=qf hF29
    subst e31
    have ho32:=hr12 _ rfl
    have hk33:=hk10
    rw [ho32] at hk33
    dsimp only [jnO] at hk33
    apply hR16
    have he:=qf hk33
    subst he
    simp only [qw,B0,reduceIte,reduceEqDiff]
    exact rfl
   rw [iteF hc30] at hF29
   simp only [qt,qc,f23,qe,qm,qb,j8,qa,kh,f24,ql,B0,reduceIte,reduceEqDiff]
   have e34:=qf hF29
   exact hN14 _ _ _ e34.symm ⟨f22,rfl,rfl,hS21⟩
  rw [iteF hc26] at hF11
  simp only [kg,ka,ky,B0,reduceIte,reduceEqDiff]
  have e35:=qf hF11
  exact hK15 _ _ _ e35.symm ⟨f22,f23,f24,hS21⟩
 rintro ⟨s37,s38⟩ fr39 h40 rfl ⟨f42,f43,f44,hS41⟩
 dsimp only [jnO] at hk10
 dsimp only at *
 unfold qf4 at hk10
 simp only [qd,qc,f43,qe,qa,qs,B0,reduceIte,reduceEqDiff]
 have he:=qf hk10
 subst he
 simp only [qw,B0,reduceIte,reduceEqDiff]
 exact rfl
end Go.Proofs.Ytpddolihbnfahaa.X
namespace Go.Proofs.Ytpddolihbnfahaa.X
open Go
open Nat (reduceEqDiff)
theorem qft {W:Nat→Bool}{h:Heap} (hW:∀ b,
  (geL h.length) b→W b=true) (k:Nat) (v_0:List (List Int)) (v_1:List ElectStep) (r:Bool) (hF:yx k v_0 v_1=some r) : Ret E W 5 [lst
  (cL cI) v_0,lst ElectStep.cells v_1] h (fun v h'=>cut h.length h' E.sz false 9 v=some (.bool r)):=by
 refine Ret.of (fn:=x5) rfl (Run.of ?_)
 unfold yx at hF
 have zf0:qy [lst (cL cI) v_0,lst ElectStep.cells v_1] 0=lst (cL cI) v_0:=rfl
 have zf1:qy [lst (cL cI) v_0,lst ElectStep.cells v_1] 1=lst ElectStep.cells v_1:=rfl
 generalize qy [lst (cL cI) v_0,lst ElectStep.cells v_1]=fr0 at zf0 zf1 ⊢
 have hS:Sep h (geL h.length) []:=Sep.nil h
 obtain ⟨v1,hx2,hF3⟩:=qi hF
 simp only [x5,qd,qc,qe,qa,q61,q68,zf0,zb,B0,reduceIte,reduceEqDiff]
 refine jg rfl (qk zx (qk za zd)) (qlm (fun b hb=>decide_eq_true hb) k v_0 1048576 v1 hx2) ?_
 simp only [qe,qa,qz3,qd,qc,qm,qb,kr,qr,B0,reduceIte,reduceEqDiff]
 refine qq (t:=(decide (v1<0))) (fun hc4=>?_) (fun hc4=>?_)
 ·rw [iteT hc4] at hF3
  simp only [qd,qc,qe,qa,qs,B0,reduceIte,reduceEqDiff]
  have he:=qf hF3
  subst he
  simp only [qw,B0,reduceIte,reduceEqDiff]
  exact rfl
 rw [iteF hc4] at hF3
 obtain ⟨v5,hx6,hF7⟩:=qi hF3
 simp only [qt,q5h,qd,qc,zf1,qe,zb,B0,reduceIte,reduceEqDiff]
 refine jg rfl (qk zx (qk za zd)) (qiu (fun b hb=>decide_eq_true hb) v_1 v1 v5 hx6) ?_
 simp only [qe,qa,q7d,qd,qc,qm,qb,kr,qr,B0,reduceIte,reduceEqDiff]
 refine qq (t:=(decide (v5<0))) (fun hc8=>?_) (fun hc8=>?_)
 ·rw [iteT hc8] at hF7
  simp only [qd,qc,qe,qa,qs,B0,reduceIte,reduceEqDiff]
  have he:=qf hF7
  subst he
  simp only [qw,B0,reduceIte,reduceEqDiff]
  exact rfl
 rw [iteF hc8] at hF7
 obtain ⟨v9,hx10,hF11⟩:=qi hF7
 simp only [qt,q20,qd,qc,zf0,qe,zb,B0,reduceIte,reduceEqDiff]
 refine qba rfl hS (qk zx zd) (qdm (fun b hb=>decide_eq_true hb) k v_0 v9 hx10) ?_
 rintro v12 h16 ⟨_,c13,rfl,hv14,hS17⟩
 refine ⟨_,qeo (SlN.free1 hv14),hS17,(j0 (SlN.pf hv14 RL44O) xv),fun h18 hS19=>?_⟩
 have hS20:Sep h18 (geL h.length) (c13++([])):=by simpa only [List.append_assoc,List.nil_append] using hS19
 obtain ⟨v21,hx22,hF23⟩:=qi hF11
 simp only [zf1,qe,zb,B0,reduceIte,reduceEqDiff]
 refine qba rfl hS20 (qk zx zd) (qaq (fun b hb=>decide_eq_true hb) k v_1 v21 hx22) ?_
 rintro v24 h28 ⟨_,c25,rfl,hv26,hS29⟩
 refine ⟨_,qeo (SlF.free1 hv26),hS29,(j0 (SlF.pf hv26 (fun _=>rfl)) xv),fun h30 hS31=>?_⟩
 have hS32:Sep h30 (geL h.length) (c25++(c13++([]))):=by simpa only [List.append_assoc,List.nil_append] using hS31
 obtain ⟨v33,hx34,hF35⟩:=qi hF23
 simp only [zb,B0,reduceIte,reduceEqDiff]
 refine qba rfl hS32 (qk (SlN.snap hv14 _ (Sep.m1 hS32) rfl RL44O) (qk (SlF.snap hv26 hS32 rfl (fun _=>rfl) (fun _=>rfl)) zd)) (qir
   (fun b hb=>decide_eq_true hb) k v9 v21 v33 hx34) ?_
 rintro _ h52 ⟨v36,c37,v40,c41,v44,c45,v48,c49,rfl,hv38,hv42,hv46,hv50,hS53⟩
 refine ⟨_,qh1 (qo (qgg (qo (SlN.free1 hv38) (qo (SlF.free1 hv42) (qo (SlF.free1 hv46) zn)))) (qo (qln (SlF.free1 hv50)) (qo rfl zn))),hS53,
   (j0 (SlN.pf hv38 Server.RO) (j0 (SlF.pf hv42 (fun _=>rfl)) (j0 (SlF.pf hv46 (fun _=>rfl)) (j0 (SlF.pf hv50 (fun _=>rfl)) xv)))),fun h54 hS55=>?_⟩
 have hS56:Sep h54 (geL h.length) (c37++(c41++(c45++(c49++(c25++(c13++([]))))))):=by simpa only [List.append_assoc,List.nil_append] using hS55
 simp only [qe,qfa,qb,qep,qen,qoq,jv,B0,reduceIte,reduceEqDiff]
 refine jb hS56 (fun b57 h58 hS59=>?_)
 simp only [ze,B0,reduceIte,reduceEqDiff]
 refine zc (us:=[v36,v40,v44]) rfl (cs':=[v36,v40,
   v44]) hS59 hW rfl (qo (SlN.one hv38) (qo (SlF.one hv42) (qo (SlF.one hv46) zn))) (Nat.le_of_ble_eq_true rfl) rfl (fun h61 hS62=>?_)
 simp only [qe,qa,B0,reduceIte,reduceEqDiff]
 refine jd hS62 hW (by simp only [B0,reduceIte,reduceEqDiff]) (fun h63 hS64=>?_)
 obtain ⟨v65,hx66,hF67⟩:=qi hF35
 simp only [jc,q0o,qd,qc,zf0,qe,zb,B0,reduceIte,reduceEqDiff]
 refine qba rfl hS64 (qk zx zd) (qdm (fun b hb=>decide_eq_true hb) k v_0 v65 hx66) ?_
 rintro v68 h72 ⟨_,c69,rfl,hv70,hS73⟩
 refine ⟨_,qeo (SlN.free1 hv70),hS73,(j0 (SlN.pf hv70 RL44O) xv),fun h74 hS75=>?_⟩
 have hS76:Sep h74 (geL h.length) (c69++(c37++(c41++(c45++(c49++(c25++(c13++([])))))))):=by simpa only [List.append_assoc,List.nil_append] using hS75
 obtain ⟨v77,hx78,hF79⟩:=qi hF67
 simp only [qe,qa,q06,qd,qc,zf1,zb,B0,reduceIte,reduceEqDiff]
 refine qba rfl hS76 (qk zx zd) (qaq (fun b hb=>decide_eq_true hb) k v_1 v77 hx78) ?_
 rintro v80 h84 ⟨_,c81,rfl,hv82,hS85⟩
 refine ⟨_,qeo (SlF.free1 hv82),hS85,(j0 (SlF.pf hv82 (fun _=>rfl)) xv),fun h86 hS87=>?_⟩
 have hS88:Sep h86 (geL h.length) (c81++(c69++(c37++(c41++(c45++(c49++(c25++(c13++([]))))))))):=by simpa only [List.append_assoc,List.nil_append] using hS87
 obtain ⟨v89,hx90,hF91⟩:=qi hF79
 simp only [qe,qa,q1b,qd,qc,zb,B0,reduceIte,reduceEqDiff]
 refine qba rfl hS88 (qk (SlN.snap hv70 _ (Sep.m1 hS88) rfl RL44O) (qk (SlF.snap hv82 hS88 rfl (fun _=>rfl) (fun _=>rfl)) zd)) (qey
   (fun b hb=>decide_eq_true hb) k v65 v77 v89 hx90) ?_
 rintro _ h108 ⟨v92,c93,v96,c97,v100,c101,v104,c105,rfl,hv94,hv98,hv102,hv106,hS109⟩
 refine ⟨_,qh1 (qo (qgg (qo (SlN.free1 hv94) (qo (SlF.free1 hv98) (qo (SlF.free1 hv102) zn)))) (qo (qln (SlF.free1 hv106)) (qo rfl zn))),
   hS109,(j0 (SlN.pf hv94 Server.RO) (j0 (SlF.pf hv98 (fun _=>rfl)) (j0 (SlF.pf hv102 (fun _=>rfl)) (j0 (SlF.pf hv106 (fun _=>rfl)) xv)))),
   fun h110 hS111=>?_⟩
 have hS112:Sep h110 (geL h.length) (c93++(c97++(c101++(c105++(c81++(c69++(c37++(c41++(c45++(c49++(c25++(c13 ++
   ([]))))))))))))):=by simpa only [List.append_assoc,List.nil_append] using hS111
 simp only [qe,qfa,qb,qep,qen,qoq,jv,B0,reduceIte,reduceEqDiff]
 refine jb hS112 (fun b113 h114 hS115=>?_)
 simp only [ze,B0,reduceIte,reduceEqDiff]
 refine zc (us:=[v92,v96,v100]) rfl (cs':=[v92,v96,
   v100]) hS115 hW rfl (qo (SlN.one hv94) (qo (SlF.one hv98) (qo (SlF.one hv102) zn))) (Nat.le_of_ble_eq_true rfl) rfl (fun h117 hS118=>?_)
 simp only [qe,qa,B0,reduceIte,reduceEqDiff]
 refine jd hS118 hW (by simp only [B0,reduceIte,reduceEqDiff]) (fun h119 hS120=>?_)
 simp only [jc,q3f,qd,qc,qj,B0,reduceIte,reduceEqDiff]
 refine qh (v := .agg [v92,v96,v100]) rfl ?_
 simp only [qj,B0,reduceIte,reduceEqDiff]
 refine qh (v := .agg [v36,v40,v44]) rfl ?_
 obtain ⟨v121,hx122,hF123⟩:=qi hF91
 simp only [zb,B0,reduceIte,reduceEqDiff]
 refine jg rfl (qk (kq (qk (SlN.snap hv94 _ hS120 rfl Server.RO) (qk (SlF.snap hv98 (Sep.m1 hS120) rfl (fun _=>rfl) (fun _=>rfl)) (qk (SlF.snap hv102
   (Sep.m2 hS120) rfl (fun _=>rfl) (fun _=>rfl)) zd)))) (qk (kq (qk (SlN.snap hv38 _ (Sep.m6 hS120) rfl Server.RO) (qk (SlF.snap hv42 (Sep.m7 hS120) rfl
   (fun _=>rfl) (fun _=>rfl)) (qk (SlF.snap hv46 (Sep.m8 hS120) rfl (fun _=>rfl) (fun _=>rfl)) zd)))) zd)) (qdp
   (fun b hb=>decide_eq_true hb) k v89.1 v33.1 v121 hx122) ?_
 simp only [js,qb,kt,qe,B0,reduceIte,reduceEqDiff]
 obtain ⟨v127,hx128,hF129⟩:=qi hF123
 refine jh 5 (fun fr' h'=>Sep h' (geL h.length) (c37++(c41++(c45++(c49++(c69++(c81++(c93++(c97++(c101++(c105 ++
   ([])))))))))))∧fr' 59 = .bool v127∧fr' 0=lst (cL cI) v_0∧fr' 1=lst ElectStep.cells v_1∧fr' 6 = .ref [v36,v40,
   v44] 0∧fr' 7=v48∧fr' 8 = .bool v33.2.2∧fr' 9=v68∧fr' 10=v80∧fr' 11 = .ref [v92,v96,
   v100] 0∧fr' 12=v104∧fr' 13 = .bool v89.2.2) (fun Q124 hN125=>?_) ?_
 ·simp only [List.take_succ_cons,List.take_zero]
  simp only [qg (g:=54),B0,reduceIte,reduceEqDiff]
  refine zf (t:=(!v121)) (fun hg126=>?_) (fun hg126=>?_)
  ·rw [iteT hg126] at hx128
   simp only [hg126,qg (g:=54),zz,qz,qb,zp,qa,ql,B0,reduceIte,reduceEqDiff]
   have e130:=qf hx128
   exact hN125 _ _ ⟨(Sep.m9 (Sep.m9 (Sep.m9 (Sep.m9 (Sep.m5 (Sep.m4 (Sep.m3 (Sep.m3 (Sep.m3 (Sep.m3 (Sep.dc (Sep.m10 (Sep.dc (Sep.m10 hS120)))))))))))))),
     by rw [←e130]; simp only [B0,reduceIte,reduceEqDiff],zf0,zf1,rfl,rfl,rfl,rfl,rfl,rfl,rfl,rfl⟩
  ·rw [iteF hg126] at hx128
   obtain ⟨v131,hx132,hF133⟩:=qi hx128
   simp only [hg126,qg (g:=54),qv,qe,zb,B0,reduceIte,reduceEqDiff]
   refine jg rfl (qk (SlF.snap hv106 (Sep.m3 hS120) rfl (fun _=>rfl) (fun _=>rfl)) (qk (SlF.snap hv50 (Sep.m9 hS120) rfl (fun _=>rfl) (fun _=>rfl)) zd))
     (qfd (fun b hb=>decide_eq_true hb) k v89.2.1 v33.2.1 v131 hx132) ?_
   simp only [hg126,qg (g:=54),qv,js,qb,kt,qz,zo,qa,ql,B0,reduceIte,reduceEqDiff]
   have e134:=qf hF133
   exact hN125 _ _ ⟨(Sep.m9 (Sep.m9 (Sep.m9 (Sep.m9 (Sep.m5 (Sep.m4 (Sep.m3 (Sep.m3 (Sep.m3 (Sep.m3 (Sep.dc (Sep.m10 (Sep.dc (Sep.m10 hS120)))))))))))))),
     by rw [←e134]; simp only [B0,reduceIte,reduceEqDiff],zf0,zf1,rfl,rfl,rfl,rfl,rfl,rfl,rfl,rfl⟩
 rintro fr135 h147 ⟨hS148,f136,f137,f138,f139,f140,f141,f142,f143,f144,f145,f146⟩
 simp only [List.drop_succ_cons,List.drop_zero]
 simp only [f136,qe,B0,reduceIte,reduceEqDiff]
 refine jh 4 (fun fr' h'=>Sep h' (geL h.length) (c37++(c41++(c45++(c49++(c69++(c81++(c93++(c97++(c101++(c105++([])))))))))))∧fr' 64 = .bool (v127 ||
   (!(v89.2.2 == v33.2.2)))∧fr' 0=lst (cL cI) v_0∧fr' 1=lst ElectStep.cells v_1∧fr' 6 = .ref [v36,v40,
   v44] 0∧fr' 7=v48∧fr' 8 = .bool v33.2.2∧fr' 9=v68∧fr' 10=v80∧fr' 11 = .ref [v92,v96,
   v100] 0∧fr' 12=v104∧fr' 13 = .bool v89.2.2) (fun Q149 hN150=>?_) ?_
 ·simp only [List.take_succ_cons,List.take_zero]
  simp only [qg (g:=60),B0,reduceIte,reduceEqDiff]
  refine zf (t:=v127) (fun hg151=>?_) (fun hg151=>?_)
  ·simp only [hg151,qg (g:=60),zz,qz,qb,zp,qa,ql,B0,reduceIte,reduceEqDiff]
   exact hN150 _ _ ⟨(Sep.m9 (Sep.m9 (Sep.m9 (Sep.m9 (Sep.m9 (Sep.m9 (Sep.m9 (Sep.m9 (Sep.m9 (Sep.m9 hS148)))))))))),by rw [orT hg151]; simp only [B0,reduceIte,reduceEqDiff],
     f137,f138,f139,f140,f141,f142,f143,f144,f145,f146⟩
  ·simp only [hg151,qg (g:=60),qv,f146,qe,f141,qa1,qb,qbz,qz,zo,qa,ql,B0,reduceIte,reduceEqDiff]
   exact hN150 _ _ ⟨(Sep.m9 (Sep.m9 (Sep.m9 (Sep.m9 (Sep.m9 (Sep.m9 (Sep.m9 (Sep.m9 (Sep.m9 (Sep.m9 hS148)))))))))),by rw [orF hg151]; simp only [B0,reduceIte,reduceEqDiff],
     f137,f138,f139,f140,f141,f142,f143,f144,f145,f146⟩
 rintro fr152 h164 ⟨hS165,f153,f154,f155,f156,f157,f158,f159,f160,f161,f162,f163⟩
 simp only [List.drop_succ_cons,List.drop_zero]
 simp only [qa,f153,qr,B0,reduceIte,reduceEqDiff]
 refine qq (t:=(v127||(!(v89.2.2 == v33.2.2)))) (fun hc166=>?_) (fun hc166=>?_)
 ·rw [iteT hc166] at hF129
  simp only [qd,qc,qe,qa,qs,B0,reduceIte,reduceEqDiff]
  have he:=qf hF129
  subst he
  simp only [qw,B0,reduceIte,reduceEqDiff]
  exact rfl
 rw [iteF hc166] at hF129
 obtain ⟨v167,hx168,hF169⟩:=qi hF129
 simp only [qt,q6w,qd,qc,f159,qe,f154,zb,B0,reduceIte,reduceEqDiff]
 refine qba rfl hS165 (qk zx zd) (qdm (fun b hb=>decide_eq_true hb) k v_0 v167 hx168) ?_
 rintro v170 h174 ⟨_,c171,rfl,hv172,hS175⟩
 refine ⟨_,qeo (SlN.free1 hv172),hS175,(j0 (SlN.pf hv172 RL44O) xv),fun h176 hS177=>?_⟩
 have hS178:Sep h176 (geL h.length) (c171++(c37++(c41++(c45++(c49++(c69++(c81++(c93++(c97++(c101++(c105 ++
   ([])))))))))))):=by simpa only [List.append_assoc,List.nil_append] using hS177
 obtain ⟨v179,hx180,hF181⟩:=qi hF169
 simp only [zb,B0,reduceIte,reduceEqDiff]
 refine jg rfl (qk (SlN.snap hv70 _ (Sep.m5 hS178) rfl RL44O) (qk (SlN.snap hv172 _ hS178 rfl RL44O) zd)) (qll
   (fun b hb=>decide_eq_true hb) k v65 v167 v179 hx180) ?_
 simp only [js,qb,kt,qa,qr,B0,reduceIte,reduceEqDiff]
 refine qq (t:=(!v179)) (fun hc182=>?_) (fun hc182=>?_)
 ·rw [iteT hc182] at hF181
  simp only [qd,qc,qe,qa,qs,B0,reduceIte,reduceEqDiff]
  have he:=qf hF181
  subst he
  simp only [qw,B0,reduceIte,reduceEqDiff]
  exact rfl
 rw [iteF hc182] at hF181
 obtain ⟨v183,hx184,hF185⟩:=qi hF181
 simp only [qt,qzr,qd,qc,f160,qe,f155,zb,B0,reduceIte,reduceEqDiff]
 refine qba rfl hS178 (qk zx zd) (qaq (fun b hb=>decide_eq_true hb) k v_1 v183 hx184) ?_
 rintro v186 h190 ⟨_,c187,rfl,hv188,hS191⟩
 refine ⟨_,qeo (SlF.free1 hv188),hS191,(j0 (SlF.pf hv188 (fun _=>rfl)) xv),fun h192 hS193=>?_⟩
 have hS194:Sep h192 (geL h.length) (c187++(c171++(c37++(c41++(c45++(c49++(c69++(c81++(c93++(c97++(c101++(c105 ++
   ([]))))))))))))):=by simpa only [List.append_assoc,List.nil_append] using hS193
 obtain ⟨v195,hx196,hF197⟩:=qi hF185
 simp only [zb,B0,reduceIte,reduceEqDiff]
 refine jg rfl (qk (SlF.snap hv82 (Sep.m7 hS194) rfl (fun _=>rfl) (fun _=>rfl)) (qk (SlF.snap hv188 hS194 rfl (fun _=>rfl) (fun _=>rfl)) zd))
   (qip (fun b hb=>decide_eq_true hb) k v77 v183 v195 hx196) ?_
 simp only [js,qb,kt,qa,qr,B0,reduceIte,reduceEqDiff]
 refine qq (t:=(!v195)) (fun hc198=>?_) (fun hc198=>?_)
 ·rw [iteT hc198] at hF197
  simp only [qd,qc,qe,qa,qs,B0,reduceIte,reduceEqDiff]
  have he:=qf hF197
  subst he
  simp only [qw,B0,reduceIte,reduceEqDiff]
  exact rfl
 rw [iteF hc198] at hF197
 obtain ⟨v199,hx200,hF201⟩:=qi hF197
 simp only [qt,q2g,qd,qc,qe,qa,q1q,f159,zb,B0,reduceIte,reduceEqDiff]
 refine x3 rfl (qj6 hW k v68 c69 v65 hv70 1 v199 hx200 (Sep.m6 hS194)) ?_
 rintro _ h204 ⟨c202,rfl,hv203,hS205⟩
 obtain ⟨v206,hx207,hF208⟩:=qi hF201
 simp only [qe,qa,q0u,qd,qc,f160,zb,B0,reduceIte,reduceEqDiff]
 refine x3 rfl (qhs hW k v80 c81 v77 hv82 v199.1 v206 hx207 (Sep.m7 hS205)) ?_
 rintro _ h211 ⟨c209,rfl,hv210,hS212⟩
 simp only [qe,qa,q1h,qd,qc,qm,qb,kr,B0,reduceIte,reduceEqDiff]
 obtain ⟨v216,hx217,hF218⟩:=qi hF208
 refine jh 5 (fun fr' h'=>Sep h' (geL h.length) (c37++(c41++(c45++(c49++(c93++(c97++(c101++(c105++([])))))))))∧fr' 88 = .bool v216∧fr' 0=lst
   (cL cI) v_0∧fr' 1=lst ElectStep.cells v_1∧fr' 6 = .ref [v36,v40,v44] 0∧fr' 7=v48∧fr' 8 = .bool v33.2.2∧fr' 11 = .ref [v92,v96,
   v100] 0∧fr' 12=v104∧fr' 13 = .bool v89.2.2) (fun Q213 hN214=>?_) ?_
 ·simp only [List.take_succ_cons,List.take_zero]
  simp only [qg (g:=83),B0,reduceIte,reduceEqDiff]
  refine zf (t:=(decide (v206.1<0))) (fun hg215=>?_) (fun hg215=>?_)
  ·rw [iteT hg215] at hx217
   simp only [hg215,qg (g:=83),zz,qz,qb,zp,qa,ql,B0,reduceIte,reduceEqDiff]
   have e219:=qf hx217
   exact hN214 _ _ ⟨(Sep.m7 (Sep.m7 (Sep.m7 (Sep.m7 (Sep.m7 (Sep.m7 (Sep.m7 (Sep.m7 (Sep.dc ((Sep.dc ((Sep.dc ((Sep.dc (hS212)))))))))))))))),by rw [←e219]; simp only [B0,
     reduceIte,reduceEqDiff],f154,f155,f156,f157,f158,f161,f162,f163⟩
  ·rw [iteF hg215] at hx217
   simp only [hg215,qg (g:=83),qv,f161,qj,B0,reduceIte,reduceEqDiff]
   refine qh (v := .agg [v92,v96,v100]) rfl ?_
   simp only [hg215,qg (g:=83),qv,f156,qj,B0,reduceIte,reduceEqDiff]
   refine qh (v := .agg [v36,v40,v44]) rfl ?_
   obtain ⟨v220,hx221,hF222⟩:=qi hx217
   simp only [hg215,qg (g:=83),qv,zb,B0,reduceIte,reduceEqDiff]
   refine jg rfl (qk (kq (qk (SlN.snap hv94 _ (Sep.m8 hS212) rfl Server.RO) (qk (SlF.snap hv98 (Sep.m9 hS212) rfl (fun _=>rfl) (fun _=>rfl)) (qk
     (SlF.snap hv102 (Sep.m10 hS212) rfl (fun _=>rfl) (fun _=>rfl)) zd)))) (qk (kq (qk (SlN.snap hv38 _ (Sep.m4 hS212) rfl Server.RO) (qk
     (SlF.snap hv42 (Sep.m5 hS212) rfl (fun _=>rfl) (fun _=>rfl)) (qk (SlF.snap hv46 (Sep.m6 hS212) rfl (fun _=>rfl) (fun _=>rfl)) zd)))) zd))
     (qdp (fun b hb=>decide_eq_true hb) k v89.1 v33.1 v220 hx221) ?_
   simp only [hg215,qg (g:=83),qv,js,qb,kt,qz,zo,qa,ql,B0,reduceIte,reduceEqDiff]
   have e223:=qf hF222
   exact hN214 _ _ ⟨(Sep.m7 (Sep.m7 (Sep.m7 (Sep.m7 (Sep.m7 (Sep.m7 (Sep.m7 (Sep.m7 (Sep.dc ((Sep.dc ((Sep.dc ((Sep.dc (hS212)))))))))))))))),by rw [←e223]; simp only [B0,
     reduceIte,reduceEqDiff],f154,f155,f156,f157,f158,f161,f162,f163⟩
 rintro fr224 h234 ⟨hS235,f225,f226,f227,f228,f229,f230,f231,f232,f233⟩
 simp only [List.drop_succ_cons,List.drop_zero]
 simp only [f225,qe,B0,reduceIte,reduceEqDiff]
 obtain ⟨v239,hx240,hF241⟩:=qi hF218
 refine jh 5 (fun fr' h'=>Sep h' (geL h.length) (c37++(c41++(c45++(c49++(c93++(c97++(c101++(c105++([])))))))))∧fr' 94 = .bool v239∧fr' 0=lst
   (cL cI) v_0∧fr' 1=lst ElectStep.cells v_1∧fr' 6 = .ref [v36,v40,v44] 0∧fr' 7=v48∧fr' 8 = .bool v33.2.2∧fr' 11 = .ref [v92,v96,
   v100] 0∧fr' 12=v104∧fr' 13 = .bool v89.2.2) (fun Q236 hN237=>?_) ?_
 ·simp only [List.take_succ_cons,List.take_zero]
  simp only [qg (g:=89),B0,reduceIte,reduceEqDiff]
  refine zf (t:=v216) (fun hg238=>?_) (fun hg238=>?_)
  ·rw [iteT hg238] at hx240
   simp only [hg238,qg (g:=89),zz,qz,qb,zp,qa,ql,B0,reduceIte,reduceEqDiff]
   have e242:=qf hx240
   exact hN237 _ _ ⟨(Sep.m7 (Sep.m7 (Sep.m7 (Sep.m7 (Sep.m7 (Sep.m7 (Sep.m7 (Sep.m7 hS235)))))))),by rw [←e242]; simp only [B0,reduceIte,reduceEqDiff],f226,f227,f228,
     f229,f230,f231,f232,f233⟩
  ·rw [iteF hg238] at hx240
   obtain ⟨v243,hx244,hF245⟩:=qi hx240
   simp only [hg238,qg (g:=89),qv,f232,qe,f229,zb,B0,reduceIte,reduceEqDiff]
   refine jg rfl (qk (SlF.snap hv106 (Sep.m7 hS235) rfl (fun _=>rfl) (fun _=>rfl)) (qk (SlF.snap hv50 (Sep.m3 hS235) rfl (fun _=>rfl) (fun _=>rfl)) zd))
     (qfd (fun b hb=>decide_eq_true hb) k v89.2.1 v33.2.1 v243 hx244) ?_
   simp only [hg238,qg (g:=89),qv,js,qb,kt,qz,zo,qa,ql,B0,reduceIte,reduceEqDiff]
   have e246:=qf hF245
   exact hN237 _ _ ⟨(Sep.m7 (Sep.m7 (Sep.m7 (Sep.m7 (Sep.m7 (Sep.m7 (Sep.m7 (Sep.m7 hS235)))))))),by rw [←e246]; simp only [B0,reduceIte,reduceEqDiff],f226,f227,f228,
     f229,f230,f231,f232,f233⟩
 rintro fr247 h257 ⟨hS258,f248,f249,f250,f251,f252,f253,f254,f255,f256⟩
 simp only [List.drop_succ_cons,List.drop_zero]
 simp only [f248,qe,B0,reduceIte,reduceEqDiff]
 refine jh 4 (fun fr' h'=>Sep h' (geL h.length) (c37++(c41++(c45++(c49++(c93++(c97++(c101++(c105++([])))))))))∧fr' 99 = .bool (v239 ||
   (!(v89.2.2 == v33.2.2)))∧fr' 0=lst (cL cI) v_0∧fr' 1=lst ElectStep.cells v_1∧fr' 6 = .ref [v36,v40,
   v44] 0∧fr' 7=v48∧fr' 8 = .bool v33.2.2∧fr' 11 = .ref [v92,v96,v100] 0∧fr' 12=v104) (fun Q259 hN260=>?_) ?_
 ·simp only [List.take_succ_cons,List.take_zero]
  simp only [qg (g:=95),B0,reduceIte,reduceEqDiff]
  refine zf (t:=v239) (fun hg261=>?_) (fun hg261=>?_)
  ·simp only [hg261,qg (g:=95),zz,qz,qb,zp,qa,ql,B0,reduceIte,reduceEqDiff]
   exact hN260 _ _ ⟨(Sep.m7 (Sep.m7 (Sep.m7 (Sep.m7 (Sep.m7 (Sep.m7 (Sep.m7 (Sep.m7 hS258)))))))),by rw [orT hg261]; simp only [B0,reduceIte,reduceEqDiff],f249,f250,f251,
     f252,f253,f254,f255⟩
  ·simp only [hg261,qg (g:=95),qv,f256,qe,f253,qa1,qb,qbz,qz,zo,qa,ql,B0,reduceIte,reduceEqDiff]
   exact hN260 _ _ ⟨(Sep.m7 (Sep.m7 (Sep.m7 (Sep.m7 (Sep.m7 (Sep.m7 (Sep.m7 (Sep.m7 hS258)))))))),by rw [orF hg261]; simp only [B0,reduceIte,reduceEqDiff],f249,f250,f251,
     f252,f253,f254,f255⟩
 rintro fr262 h271 ⟨hS272,f263,f264,f265,f266,f267,f268,f269,f270⟩
 simp only [List.drop_succ_cons,List.drop_zero]
 simp only [qa,f263,qr,B0,reduceIte,reduceEqDiff]
 refine qq (t:=(v239||(!(v89.2.2 == v33.2.2)))) (fun hc273=>?_) (fun hc273=>?_)
 ·rw [iteT hc273] at hF241
  simp only [qd,qc,qe,qa,qs,B0,reduceIte,reduceEqDiff]
  have he:=qf hF241
  subst he
  simp only [qw,B0,reduceIte,reduceEqDiff]
  exact rfl
 rw [iteF hc273] at hF241
 simp only [qt,q1e,qd,qc,qe,qa,q7v,f269,qj,B0,reduceIte,reduceEqDiff]
 refine qh (v := .agg [v92,v96,v100]) rfl ?_
 obtain ⟨v274,hx275,hF276⟩:=qi hF241
 simp only [qe,zb,B0,reduceIte,reduceEqDiff]
 refine x3 rfl (qis hW k v89.1 v92 c93 hv94 v96 c97 hv98 v100 c101 hv102 1 v274 hx275 (Sep.m6 (Sep.m6 (Sep.m6 hS272)))) ?_
 rintro _ h283 ⟨c277,c279,c281,rfl,hv278,hv280,hv282,hS284⟩
 obtain ⟨v285,hx286,hF287⟩:=qi hF276
 simp only [qe,qa,qzk,qd,qc,f270,zb,B0,reduceIte,reduceEqDiff]
 refine x3 rfl (qkl hW k v104 c105 v89.2.1 hv106 v274.1 v285 hx286 (Sep.m7 hS284)) ?_
 rintro _ h290 ⟨c288,rfl,hv289,hS291⟩
 simp only [qe,qa,q6i,qd,qc,q7i,f269,qj,B0,reduceIte,reduceEqDiff]
 refine qh (v := .agg [v92,v96,v100]) rfl ?_
 obtain ⟨v292,hx293,hF294⟩:=qi hF287
 simp only [qe,zb,B0,reduceIte,reduceEqDiff]
 refine jg rfl (qk (kq (qk (SlN.snap hv278 _ (Sep.m1 hS291) rfl Server.RO) (qk (SlF.snap hv280 (Sep.m2 hS291) rfl (fun _=>rfl) (fun _=>rfl)) (qk
   (SlF.snap hv282 (Sep.m3 hS291) rfl (fun _=>rfl) (fun _=>rfl)) zd)))) (qk za zd)) (qeu
   (fun b hb=>decide_eq_true hb) k v274.2 1 v292 hx293) ?_
 simp only [qe,qa,qzb,qd,qc,qm,qb,kr,qr,B0,reduceIte,reduceEqDiff]
 refine qq (t:=(decide (v292<0))) (fun hc295=>?_) (fun hc295=>?_)
 ·rw [iteT hc295] at hF294
  simp only [qd,qc,qe,qa,qs,B0,reduceIte,reduceEqDiff]
  have he:=qf hF294
  subst he
  simp only [qw,B0,reduceIte,reduceEqDiff]
  exact rfl
 rw [iteF hc295] at hF294
 obtain ⟨v296,hx297,hF298⟩:=qi hF294
 simp only [qt,q5q,qd,qc,f270,qe,zb,B0,reduceIte,reduceEqDiff]
 refine jg rfl (qk (SlF.snap hv289 hS291 rfl (fun _=>rfl) (fun _=>rfl)) (qk za zd)) (qgk
   (fun b hb=>decide_eq_true hb) k v285.2 v292 v296 hx297) ?_
 simp only [qe,qa,q2e,qd,qc,qm,qb,kr,qr,B0,reduceIte,reduceEqDiff]
 refine qq (t:=(decide (v296<0))) (fun hc299=>?_) (fun hc299=>?_)
 ·rw [iteT hc299] at hF298
  simp only [qd,qc,qe,qa,qs,B0,reduceIte,reduceEqDiff]
  have he:=qf hF298
  subst he
  simp only [qw,B0,reduceIte,reduceEqDiff]
  exact rfl
 rw [iteF hc299] at hF298
 simp only [qt,q88,qd,qc,qe,qm,qb,yq,qa,qr,B0,reduceIte,reduceEqDiff]
 refine qq (t:=(decide (v296≠v285.1))) (fun hc300=>?_) (fun hc300=>?_)
 ·rw [iteT hc300] at hF298
  simp only [qd,qc,qe,qa,qs,B0,reduceIte,reduceEqDiff]
  have he:=qf hF298
  subst he
  simp only [qw,B0,reduceIte,reduceEqDiff]
  exact rfl
 rw [iteF hc300] at hF298
 obtain ⟨v301,hx302,hF303⟩:=qi hF298
 simp only [qt,q9n,qd,qc,f264,qe,zb,B0,reduceIte,reduceEqDiff]
 refine qba rfl hS291 (qk zx zd) (qdm (fun b hb=>decide_eq_true hb) k v_0 v301 hx302) ?_
 rintro v304 h308 ⟨_,c305,rfl,hv306,hS309⟩
 refine ⟨_,qeo (SlN.free1 hv306),hS309,(j0 (SlN.pf hv306 RL44O) xv),fun h310 hS311=>?_⟩
 have hS312:Sep h310 (geL h.length) (c305++(c288++(c277++(c279++(c281++(c37++(c41++(c45++(c49++([])))))))))):=by simpa only [List.append_assoc,
   List.nil_append] using hS311
 obtain ⟨v313,hx314,hF315⟩:=qi hF303
 simp only [f265,qe,zb,B0,reduceIte,reduceEqDiff]
 refine qba rfl hS312 (qk zx zd) (qaq (fun b hb=>decide_eq_true hb) k v_1 v313 hx314) ?_
 rintro v316 h320 ⟨_,c317,rfl,hv318,hS321⟩
 refine ⟨_,qeo (SlF.free1 hv318),hS321,(j0 (SlF.pf hv318 (fun _=>rfl)) xv),fun h322 hS323=>?_⟩
 have hS324:Sep h322 (geL h.length) (c317++(c305++(c288++(c277++(c279++(c281++(c37++(c41++(c45++(c49++([]))))))))))):=by simpa only [List.append_assoc,
   List.nil_append] using hS323
 obtain ⟨v325,hx326,hF327⟩:=qi hF315
 simp only [zb,B0,reduceIte,reduceEqDiff]
 refine qba rfl hS324 (qk (SlN.snap hv306 _ (Sep.m1 hS324) rfl RL44O) (qk (SlF.snap hv318 hS324 rfl (fun _=>rfl) (fun _=>rfl)) zd)) (qey
   (fun b hb=>decide_eq_true hb) k v301 v313 v325 hx326) ?_
 rintro _ h344 ⟨v328,c329,v332,c333,v336,c337,v340,c341,rfl,hv330,hv334,hv338,hv342,hS345⟩
 refine ⟨_,qh1 (qo (qgg (qo (SlN.free1 hv330) (qo (SlF.free1 hv334) (qo (SlF.free1 hv338) zn)))) (qo (qln (SlF.free1 hv342)) (qo rfl zn))),
   hS345,(j0 (SlN.pf hv330 Server.RO) (j0 (SlF.pf hv334 (fun _=>rfl)) (j0 (SlF.pf hv338 (fun _=>rfl)) (j0 (SlF.pf hv342 (fun _=>rfl)) xv)))),
   fun h346 hS347=>?_⟩
 have hS348:Sep h346 (geL h.length) (c329++(c333++(c337++(c341++(c317++(c305++(c288++(c277++(c279++(c281++(c37++(c41++(c45++(c49 ++
   ([]))))))))))))))):=by simpa only [List.append_assoc,List.nil_append] using hS347
 simp only [qe,qfa,qb,qep,qen,qoq,jv,B0,reduceIte,reduceEqDiff]
 refine jb hS348 (fun b349 h350 hS351=>?_)
 simp only [ze,B0,reduceIte,reduceEqDiff]
 refine zc (us:=[v328,v332,v336]) rfl (cs':=[v328,v332,
   v336]) hS351 hW rfl (qo (SlN.one hv330) (qo (SlF.one hv334) (qo (SlF.one hv338) zn))) (Nat.le_of_ble_eq_true rfl) rfl (fun h353 hS354=>?_)
 simp only [qe,qa,B0,reduceIte,reduceEqDiff]
 refine jd hS354 hW (by simp only [B0,reduceIte,reduceEqDiff]) (fun h355 hS356=>?_)
 simp only [jc,za6,qd,qc,qj,B0,reduceIte,reduceEqDiff]
 refine qh (v := .agg [v328,v332,v336]) rfl ?_
 simp only [f266,qj,B0,reduceIte,reduceEqDiff]
 refine qh (v := .agg [v36,v40,v44]) rfl ?_
 obtain ⟨v357,hx358,hF359⟩:=qi hF327
 simp only [zb,B0,reduceIte,reduceEqDiff]
 refine jg rfl (qk (kq (qk (SlN.snap hv330 _ hS356 rfl Server.RO) (qk (SlF.snap hv334 (Sep.m1 hS356) rfl (fun _=>rfl) (fun _=>rfl)) (qk (SlF.snap hv338
   (Sep.m2 hS356) rfl (fun _=>rfl) (fun _=>rfl)) zd)))) (qk (kq (qk (SlN.snap hv38 _ (Sep.m10 hS356) rfl Server.RO) (qk (SlF.snap hv42
   (Sep.m11 hS356) rfl (fun _=>rfl) (fun _=>rfl)) (qk (SlF.snap hv46 (Sep.m12 hS356) rfl (fun _=>rfl) (fun _=>rfl)) zd)))) zd)) (qdp
   (fun b hb=>decide_eq_true hb) k v325.1 v33.1 v357 hx358) ?_
 simp only [js,qb,kt,qe,B0,reduceIte,reduceEqDiff]
 obtain ⟨v363,hx364,hF365⟩:=qi hF359
 refine jh 5 (fun fr' h'=>Sep h' (geL h.length) (c277++(c279++(c281++(c288++([])))))∧fr' 137 = .bool v363∧fr' 8 = .bool v33.2.2∧fr' 11 = .ref [v92,v96,
   v100] 0∧fr' 12=v104∧fr' 15 = .int .i64 v285.1∧fr' 19 = .bool v325.2.2) (fun Q360 hN361=>?_) ?_
 ·simp only [List.take_succ_cons,List.take_zero]
  simp only [qg (g:=132),B0,reduceIte,reduceEqDiff]
  refine zf (t:=(!v357)) (fun hg362=>?_) (fun hg362=>?_)
  ·rw [iteT hg362] at hx364
   simp only [hg362,qg (g:=132),zz,qz,qb,zp,qa,ql,B0,reduceIte,reduceEqDiff]
   have e366:=qf hx364
   exact hN361 _ _ ⟨(Sep.m3 (Sep.m3 (Sep.m3 (Sep.dc (Sep.m4 (Sep.dc (Sep.m4 (Sep.dc (Sep.m4 (Sep.dc (Sep.m4 (Sep.dc ((Sep.dc ((Sep.dc ((Sep.dc ((Sep.dc ((Sep.dc
     (hS356))))))))))))))))))))))),by rw [←e366]; simp only [B0,reduceIte,reduceEqDiff],f268,f269,f270,rfl,rfl⟩
  ·rw [iteF hg362] at hx364
   obtain ⟨v367,hx368,hF369⟩:=qi hx364
   simp only [hg362,qg (g:=132),qv,qe,f267,zb,B0,reduceIte,reduceEqDiff]
   refine jg rfl (qk (SlF.snap hv342 (Sep.m3 hS356) rfl (fun _=>rfl) (fun _=>rfl)) (qk (SlF.snap hv50 (Sep.m13 hS356) rfl (fun _=>rfl) (fun _=>rfl)) zd))
     (qfd (fun b hb=>decide_eq_true hb) k v325.2.1 v33.2.1 v367 hx368) ?_
   simp only [hg362,qg (g:=132),qv,js,qb,kt,qz,zo,qa,ql,B0,reduceIte,reduceEqDiff]
   have e370:=qf hF369
   exact hN361 _ _ ⟨(Sep.m3 (Sep.m3 (Sep.m3 (Sep.dc (Sep.m4 (Sep.dc (Sep.m4 (Sep.dc (Sep.m4 (Sep.dc (Sep.m4 (Sep.dc ((Sep.dc ((Sep.dc ((Sep.dc ((Sep.dc ((Sep.dc
     (hS356))))))))))))))))))))))),by rw [←e370]; simp only [B0,reduceIte,reduceEqDiff],f268,f269,f270,rfl,rfl⟩
 rintro fr371 h378 ⟨hS379,f372,f373,f374,f375,f376,f377⟩
 simp only [List.drop_succ_cons,List.drop_zero]
 simp only [f372,qe,B0,reduceIte,reduceEqDiff]
 refine jh 4 (fun fr' h'=>Sep h' (geL h.length) (c277++(c279++(c281++(c288++([])))))∧fr' 142 = .bool (v363||(!(v325.2.2 == v33.2.2)))∧fr' 11 = .ref [v92,v96,
   v100] 0∧fr' 12=v104∧fr' 15 = .int .i64 v285.1) (fun Q380 hN381=>?_) ?_
 ·simp only [List.take_succ_cons,List.take_zero]
  simp only [qg (g:=138),B0,reduceIte,reduceEqDiff]
  refine zf (t:=v363) (fun hg382=>?_) (fun hg382=>?_)
  ·simp only [hg382,qg (g:=138),zz,qz,qb,zp,qa,ql,B0,reduceIte,reduceEqDiff]
   exact hN381 _ _ ⟨(Sep.m3 (Sep.m3 (Sep.m3 (Sep.m3 hS379)))),by rw [orT hg382]; simp only [B0,reduceIte,reduceEqDiff],f374,f375,f376⟩
  ·simp only [hg382,qg (g:=138),qv,f377,qe,f373,qa1,qb,qbz,qz,zo,qa,ql,B0,reduceIte,reduceEqDiff]
   exact hN381 _ _ ⟨(Sep.m3 (Sep.m3 (Sep.m3 (Sep.m3 hS379)))),by rw [orF hg382]; simp only [B0,reduceIte,reduceEqDiff],f374,f375,f376⟩
 rintro fr383 h388 ⟨hS389,f384,f385,f386,f387⟩
 simp only [List.drop_succ_cons,List.drop_zero]
 simp only [qa,f384,qr,B0,reduceIte,reduceEqDiff]
 refine qq (t:=(v363||(!(v325.2.2 == v33.2.2)))) (fun hc390=>?_) (fun hc390=>?_)
 ·rw [iteT hc390] at hF365
  simp only [qd,qc,qe,qa,qs,B0,reduceIte,reduceEqDiff]
  have he:=qf hF365
  subst he
  simp only [qw,B0,reduceIte,reduceEqDiff]
  exact rfl
 rw [iteF hc390] at hF365
 simp only [qt,q87,qd,qc,qe,qa,q9u,f385,qj,B0,reduceIte,reduceEqDiff]
 refine qh (v := .agg [v92,v96,v100]) rfl ?_
 obtain ⟨v391,hx392,hF393⟩:=qi hF365
 simp only [qe,zb,B0,reduceIte,reduceEqDiff]
 refine jg rfl (qk (kq (qk (SlN.snap hv278 _ hS389 rfl Server.RO) (qk (SlF.snap hv280 (Sep.m1 hS389) rfl (fun _=>rfl) (fun _=>rfl)) (qk (SlF.snap hv282
   (Sep.m2 hS389) rfl (fun _=>rfl) (fun _=>rfl)) zd)))) (qk za zd)) (qeu (fun b hb=>decide_eq_true hb) k v274.2 1 v391 hx392) ?_
 simp only [qe,qa,za1,qd,qc,qm,qb,kr,qr,B0,reduceIte,reduceEqDiff]
 refine qq (t:=(decide (v391<0))) (fun hc394=>?_) (fun hc394=>?_)
 ·rw [iteT hc394] at hF393
  simp only [qd,qc,qe,qa,qs,B0,reduceIte,reduceEqDiff]
  have he:=qf hF393
  subst he
  simp only [qw,B0,reduceIte,reduceEqDiff]
  exact rfl
 rw [iteF hc394] at hF393
 obtain ⟨v395,hx396,hF397⟩:=qi hF393
 simp only [qt,q86,qd,qc,f386,qe,zb,B0,reduceIte,reduceEqDiff]
 refine jg rfl (qk (SlF.snap hv289 (Sep.m3 hS389) rfl (fun _=>rfl) (fun _=>rfl)) (qk za zd)) (qgk
   (fun b hb=>decide_eq_true hb) k v285.2 v391 v395 hx396) ?_
 simp only [qe,qa,q9x,qd,qc,qm,qb,kr,qr,B0,reduceIte,reduceEqDiff]
 refine qq (t:=(decide (v395<0))) (fun hc398=>?_) (fun hc398=>?_)
 ·rw [iteT hc398] at hF397
  simp only [qd,qc,qe,qa,qs,B0,reduceIte,reduceEqDiff]
  have he:=qf hF397
  subst he
  simp only [qw,B0,reduceIte,reduceEqDiff]
  exact rfl
 rw [iteF hc398] at hF397
 simp only [qt,za2,qd,qc,qe,f387,qm,qb,yq,qa,qr,B0,reduceIte,reduceEqDiff]
 refine qq (t:=(decide (v395≠v285.1))) (fun hc399=>?_) (fun hc399=>?_)
 ·rw [iteT hc399] at hF397
  simp only [qd,qc,qe,qa,qs,B0,reduceIte,reduceEqDiff]
  have he:=qf hF397
  subst he
  simp only [qw,B0,reduceIte,reduceEqDiff]
  exact rfl
 rw [iteF hc399] at hF397
 simp only [qt,qd,qc,qe,qa,qs,B0,reduceIte,reduceEqDiff]
 have he:=qf hF397
 subst he
 simp only [qw,B0,reduceIte,reduceEqDiff]
 exact rfl
end Go.Proofs.Ytpddolihbnfahaa.X
