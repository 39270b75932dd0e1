/- Running X's code: what must hold so that it comes to an end as asked. -/
import Derived.Test.YtanblnjomhgphaaZM2
set_option linter.unusedVariables false
set_option linter.unusedSimpArgs false
namespace Go.Proofs.Ytanblnjomhgphaa.X
open Go

abbrev QE:=XE→Fr→Heap→Prop

def Ret (E:Env)(W:Nat→Bool)(f:Nat)(args:List XV)(h:Heap)(Q:XV→Heap→Prop) : Prop :=
 ∃ N v h',Q v h'∧∀ n,N≤n→xu E n W f args h=some (v,h')

def CutQ (E:Env)(keep:Bool)(h:Heap)(Q:XV→Heap→Prop) : XV→Heap→Prop:=fun v h'=>∃ u,cut h.length h' E.sz keep 9 v=some u∧Q u h
def NewQ (h:Heap)(Q:XV→Heap→Prop) : XV→Heap→Prop:=fun v h'=>v.free=true∧Q v (purge h.length h')

def CallW (E:Env)(W:Nat→Bool)(f:XV)(args:List XV)(h:Heap)(Q:XV→Heap→Prop) : Prop :=
 match f with
 | .fn g caps =>
  match E.mode g with
  | 1=>(match args.mapM (snap h E.sz 9) with
   | some as'=>Ret E (fun b=>decide (h.length≤b)) g (as'++caps) h (CutQ E false h Q)
   | none=>False)
  | 2=>(match args.mapM (snap h E.sz 9) with
   | some as'=>Ret E (fun b=>decide (h.length≤b)) g (as'++caps) h (NewQ h Q)
   | none=>False)
  | 3=>Ret E (fun b=>W b&&decide (h.length≤b)) g (args++caps) h (CutQ E true h Q)
  | _=>Ret E W g (args++caps) h Q
 | _=>False

def OpW (E:Env)(W:Nat→Bool)(ev:XO→XV)(h:Heap)(op:XOp)(Q:XV→Heap→Prop) : Prop :=
 match op with
 | .call f args=>CallW E W (ev f) (args.map ev) h Q
 | op=>match ze W ev h op with
  | some (v,h')=>Q v h'
  | none=>False

def WO (E:Env)(W:Nat→Bool) : List XOper→(Fr→Heap→Prop)→Fr→Heap→Prop
 | [],Q,fr,h=>Q fr h
 | ⟨d,op,none,_⟩::r,Q,fr,h=>OpW E W (XO.ev fr) h op (fun v h'=>WO E W r Q (fr.put d v) h')
 | ⟨d,op,some (g,want),_⟩::r,Q,fr,h=>match fr g with
  | .bool b=>if b=want then OpW E W (XO.ev fr) h op (fun v h'=>WO E W r Q (fr.put d v) h') else WO E W r Q (fr.put d (.tup [])) h
  | .tup _=>WO E W r Q (fr.put d (.tup [])) h
  | _=>False

def OpD (E:Env)(W:Nat→Bool)(hs:Nat)(op:XOp)(cls:Nat)(ld wr:List Nat)(ev:XO→XV)(h:Heap)(Q:List Nat→List Nat→XV→Heap→Prop) : Prop :=
 if cls=1 then (kh ev op).all (fun b=>decide (b<hs))=true∧yg (kh ev op) wr=true∧(match ze (fun _=>false) ev h op with
  | some (v,h')=>Q (kh ev op++ld) wr v h'
  | none=>False)
 else if cls=4 then (match ze (fun _=>false) ev h op with
  | some (v,h')=>Q ld wr v h'
  | none=>False)
 else if cls=2 then yg (wt E ev op) ld=true∧OpW E (w7 W hs (wt E ev op)) ev h op (fun v h'=>Q ld (wt E ev op++wr) v h')
 else if cls=3 then OpW E W ev h op (fun v h'=>Q ld wr v h')
 else if cls=5 then yg (qix hs ld) ld=true∧OpW E (w7 W hs (qix hs ld)) ev h op (fun v h'=>Q ld (qix hs ld++wr) v h')
 else False

def WD (E:Env)(W:Nat→Bool)(hs:Nat) : List XOper→List Nat→List Nat→(Fr→Heap→Prop)→Fr→Heap→Prop
 | [],_,_,Q,fr,h=>Q fr h
 | ⟨d,op,none,cls⟩::r,ld,wr,Q,fr,h=>OpD E W hs op cls ld wr (XO.ev fr) h (fun ld' wr' v h'=>WD E W hs r ld' wr' Q (fr.put d v) h')
 | ⟨d,op,some (g,want),cls⟩::r,ld,wr,Q,fr,h=>match fr g with
  | .bool b=>if b=want then OpD E W hs op cls ld wr (XO.ev fr) h (fun ld' wr' v h'=>WD E W hs r ld' wr' Q (fr.put d v) h') else WD E W hs r ld wr Q (fr.put d (.tup [])) h
  | .tup _=>WD E W hs r ld wr Q (fr.put d (.tup [])) h
  | _=>False

def rounds (B:QE→Fr→Heap→Prop)(keep:List Nat)(Q:QE) : Nat→Fr→Heap→Prop
 | 0,_,_=>False
 | k+1,fr,h=>B (fun e fr h=>match e with | .normal=>rounds B keep Q k fr h | e=>Q e fr h) (kv keep fr) h

def WC (E:Env)(W:Nat→Bool) : XCode→QE→Fr→Heap→Prop
 | .skip,Q,fr,h=>Q .normal fr h
 | .ret,Q,fr,h=>Q .ret fr h
 | .exit id,Q,fr,h=>Q (.exit id) fr h
 | .seq a b,Q,fr,h=>WC E W a (fun e fr h=>match e with | .normal=>WC E W b Q fr h | e=>Q e fr h) fr h
 | .cond c a b,Q,fr,h=>match c.ev fr with
  | .bool t=>if t then WC E W a Q fr h else WC E W b Q fr h
  | _=>False
 | .block id c,Q,fr,h=>WC E W c (fun e fr h=>match e with | .exit i=>if i=id then Q .normal fr h else Q (.exit i) fr h | e=>Q e fr h) fr h
 | .loop keep c,Q,fr,h=>∃ k,rounds (fun Q fr h=>WC E W c Q fr h) keep Q k fr h
 | .reg false ops,Q,fr,h=>WO E W ops (fun fr h=>Q .normal fr h) fr h
 | .reg true ops,Q,fr,h=>WD E W h.length ops [] [] (fun fr h=>Q .normal fr h) fr h
 | .frz ts,Q,fr,h=>match qik W ts fr h with
  | some (fr',h')=>Q .normal fr' h'
  | none=>False

section
variable {E:Env}{W:Nat→Bool}

theorem OpW.met {ev:XO→XV}{h:Heap}{op:XOp}{Q:XV→Heap→Prop}(H:OpW E W ev h op Q) : ∃ N v h',Q v h'∧∀ n,N≤n→xop E (xu E n) W ev h op=some (v,h'):=by
 have pure:∀ {op:XOp},(match ze W ev h op with | some (v,h')=>Q v h' | none=>False)→∃ (N:Nat) (v:XV) (h':Heap),Q v h'∧∀ n:Nat,N≤n→ze W ev h op=some (v,h'):=by
  intro op H
  split at H
  ·exact ⟨0,_,_,H,fun n _=>by assumption⟩
  ·cases H
 cases hop:op
 case call f args =>
  rw [hop] at H
  simp only [OpW,CallW] at H
  simp only [xop,qgb]
  split at H
  ·rename_i g caps hg
   simp only [hg]
   split at H
   ·rename_i hm
    simp only [hm]
    split at H
    ·rename_i as' has
     obtain ⟨N,v,h',⟨u,h1,h2⟩,h3⟩:=H
     refine ⟨N,u,h,h2,fun n hn=>?_⟩
     rw [has]
     dsimp only
     rw [h3 n hn]
     dsimp only
     rw [h1]
    ·cases H
   ·rename_i hm
    simp only [hm]
    split at H
    ·rename_i as' has
     obtain ⟨N,v,h',⟨h1,h2⟩,h3⟩:=H
     refine ⟨N,v,_,h2,fun n hn=>?_⟩
     rw [has]
     dsimp only
     rw [h3 n hn]
     dsimp only
     rw [if_pos h1]
    ·cases H
   ·rename_i hm
    simp only [hm]
    obtain ⟨N,v,h',⟨u,h1,h2⟩,h3⟩:=H
    refine ⟨N,u,h,h2,fun n hn=>?_⟩
    rw [h3 n hn]
    dsimp only
    rw [h1]
   ·rename_i h1 h2 h3
    obtain ⟨N,v,h',h4,h5⟩:=H
    refine ⟨N,v,h',h4,fun n hn=>?_⟩
    split
    ·rename_i hm; exact absurd hm h1
    ·rename_i hm; exact absurd hm h2
    ·rename_i hm; exact absurd hm h3
    ·exact h5 n hn
  ·cases H
 all_goals (rw [hop] at H; obtain ⟨N,v,h',h1,h2⟩:=pure (op:=op) (by rw [hop]; exact H); rw [hop] at h2; exact ⟨N,v,h',h1,h2⟩)

theorem WO.met:∀ {xs:List XOper} {Q:Fr→Heap→Prop} {fr:Fr} {h:Heap},WO E W xs Q fr h→∃ N fr' h',Q fr' h'∧∀ n,N≤n→qex E (xu E n) W xs fr h=some (fr',h'):=by
 intro xs
 induction xs with
 | nil=>intro Q fr h H; exact ⟨0,fr,h,H,fun n _=>rfl⟩
 | cons o r ih =>
  intro Q fr h H
  obtain ⟨d,op,g,cls⟩:=o
  have go:OpW E W (XO.ev fr) h op (fun v h'=>WO E W r Q (fr.put d v) h')→∃ N fr' h',Q fr' h'∧∀ n,N≤n→(match xop E (xu E n) W (XO.ev fr) h op with
    | some (v,h')=>qex E (xu E n) W r (fr.put d v) h'
    | none=>none)=some (fr',h'):=by
   intro H
   obtain ⟨N,v,h',h1,h2⟩:=H.met
   obtain ⟨N2,fr2,h2',h3,h4⟩:=ih h1
   exact ⟨max N N2,fr2,h2',h3,fun n hn=>by rw [h2 n (by omega)]; exact h4 n (by omega)⟩
  cases g with
  | none=>exact go H
  | some gw =>
   obtain ⟨g,want⟩:=gw
   simp only [WO] at H
   simp only [qex]
   split at H
   ·rename_i b hb
    simp only [hb]
    split at H
    ·rename_i hbw
     simp only [hbw,if_true]
     exact go H
    ·rename_i hbw
     simp only [hbw,if_false]
     exact ih H
   ·rename_i vs hb
    simp only [hb]
    exact ih H
   ·cases H

theorem OpD.met {hs:Nat}{o:XOper}{ld wr:List Nat}{fr:Fr}{h:Heap}{Q:List Nat→List Nat→XV→Heap→Prop}(H:OpD E W hs o.op o.cls ld wr (XO.ev fr) h Q) :
  ∃ N ld' wr' v h',Q ld' wr' v h'∧∀ n,N≤n→qdq E (xu E n) W hs o ld wr fr h=some (ld',wr',v,h'):=by
 unfold OpD at H
 unfold qdq
 split at H
 ·rename_i hc
  obtain ⟨h1,h2,h3⟩:=H
  split at h3
  ·rename_i v h' hx
   refine ⟨0,_,_,v,h',h3,fun n _=>?_⟩
   rw [if_pos hc,if_pos ⟨h1,h2⟩,hx]
  ·cases h3
 ·rename_i hc1
  split at H
  ·rename_i hc
   split at H
   ·rename_i v h' hx
    refine ⟨0,_,_,v,h',H,fun n _=>?_⟩
    rw [if_neg hc1,if_pos hc,hx]
   ·cases H
  ·rename_i hc4
   split at H
   ·rename_i hc
    obtain ⟨h1,h2⟩:=H
    obtain ⟨N,v,h',h3,h4⟩:=h2.met
    refine ⟨N,_,_,v,h',h3,fun n hn=>?_⟩
    rw [if_neg hc1,if_neg hc4,if_pos hc,if_pos h1,h4 n hn]
   ·rename_i hc2
    split at H
    ·rename_i hc
     obtain ⟨N,v,h',h3,h4⟩:=H.met
     refine ⟨N,_,_,v,h',h3,fun n hn=>?_⟩
     rw [if_neg hc1,if_neg hc4,if_neg hc2,if_pos hc,h4 n hn]
    ·rename_i hc3
     split at H
     ·rename_i hc
      obtain ⟨h1,h2⟩:=H
      obtain ⟨N,v,h',h3,h4⟩:=h2.met
      refine ⟨N,_,_,v,h',h3,fun n hn=>?_⟩
      rw [if_neg hc1,if_neg hc4,if_neg hc2,if_neg hc3,if_pos hc,if_pos h1,h4 n hn]
     ·cases H

theorem WD.met {hs:Nat} : ∀ {xs:List XOper} {ld wr:List Nat} {Q:Fr→Heap→Prop} {fr:Fr} {h:Heap},WD E W hs xs ld wr Q fr h→∃ N fr' h',Q fr' h'∧∀ n,N≤n→qdi E (xu E n) W hs xs ld wr fr h=some (fr',h'):=by
 intro xs
 induction xs with
 | nil=>intro ld wr Q fr h H; exact ⟨0,fr,h,H,fun n _=>rfl⟩
 | cons o r ih =>
  intro ld wr Q fr h H
  obtain ⟨d,op,g,cls⟩:=o
  have go:∀ {g:Option (Nat × Bool)},OpD E W hs op cls ld wr (XO.ev fr) h (fun ld' wr' v h'=>WD E W hs r ld' wr' Q (fr.put d v) h')→∃ N fr' h',Q fr' h'∧∀ n,N≤n→(match qdq E (xu E n) W hs ⟨d,op,g,cls⟩ ld wr fr h with
    | some (ld',wr',v,h')=>qdi E (xu E n) W hs r ld' wr' (fr.put d v) h'
    | none=>none)=some (fr',h'):=by
   intro g H
   obtain ⟨N,ld',wr',v,h',h1,h2⟩:=OpD.met (o:=⟨d,op,g,cls⟩) H
   obtain ⟨N2,fr2,h2',h3,h4⟩:=ih h1
   exact ⟨max N N2,fr2,h2',h3,fun n hn=>by rw [h2 n (by omega)]; exact h4 n (by omega)⟩
  cases g with
  | none=>exact go H
  | some gw =>
   obtain ⟨g,want⟩:=gw
   simp only [WD] at H
   simp only [qdi]
   split at H
   ·rename_i b hb
    simp only [hb]
    split at H
    ·rename_i hbw
     simp only [hbw,if_true]
     exact go H
    ·rename_i hbw
     simp only [hbw,if_false]
     exact ih H
   ·rename_i vs hb
    simp only [hb]
    exact ih H
   ·cases H

theorem WC.met:∀ (c:XCode) {Q:QE} {fr:Fr} {h:Heap},WC E W c Q fr h→∃ N e fr' h',Q e fr' h'∧∀ n,N≤n→jz E (xu E n) n W c fr h=some (e,fr',h'):=by
 intro c
 induction c with
 | skip=>intro Q fr h H; exact ⟨0,_,_,_,H,fun n _=>rfl⟩
 | ret=>intro Q fr h H; exact ⟨0,_,_,_,H,fun n _=>rfl⟩
 | exit id=>intro Q fr h H; exact ⟨0,_,_,_,H,fun n _=>rfl⟩
 | seq a b iha ihb =>
  intro Q fr h H
  obtain ⟨N,e,fr1,h1,h2,h3⟩:=iha H
  cases e with
  | normal =>
   obtain ⟨N2,e2,fr2,h2',h4,h5⟩:=ihb h2
   exact ⟨max N N2,e2,fr2,h2',h4,fun n hn=>by simp only [jz]; rw [h3 n (by omega)]; exact h5 n (by omega)⟩
  | ret=>exact ⟨N,_,_,_,h2,fun n hn=>by simp only [jz]; rw [h3 n hn]⟩
  | exit id=>exact ⟨N,_,_,_,h2,fun n hn=>by simp only [jz]; rw [h3 n hn]⟩
 | cond c a b iha ihb =>
  intro Q fr h H
  simp only [WC] at H
  simp only [jz]
  split at H
  ·rename_i t ht
   simp only [ht]
   cases t with
   | true=>exact iha H
   | false=>exact ihb H
  ·cases H
 | block id c ih =>
  intro Q fr h H
  obtain ⟨N,e,fr1,h1,h2,h3⟩:=ih H
  cases e with
  | normal=>exact ⟨N,_,_,_,h2,fun n hn=>by simp only [jz]; rw [h3 n hn]⟩
  | ret=>exact ⟨N,_,_,_,h2,fun n hn=>by simp only [jz]; rw [h3 n hn]⟩
  | exit i =>
   dsimp only at h2
   by_cases hi:i=id
   ·rw [if_pos hi] at h2
    exact ⟨N,_,_,_,h2,fun n hn=>by simp only [jz]; rw [h3 n hn]; simp only [hi,if_true]⟩
   ·rw [if_neg hi] at h2
    exact ⟨N,_,_,_,h2,fun n hn=>by simp only [jz]; rw [h3 n hn]; simp only [hi,if_false]⟩
 | loop keep c ih =>
  intro Q fr h H
  obtain ⟨k,H⟩:=H
  have key:∀ (k:Nat) {fr:Fr} {h:Heap},rounds (fun Q fr h=>WC E W c Q fr h) keep Q k fr h→∃ N e fr' h',Q e fr' h'∧∀ n,N≤n→∀ j,N≤j→qeo (jz E (xu E n) n W c) keep j fr h=some (e,fr',h'):=by
   intro k
   induction k with
   | zero=>intro fr h H; cases H
   | succ k ihk =>
    intro fr h H
    obtain ⟨N,e,fr1,h1,h2,h3⟩:=ih H
    cases e with
    | normal =>
     obtain ⟨N2,e2,fr2,h2',h4,h5⟩:=ihk h2
     refine ⟨max N N2+1,e2,fr2,h2',h4,fun n hn j hj=>?_⟩
     obtain ⟨j,rfl⟩ : ∃ i,j=i+1:=⟨j - 1,by omega⟩
     simp only [qeo]
     rw [h3 n (by omega)]
     exact h5 n (by omega) j (by omega)
    | ret =>
     refine ⟨N+1,_,_,_,h2,fun n hn j hj=>?_⟩
     obtain ⟨j,rfl⟩ : ∃ i,j=i+1:=⟨j - 1,by omega⟩
     simp only [qeo]
     rw [h3 n (by omega)]
    | exit id =>
     refine ⟨N+1,_,_,_,h2,fun n hn j hj=>?_⟩
     obtain ⟨j,rfl⟩ : ∃ i,j=i+1:=⟨j - 1,by omega⟩
     simp only [qeo]
     rw [h3 n (by omega)]
  obtain ⟨N,e,fr1,h1,h2,h3⟩:=key k H
  exact ⟨N,e,fr1,h1,h2,fun n hn=>by simp only [jz]; exact h3 n hn n hn⟩
 | frz ts =>
  intro Q fr h H
  simp only [WC] at H
  simp only [jz]
  split at H
  ·rename_i fr' h' hx
   exact ⟨0,_,_,_,H,fun n hn=>by rw [hx]⟩
  ·cases H
 | reg d ops =>
  intro Q fr h H
  cases d with
  | false =>
   obtain ⟨N,fr1,h1,h2,h3⟩:=WO.met H
   exact ⟨N,_,_,_,h2,fun n hn=>by simp only [jz]; rw [h3 n hn]⟩
  | true =>
   obtain ⟨N,fr1,h1,h2,h3⟩:=WD.met H
   exact ⟨N,_,_,_,h2,fun n hn=>by simp only [jz]; rw [h3 n hn]⟩

def EndW (rs:List XRes)(Q:XV→Heap→Prop) : QE:=fun e fr h =>
 match e with
 | .exit _=>False
 | _=>match qdu rs fr h with
  | some v=>Q v h
  | none=>False

theorem Ret.of {f:Nat}{fn:XFn}(hf:E.fns f=some fn){args:List XV}{h:Heap}{Q:XV→Heap→Prop}(H:WC E W fn.code (EndW fn.results Q) (zk args) h) : Ret E W f args h Q:=by
 obtain ⟨N,e,fr1,h1,h2,h3⟩:=WC.met _ H
 unfold EndW at h2
 have key:∀ {ex:XE},e=ex→(ex = .normal∨ex = .ret)→(match qdu fn.results fr1 h1 with | some v=>Q v h1 | none=>False)→Ret E W f args h Q:=by
  intro ex he hex h2
  split at h2
  ·rename_i v hv
   refine ⟨N+1,v,h1,h2,fun n hn=>?_⟩
   obtain ⟨n,rfl⟩ : ∃ i,n=i+1:=⟨n - 1,by omega⟩
   simp only [xu,hf]
   rw [h3 n (by omega),he]
   rcases hex with rfl | rfl <;> simp only [hv]
  ·cases h2
 cases e with
 | normal=>exact key rfl (.inl rfl) h2
 | ret=>exact key rfl (.inr rfl) h2
 | exit id=>cases h2

theorem Ret.mono {f:Nat}{args:List XV}{h:Heap}{Q Q':XV→Heap→Prop}(H:Ret E W f args h Q)(hQ:∀ v h',Q v h'→Q' v h') : Ret E W f args h Q':=by
 obtain ⟨N,v,h',h1,h2⟩:=H
 exact ⟨N,v,h',hQ _ _ h1,h2⟩
end
end Go.Proofs.Ytanblnjomhgphaa.X
