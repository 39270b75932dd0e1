/- Running X's code by rewriting: how a function ends, how one is called. -/
import Derived.Test.YtanblnjomhgphaaZRun2
open List renaming mapM_cons→a29
set_option linter.unusedVariables false
set_option linter.unusedSimpArgs false
namespace Go.Proofs.Ytanblnjomhgphaa.X
open Go
section
variable {E:Env}{W:Nat→Bool}{k:List It}{Q:QE}{fr:Fr}{h:Heap}{r:List XOper}{d:Option Nat}{hs:Nat}{ld wr:List Nat}{P:XV→Heap→Prop}

theorem zr {a:Nat} : EndW [.t a] P .ret fr h=P (fr a) h:=(rfl)
theorem qes {a b:Nat} : EndW [.t a,.t b] P .ret fr h=P (.tup [fr a,fr b]) h:=(rfl)
theorem qk8:EndW [] P .ret fr h=P (.tup []) h:=(rfl)
theorem q08:EndW [] P .normal fr h=P (.tup []) h:=(rfl)
def PutE (o:Option XV)(P:XV→Heap→Prop)(h:Heap) : Prop :=
 match o with
 | some v=>P v h
 | none=>False
theorem q0p {a:Nat}{n:Option Nat} : EndW [.cell a n] P .ret fr h=PutE (match fr a with | .ptr b o=>xld h n (.ptr b o) | _=>none) P h:=by
 unfold EndW qdu
 cases n <;> (simp only [a29,List.mapM_nil,qec]; cases hf:fr a <;> try rfl)
 ·rename_i b o
  simp only [xld]
  cases qal h b o <;> rfl
 ·rename_i b o
  simp only [xld]
  cases kw h b o _ <;> rfl

theorem qlf {b o l c:Nat} : qg1 (.row b o l c)=some (.int .i64 l):=(rfl)
theorem zbn {g:Nat}{caps args as':List XV}{R:XV→Prop}(hm:E.mode g=1)(hs:args.mapM (snap h E.sz 9)=some as')(hc:Ret E (fun b=>decide (h.length≤b)) g (as'++caps) h (fun v h'=>∃ u,cut h.length h' E.sz false 9 v=some u∧R u))
  (hR:∀ v,R v→Run E W (.ops r::k) Q (fr.put d v) h) : CallK E W (.fn g caps) args d r k Q fr h:=by
 unfold CallK CallW
 dsimp only
 rw [hm,hs]
 refine hc.mono ?_
 rintro v h' ⟨u,h1,h2⟩
 exact ⟨u,h1,hR u h2⟩
theorem q97 {g:Nat}{caps args as':List XV}{R:XV→Prop}(hm:E.mode g=1)(hs':args.mapM (snap h E.sz 9)=some as')(hc:Ret E (fun b=>decide (h.length≤b)) g (as'++caps) h (fun v h'=>∃ u,cut h.length h' E.sz false 9 v=some u∧R u))
  (hR:∀ v,R v→Run E W (.draw hs r ld wr::k) Q (fr.put d v) h) : CallD E W (.fn g caps) args d hs r ld wr k Q fr h:=by
 unfold CallD CallW
 dsimp only
 rw [hm,hs']
 refine hc.mono ?_
 rintro v h' ⟨u,h1,h2⟩
 exact ⟨u,h1,hR u h2⟩
theorem zan {g:Nat}{caps args as':List XV}{R:XV→Prop}(hm:E.mode g=1)(hs':args.mapM (snap h E.sz 9)=some as')(hc:Ret E (fun b=>decide (h.length≤b)) g (as'++caps) h (fun v h'=>∃ u,cut h.length h' E.sz false 9 v=some u∧R u))
  (hR:∀ v,R v→Run E W (.draw hs r ld wr::k) Q (fr.put d v) h) : CallQ E W (.fn g caps) args (qhw E (.fn g caps) args) d hs r ld wr k Q fr h:=by
 unfold CallQ
 have e:qhw E (.fn g caps) args=[]:=by simp [qhw,hm]
 rw [e]
 refine ⟨rfl,?_⟩
 unfold CallW
 dsimp only
 rw [hm,hs']
 refine hc.mono ?_
 rintro v h' ⟨u,h1,h2⟩
 exact ⟨u,h1,hR u h2⟩
theorem zcs {g:Nat}{caps args:List XV}{R:XV→Heap→Prop}(hm:E.mode g=0)(hc:Ret E W g (args++caps) h R)(hR:∀ v h',R v h'→Run E W (.ops r::k) Q (fr.put d v) h') : CallK E W (.fn g caps) args d r k Q fr h:=by
 unfold CallK CallW
 dsimp only
 rw [hm]
 exact hc.mono hR
theorem zbh {g:Nat}{caps args as':List XV}{R:XV→Heap→Prop}(hm:E.mode g=2)(hs:args.mapM (snap h E.sz 9)=some as')(hc:Ret E (fun b=>decide (h.length≤b)) g (as'++caps) h R)
  (hR:∀ v h',R v h'→v.free=true∧Run E W (.ops r::k) Q (fr.put d v) (purge h.length h')) : CallK E W (.fn g caps) args d r k Q fr h:=by
 unfold CallK CallW
 dsimp only
 rw [hm,hs]
 exact hc.mono hR
theorem zb {sz:TypeId→Nat}{n:Nat}{kk:IntKind}{m:Int} : snap h sz (n+1) (.int kk m)=some (.int kk m):=(rfl)
theorem qib {sz:TypeId→Nat}{n:Nat}{b:Bool} : snap h sz (n+1) (.bool b)=some (.bool b):=(rfl)
theorem qj7 {sz:TypeId→Nat}{n f:Nat}{cs:List XV} : snap h sz (n+1) (.fn f cs)=some (.fn f cs):=(rfl)
theorem wk {sz:TypeId→Nat}{n:Nat}{cs us:List XV}(e:cs.mapM (snap h sz n)=some us) : snap h sz (n+1) (.agg cs)=some (.agg us):=by simp only [snap,e]
theorem qt {α β:Type}{f:α→Option β}{a:α}{b:β}{l:List α}{r:List β}(e1:f a=some b)(e2:l.mapM f=some r) : (a::l).mapM f=some (b::r):=by simp [a29,e1,e2]
theorem zm {α β:Type}{f:α→Option β} : ([] : List α).mapM f=some []:=by simp
end
end Go.Proofs.Ytanblnjomhgphaa.X
