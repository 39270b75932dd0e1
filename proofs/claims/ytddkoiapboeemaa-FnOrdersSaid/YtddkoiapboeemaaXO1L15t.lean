/- Orders in time. -/
import Derived.Test.YtddkoiapboeemaaXO1L15d
set_option linter.unusedVariables false
set_option linter.unusedSimpArgs false
namespace Go.Proofs.Ytddkoiapboeemaa.X
open Go

def wt (l:List Call)(a b:Int) : Bool:=match l[a.toNat]?,l[b.toNat]? with
 | some x,some y=>decide (x.Begin<y.End)
 | _,_=>false
theorem qqc {l:List Call}(a b:Int)(h0:0≤a)(h1:a<l.length)(h2:0≤b)(h3:b<l.length) : k6 a b l=some (wt l a b):=by
 obtain ⟨x,hx,hx'⟩:=kr h0 h1
 obtain ⟨y,hy,hy'⟩:=kr h2 h3
 unfold k6 wt
 simp only [hx,hy,hx',hy',Option.bind_some]
theorem qqq {l:List Call}(a b:Int)(h0:0≤a)(h1:a<l.length)(h2:0≤b)(h3:b<l.length)(hab:a≠b) : rel l false a b=wt l a b:=by
 obtain ⟨x,hx,hx'⟩:=kr h0 h1
 obtain ⟨y,hy,hy'⟩:=kr h2 h3
 rw [qiz hx' hy']
 unfold wt
 rw [hx',hy']
 simp only [bef,Bool.false_eq_true,if_false]
 rw [Bool.eq_iff_iff]
 simp only [Bool.not_eq_true',decide_eq_true_eq,decide_eq_false_iff_not]
 omega
def qa1 (l:List Call) : Option (List Int):=js l.length (z8 l) (wt l) l.length []
theorem qlp {l:List Call}(h:good l=true) : Ev (fun k=>kn k l [] false) ((qa1 l).getD []):=by
 have h7:=qd8 h
 refine ⟨l.length+1,fun k hk=>?_⟩
 have:=qwn (qeb h) (by omega) false l.length [] k (by simp) (fun x hx=>by cases hx) List.nodup_nil List.Pairwise.nil (fun a ha=>by cases ha) hk
 rw [qks qqq] at this
 exact this
theorem qk8 {l:List Call}(h:good l=true) : Ev (fun k=>wb k l (fun a0 a1=>k6 a0 a1 l)) (match qa1 l with | some o=>(o,true) | none=>([],false)):=by
 have h7:=qd8 h
 refine ⟨l.length+1,fun k hk=>?_⟩
 change wb k l (fun a0 a1=>k6 a0 a1 l)=_
 unfold wb
 rw [qh8 (qeb h) (by omega) (fun a b h0 h1 h2 h3=>qqc a b h0 h1 h2 h3) l.length [] k (by simp) (fun x hx=>by cases hx) List.nodup_nil List.Pairwise.nil (qhz l) hk]
 rfl
end Go.Proofs.Ytddkoiapboeemaa.X
