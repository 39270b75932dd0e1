/- A raft: votes as bits. -/
import Derived.Test.YtanblnjomhgphaaXBL10i
open Go.IntKind renaming wrap→r8
set_option linter.unusedVariables false
set_option linter.unusedSimpArgs false
namespace Go.Proofs.Ytanblnjomhgphaa.X
open Go

theorem q17 {σ ρ:Type}{B:σ→Option (Oc σ ρ)}{o:Oc σ ρ} : ∀ {k:Nat} {s:σ},wo B k s=some o→wo B (k+1) s=some o:=by
 intro k
 induction k with
 | zero=>intro s h; cases h
 | succ k ih =>
  intro s h
  unfold wo at h ⊢
  cases hb:B s with
  | none=>rw [hb] at h; cases h
  | some q =>
   rw [hb] at h
   cases q with
   | nxt s'=>exact ih h
   | brk s'=>exact h
   | ret q=>exact h
def vts (N:Nat) : List Int:=(qcc 5).filter (fun i=>N.testBit i.toNat)
theorem qt6:∀ N:Fin 32,qdc 8 (N.val:Int)=some (vts N.val):=by decide +kernel
theorem q1x {N:Nat}(h:N<32) : Ev (fun k=>qdc k (N:Int)) (vts N):=by
 refine ⟨8,fun k hk=>?_⟩
 have h0:=qt6 ⟨N,h⟩
 obtain ⟨d,rfl⟩ : ∃ d,k=8+d:=⟨k - 8,by omega⟩
 induction d with
 | zero=>exact h0
 | succ d ih =>
  have:=ih (by omega)
  unfold qdc jn at this ⊢
  obtain ⟨o,ho,ho2⟩:=Option.bind_eq_some_iff.1 this
  rw [show 8+(d+1)=(8+d)+1 by omega]
  dsimp only
  rw [q17 ho]
  exact ho2
theorem qtg:∀ N:Fin 32,kx (r8 .u64 (N.val:Int))=((vts N.val).length:Int):=by decide +kernel
theorem q1u {N:Nat}(h:N<32) : kx (r8 .u64 (N:Int))=((vts N).length:Int):=qtg ⟨N,h⟩
theorem q1v:∀ N:Fin 32,∀ i:Fin 5,(z8 .i64 (jo .i64 (N.val:Int) (i.val:Int)) 1=1↔(i.val:Int)∈vts N.val)∧(z8 .i64 (jo .i64 (N.val:Int) (i.val:Int)) 1=0↔¬ (i.val:Int)∈vts N.val):=by decide +kernel
theorem qnb {N i:Nat}(h:N<32)(hi:i<5) : (z8 .i64 (jo .i64 (N:Int) (i:Int)) 1=1↔(i:Int)∈vts N)∧(z8 .i64 (jo .i64 (N:Int) (i:Int)) 1=0↔¬ (i:Int)∈vts N):=q1v ⟨N,h⟩ ⟨i,hi⟩
theorem q1i:∀ N:Fin 32,∀ n:Fin 6,(qde .i64 1 (n.val:Int)≤(N.val:Int))↔¬ ∀ x∈vts N.val,x<(n.val:Int):=by decide +kernel
theorem zes:∀ n:Fin 6,qde .i64 1 (n.val:Int)≤32:=by decide +kernel
theorem q11 {N n:Nat}(h:N<32)(hn:n<6) : qde .i64 1 (n:Int)≤(N:Int)↔¬ qak (vts N) (n:Int):=by
 have:=q1i ⟨N,h⟩ ⟨n,hn⟩
 refine Iff.trans this (not_congr ⟨fun q=>wl.2 ⟨qnn.filter _,fun x hx=>⟨(qlg (List.mem_filter.1 hx).1).1,q x hx⟩⟩,fun q x hx=>((wl.1 q).2 x hx).2⟩)
theorem qqq {N:Nat} : (vts N).length≤5:=by
 have:=List.length_filter_le (fun i:Int=>N.testBit i.toNat) (qcc 5)
 rwa [qpd] at this
end Go.Proofs.Ytanblnjomhgphaa.X
