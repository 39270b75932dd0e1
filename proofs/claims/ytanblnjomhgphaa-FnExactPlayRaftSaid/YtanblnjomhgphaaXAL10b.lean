/- A raft: votes as bits. -/
import Derived.Test.YtanblnjomhgphaaXAL10i
open Go.IntKind renaming wrap→l9
set_option linter.unusedVariables false
set_option linter.unusedSimpArgs false
namespace Go.Proofs.Ytanblnjomhgphaa.X
open Go

theorem q00 {σ ρ:Type}{B:σ→Option (Oc σ ρ)}{o:Oc σ ρ} : ∀ {k:Nat} {s:σ},kr B k s=some o→kr B (k+1) s=some o:=by
 intro k
 induction k with
 | zero=>intro s h; cases h
 | succ k ih =>
  intro s h
  unfold kr at h ⊢
  cases hb:B s with
  | none=>rw [hb] at h; cases h
  | some q =>
   rw [hb] at h
   cases q with
   | nxt s'=>exact ih h
   | brk s'=>exact h
   | ret q=>exact h
def vts (N:Nat) : List Int:=(qca 5).filter (fun i=>N.testBit i.toNat)
theorem qt7:∀ N:Fin 32,qcs 8 (N.val:Int)=some (vts N.val):=by decide +kernel
theorem q0f {N:Nat}(h:N<32) : Ev (fun k=>qcs k (N:Int)) (vts N):=by
 refine ⟨8,fun k hk=>?_⟩
 have h0:=qt7 ⟨N,h⟩
 obtain ⟨d,rfl⟩ : ∃ d,k=8+d:=⟨k - 8,by omega⟩
 induction d with
 | zero=>exact h0
 | succ d ih =>
  have:=ih (by omega)
  unfold qcs jn at this ⊢
  obtain ⟨o,ho,ho2⟩:=Option.bind_eq_some_iff.1 this
  rw [show 8+(d+1)=(8+d)+1 by omega]
  dsimp only
  rw [q00 ho]
  exact ho2
theorem qvt:∀ N:Fin 32,ko (l9 .u64 (N.val:Int))=((vts N.val).length:Int):=by decide +kernel
theorem q1k {N:Nat}(h:N<32) : ko (l9 .u64 (N:Int))=((vts N).length:Int):=qvt ⟨N,h⟩
theorem qz1:∀ N:Fin 32,∀ i:Fin 5,(zw .i64 (ji .i64 (N.val:Int) (i.val:Int)) 1=1↔(i.val:Int)∈vts N.val)∧(zw .i64 (ji .i64 (N.val:Int) (i.val:Int)) 1=0↔¬ (i.val:Int)∈vts N.val):=by decide +kernel
theorem qma {N i:Nat}(h:N<32)(hi:i<5) : (zw .i64 (ji .i64 (N:Int) (i:Int)) 1=1↔(i:Int)∈vts N)∧(zw .i64 (ji .i64 (N:Int) (i:Int)) 1=0↔¬ (i:Int)∈vts N):=qz1 ⟨N,h⟩ ⟨i,hi⟩
theorem q1g:∀ N:Fin 32,∀ n:Fin 6,(qh6 .i64 1 (n.val:Int)≤(N.val:Int))↔¬ ∀ x∈vts N.val,x<(n.val:Int):=by decide +kernel
theorem zd6:∀ n:Fin 6,qh6 .i64 1 (n.val:Int)≤32:=by decide +kernel
theorem q0p {N n:Nat}(h:N<32)(hn:n<6) : qh6 .i64 1 (n:Int)≤(N:Int)↔¬ qaa (vts N) (n:Int):=by
 have:=q1g ⟨N,h⟩ ⟨n,hn⟩
 refine Iff.trans this (not_congr ⟨fun q=>y9.2 ⟨qnd.filter _,fun x hx=>⟨(qkt (List.mem_filter.1 hx).1).1,q x hx⟩⟩,fun q x hx=>((y9.1 q).2 x hx).2⟩)
theorem qp4 {N:Nat} : (vts N).length≤5:=by
 have:=List.length_filter_le (fun i:Int=>N.testBit i.toNat) (qca 5)
 rwa [qoq] at this
end Go.Proofs.Ytanblnjomhgphaa.X
