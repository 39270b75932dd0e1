/- What a row's arguments are, as typed values. -/
import Derived.Test.YtanblnjomhgphaaZSS
import Derived.Test.YtanblnjomhgphaaZM2
set_option linter.unusedVariables false
set_option linter.unusedSimpArgs false
namespace Go.Proofs.Ytanblnjomhgphaa.X
open Go
variable {T:Tab}{t e:Nat}{ti ei:TI}{cs:List XV}{α:Type}{f:α→List XV}{wf:α→Prop}{wf':List α→Prop}{x:XV}

def inI (n:Int) : Prop := -9223372036854775808≤n∧n≤9223372036854775807
def qpp (n:Int) : Prop:=0≤n∧n≤255
def zdk (s:ByteArray) : Prop:=s.size≤140737488351232
def wfL (bytes:Nat)(wf:α→Prop)(l:List α) : Prop:=l.length*bytes≤140737488351232∧∀ x∈l,wf x

def Dec (T:Tab)(t:Nat)(f:α→List XV)(wf:α→Prop) : Prop:=∀ cs,Fits T t cs→∃ x,cs=f x∧wf x

theorem Fits.inv (h:Fits T t cs)(ht:T t=some ti) : match ti.k with
  | .int k=>∃ n,cs=[.int k n]∧(Lit.int k n).wf=true
  | .bool=>∃ b,cs=[.bool b]
  | .str=>∃ s,cs=[.str s]∧s.size≤reachBytes
  | .slice e=>∃ es ei,T e=some ei∧cs=[.list es]∧es.length*ei.bytes≤reachBytes∧∀ (i:Nat) cs,es[i]? = some cs→Fits T e cs
  | .struct fs=>∃ ps:List (List XV),cs=ps.flatten∧ps.length=fs.length∧∀ (i:Nat) f p,fs[i]? = some f→ps[i]? = some p→Fits T f.2 p
  | _=>False:=by
 cases h with
 | int ht' hk hw=>rw [ht] at ht'; cases ht'; rw [hk]; exact ⟨_,rfl,hw⟩
 | bool ht' hk=>rw [ht] at ht'; cases ht'; rw [hk]; exact ⟨_,rfl⟩
 | str ht' hk hs=>rw [ht] at ht'; cases ht'; rw [hk]; exact ⟨_,rfl,hs⟩
 | slice ht' hk he hs hl hf=>rw [ht] at ht'; cases ht'; rw [hk]; exact ⟨_,_,he,rfl,hs,hf⟩
 | struct ht' hk hl hf=>rw [ht] at ht'; cases ht'; rw [hk]; exact ⟨_,rfl,hl,hf⟩

theorem Dec.i64 (ht:T t=some ti)(hk:ti.k = .int .i64) : Dec T t cI inI:=by
 intro cs h
 have:=h.inv ht
 rw [hk] at this
 obtain ⟨n,rfl,hw⟩:=this
 refine ⟨n,rfl,?_⟩
 simpa [Lit.wf,IntKind.min,IntKind.max,IntKind.signed,IntKind.bits,inI] using hw
theorem Dec.u8 (ht:T t=some ti)(hk:ti.k = .int .u8) : Dec T t cU8 qpp:=by
 intro cs h
 have:=h.inv ht
 rw [hk] at this
 obtain ⟨n,rfl,hw⟩:=this
 refine ⟨n,rfl,?_⟩
 simpa [Lit.wf,IntKind.min,IntKind.max,IntKind.signed,IntKind.bits,qpp] using hw
theorem Dec.bool (ht:T t=some ti)(hk:ti.k = .bool) : Dec T t cB (fun _=>True):=by
 intro cs h
 have:=h.inv ht
 rw [hk] at this
 obtain ⟨b,rfl⟩:=this
 exact ⟨b,rfl,trivial⟩
theorem Dec.str (ht:T t=some ti)(hk:ti.k = .str) : Dec T t cS zdk:=by
 intro cs h
 have:=h.inv ht
 rw [hk] at this
 obtain ⟨s,rfl,hs⟩:=this
 exact ⟨s,rfl,hs⟩
theorem Dec.slice (ht:T t=some ti)(hk:ti.k = .slice e)(he:T e=some ei)(D:Dec T e f wf) : Dec T t (cL f) (wfL ei.bytes wf):=by
 intro cs h
 have:=h.inv ht
 rw [hk] at this
 obtain ⟨es,ei',he',rfl,hs,hf⟩:=this
 rw [he] at he'
 cases he'
 have key:∀ es:List (List XV),(∀ (i:Nat) cs,es[i]? = some cs→Fits T e cs)→∃ l:List α,es=l.map f∧∀ x∈l,wf x:=by
  intro es
  induction es with
  | nil=>intro _; exact ⟨[],rfl,fun x hx=>by simp at hx⟩
  | cons a r ih =>
   intro hf
   obtain ⟨x,rfl,hx⟩:=D a (hf 0 a rfl)
   obtain ⟨l,rfl,hl⟩:=ih (fun i cs h=>hf (i+1) cs (by simpa using h))
   refine ⟨x::l,rfl,fun y hy=>?_⟩
   rcases List.mem_cons.1 hy with rfl | hy
   ·exact hx
   ·exact hl y hy
 obtain ⟨l,rfl,hl⟩:=key es hf
 rw [List.length_map] at hs
 exact ⟨l,rfl,hs,hl⟩
theorem Fits.parts (h:Fits T t cs)(ht:T t=some ti){fs:List (Nat × Nat)}(hk:ti.k = .struct fs) : ∃ ps:List (List XV),cs=ps.flatten∧ps.length=fs.length∧∀ (i:Nat) f p,fs[i]? = some f→ps[i]? = some p→Fits T f.2 p:=by
 have:=h.inv ht
 rw [hk] at this
 exact this
theorem FitsV.slice (h:FitsV T t (x:XV))(ht:T t=some ti)(hk:ti.k = .slice e)(D:Dec T t (cL f) wf') : ∃ l:List α,x=lst f l∧wf' l:=by
 obtain ⟨ti',ht',h⟩:=h
 rw [ht] at ht'
 cases ht'
 rw [hk] at h
 obtain ⟨l,e1,e2⟩:=D _ h
 cases e1
 exact ⟨l,rfl,e2⟩
theorem FitsV.one (h:FitsV T t (x:XV))(ht:T t=some ti)(hk:ti.k.agg=false) : Fits T t [x]:=by
 obtain ⟨ti',ht',h⟩:=h
 rw [ht] at ht'
 cases ht'
 rw [hk] at h
 exact h
theorem q1e {n0:Nat}{h:Heap}{sz:TypeId→Nat}{keep b:Bool}{d:Nat}{v:XV}(h1:cut n0 h sz keep (d+1) v=some (.bool b)) : v = .bool b:=by
 cases v with
 | bool b=>exact Option.some.inj h1
 | list es=>cases es with
  | nil=>simp [cut] at h1
  | cons a r =>
   rw [cut.eq_def] at h1
   simp only at h1
   (repeat' split at h1) <;> simp at h1
 | int k n=>simp [cut] at h1
 | str s=>simp [cut] at h1
 | nil=>simp [cut] at h1
 | nilptr=>simp [cut] at h1
 | nilfn=>simp [cut] at h1
 | undef=>simp [cut] at h1
 | ptr b o=>simp [cut] at h1
 | _ =>
  rw [cut.eq_def] at h1
  simp only at h1
  (repeat' split at h1) <;> simp at h1
theorem zc4 {E:Env}{f:Nat}{xs:List XV}(H:Ret E (fun _=>true) f xs [] (fun v h'=>cut 0 h' E.sz false 9 v=some (.bool true))) : ∃ n h',xu E n (fun _=>true) f xs []=some (.bool true,h'):=by
 obtain ⟨N,v,h',h1,h2⟩:=H
 have:=q1e h1
 subst this
 exact ⟨N,h',h2 N (Nat.le_refl _)⟩
end Go.Proofs.Ytanblnjomhgphaa.X
