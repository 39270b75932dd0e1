/- Worlds: what there is stays as much. -/
import Derived.Test.YtpkiieniipenjaaXCL8b
set_option linter.unusedVariables false
set_option linter.unusedSimpArgs false
namespace Go.Proofs.Ytpkiieniipenjaa.X
open Go

theorem qgk {l:List Int} : ∀ {i:Nat} {x v:Int},l[i]? = some x→(l.set i v).sum=l.sum - x+v:=by
 induction l with
 | nil=>intro i x v h; simp at h
 | cons a r ih =>
  intro i x v h
  cases i with
  | zero=>simp at h; subst h; simp; omega
  | succ i=>simp only [List.set_cons_succ,List.sum_cons]; rw [ih (by simpa using h)]; omega
theorem qem {l:List Int}(h:∀ z∈l,0≤z) : 0≤l.sum:=by
 induction l with
 | nil=>simp
 | cons a r ih =>
  have:=h a (by simp)
  have:=ih (fun z hz=>h z (by simp [hz]))
  simp only [List.sum_cons]; omega
theorem qjd {l:List Int}(h:∀ z∈l,0≤z){x:Int}(hx:x∈l) : x≤l.sum:=by
 induction l with
 | nil=>simp at hx
 | cons a r ih =>
  have h1:=h a (by simp)
  have h2:=qem (l:=r) (fun z hz=>h z (by simp [hz]))
  simp only [List.sum_cons]
  rcases List.mem_cons.1 hx with rfl | hx
  ·omega
  ·have:=ih (fun z hz=>h z (by simp [hz])) hx; omega
def y8 (l:List Chan) : List Int:=l.map fun c=>c.Way.sum
theorem qnw {l:List Chan}{i:Nat}{c c':Chan}(h:l[i]? = some c) : (y8 (l.set i c')).sum=(y8 l).sum - c.Way.sum+c'.Way.sum:=by
 unfold y8
 rw [List.map_set]
 exact qgk (by simp [h])
theorem qrt {l:List Chan}{k:Int} : y8 (l.map (kv k))=y8 l:=by
 unfold y8
 rw [List.map_map]
 apply List.map_congr_left
 intro c _
 simp only [Function.comp,kv]
 split <;> simp
structure SnInv (p n:Nat) (s:Snap) : Prop where
 ok:SnOk p s
 an:∀ z∈s.Amounts,0≤z
 wn:∀ (i:Nat) (c:Chan),s.Chans[i]? = some c→∀ z∈c.Way,0≤z
 sum:s.Amounts.sum+(y8 s.Chans).sum=s.Total
 tot:s.Total≤1000
 sent:0≤s.Sent∧s.Sent≤1000
 inn:∀ (i:Nat) (x:Picture),s.Pictures[i]? = some x→∀ z∈x.In,0≤z∧z≤1000*n
theorem SnInv.ways {p n:Nat}{s:Snap}(h:SnInv p n s) : ∀ z∈y8 s.Chans,0≤z:=by
 intro z hz
 unfold y8 at hz
 obtain ⟨c,hc,rfl⟩:=List.mem_map.1 hz
 obtain ⟨i,hi⟩:=List.getElem?_of_mem hc
 exact qem (h.wn i c hi)
theorem SnInv.am_le {p n:Nat}{s:Snap}(h:SnInv p n s){a:Int}(ha:a∈s.Amounts) : 0≤a∧a≤1000:=by
 have h1:=qjd h.an ha
 have h2:=qem h.ways
 have h3:=h.sum
 have h4:=h.tot
 exact ⟨h.an a ha,by omega⟩
theorem SnInv.way_le {p n:Nat}{s:Snap}(h:SnInv p n s){i:Nat}{c:Chan}(hc:s.Chans[i]? = some c){z:Int}(hz:z∈c.Way) : 0≤z∧z≤1000:=by
 have h1:=qjd (h.wn i c hc) hz
 have h2:=qjd h.ways (x:=c.Way.sum) (by unfold y8; exact List.mem_map.2 ⟨c,List.mem_of_getElem? hc,rfl⟩)
 have h3:=qem h.an
 have h4:=h.sum
 have h5:=h.tot
 exact ⟨h.wn i c hc z hz,by omega⟩
end Go.Proofs.Ytpkiieniipenjaa.X
