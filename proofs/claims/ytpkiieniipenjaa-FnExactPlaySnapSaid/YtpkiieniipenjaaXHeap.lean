/- What lies on top of X's heap. -/
import Derived.Test.YtpkiieniipenjaaXRun3
set_option linter.unusedVariables false
set_option linter.unusedSimpArgs false
namespace Go.Proofs.Ytpkiieniipenjaa.X
open Go
section
variable {W : Nat → Bool} {h ks : Heap}

theorem top_blk (i : Nat) : getBlk (h ++ ks) (h.length + i) = getBlk ks i := by
  unfold getBlk
  rw [List.getElem?_append_right (by omega)]
  simp
theorem top_blk0 : getBlk (h ++ ks) h.length = getBlk ks 0 := top_blk 0
theorem top_cell (i o : Nat) : getCell (h ++ ks) (h.length + i) o = getCell ks i o := by unfold getCell; rw [top_blk]
theorem top_cell0 (o : Nat) : getCell (h ++ ks) h.length o = getCell ks 0 o := top_cell 0 o
theorem top_cells (i o n : Nat) : getCells (h ++ ks) (h.length + i) o n = getCells ks i o n := by unfold getCells; rw [top_blk]
theorem top_cells0 (o n : Nat) : getCells (h ++ ks) h.length o n = getCells ks 0 o n := top_cells 0 o n
theorem low_blk {b : Nat} (hb : b < h.length) : getBlk (h ++ ks) b = getBlk h b := by
  unfold getBlk
  rw [List.getElem?_append_left hb]
theorem top_len : (h ++ ks).length = h.length + ks.length := List.length_append
theorem blk0 {k : Blk} {r : Heap} : getBlk (k :: r) 0 = if k.live then some k else none := (rfl)
theorem blkS {k : Blk} {r : Heap} {i : Nat} : getBlk (k :: r) (i + 1) = getBlk r i := (rfl)
theorem cell0 {cs : List XV} {ty o : Nat} {r : Heap} : getCell (⟨cs, ty, true⟩ :: r) 0 o = cs[o]? := (rfl)
theorem cellS {k : Blk} {r : Heap} {i o : Nat} : getCell (k :: r) (i + 1) o = getCell r i o := (rfl)
theorem cells0 {cs : List XV} {ty o n : Nat} {r : Heap} : getCells (⟨cs, ty, true⟩ :: r) 0 o n = if o + n ≤ cs.length then some ((cs.drop o).take n) else none := (rfl)
theorem cellsS {k : Blk} {r : Heap} {i o n : Nat} : getCells (k :: r) (i + 1) o n = getCells r i o n := (rfl)
theorem top_set {i o : Nat} {vs : List XV} (hw : W (h.length + i) = true) : setCells W (h ++ ks) (h.length + i) o vs = (setCells (fun _ => true) ks i o vs).map (h ++ ·) := by
  unfold setCells
  rw [top_blk]
  cases hk : getBlk ks i with
  | none => rfl
  | some k =>
    simp only [hw, true_and]
    by_cases hc : o + vs.length ≤ k.cells.length ∧ vs.all XV.one = true
    · rw [if_pos hc, if_pos hc]
      simp only [Option.map_some, Option.some.injEq]
      rw [List.set_append_right _ _ (by omega)]
      simp
    · rw [if_neg hc, if_neg hc]; rfl

theorem top_set0 {o : Nat} {vs : List XV} (hw : W h.length = true) : setCells W (h ++ ks) h.length o vs = (setCells (fun _ => true) ks 0 o vs).map (h ++ ·) := top_set (i := 0) hw
theorem set0 {cs vs : List XV} {ty o : Nat} {r : Heap} : setCells (fun _ => true) (⟨cs, ty, true⟩ :: r) 0 o vs = if o + vs.length ≤ cs.length ∧ vs.all XV.one = true then some (⟨splice cs o vs, ty, true⟩ :: r) else none := by
  unfold setCells
  rw [blk0]
  simp
theorem setS {k : Blk} {r : Heap} {i o : Nat} {vs : List XV} : setCells (fun _ => true) (k :: r) (i + 1) o vs = (setCells (fun _ => true) r i o vs).map (k :: ·) := by
  unfold setCells
  rw [blkS]
  cases getBlk r i with
  | none => rfl
  | some b =>
    simp only [true_and]
    split <;> rfl
theorem splice_def {cs vs : List XV} {o : Nat} : splice cs o vs = cs.take o ++ vs ++ cs.drop (o + vs.length) := (rfl)
theorem pst_ptr {n b o : Nat} {v : XV} : pst W h n (.ptr b o) v = if v.cells.length = n then (setCells W h b o v.cells).map (fun h' => (.undef, h')) else none := by
  show (if v.cells.length = n then _ else _) = _
  split
  · show (match setCells W h b o v.cells with | some h' => some (XV.undef, h') | none => none) = _
    cases setCells W h b o v.cells <;> rfl
  · rfl
theorem cells_int {kk : IntKind} {m : Int} : XV.cells (.int kk m) = [.int kk m] := (rfl)
theorem cells_bool {t : Bool} : XV.cells (.bool t) = [.bool t] := (rfl)
theorem cells_str {s : ByteArray} : XV.cells (.str s) = [.str s] := (rfl)
theorem cells_list {es : List (List XV)} : XV.cells (.list es) = [.list es] := (rfl)
theorem cells_nil : XV.cells .nil = [.nil] := (rfl)
theorem cells_row {b o l c : Nat} : XV.cells (.row b o l c) = [.row b o l c] := (rfl)
theorem cells_ptr {b o : Nat} : XV.cells (.ptr b o) = [.ptr b o] := (rfl)
theorem cells_fn {f : Nat} {cs : List XV} : XV.cells (.fn f cs) = [.fn f cs] := (rfl)
theorem cells_agg {cs : List XV} : XV.cells (.agg cs) = cs := (rfl)

/-! the operations' values, laid open -/
theorem pbox_some {ty n : Nat} {v : XV} (h1 : v.cells.length = n) (h2 : v.cells.all XV.one = true) : pbox W h ty n v = some (.ptr h.length 0, h ++ [⟨v.cells, ty, true⟩]) := by
  exact if_pos ⟨h1, h2⟩
theorem pbox_agg {ty n : Nat} {cs : List XV} : pbox W h ty n (.agg cs) = if cs.length = n ∧ cs.all XV.one = true then some (.ptr h.length 0, h ++ [⟨cs, ty, true⟩]) else none := (rfl)
theorem pbox_int {ty n : Nat} {kk : IntKind} {m : Int} : pbox W h ty n (.int kk m) = if 1 = n ∧ true = true then some (.ptr h.length 0, h ++ [⟨[.int kk m], ty, true⟩]) else none := (rfl)
theorem pbox_list {ty n : Nat} {es : List (List XV)} : pbox W h ty n (.list es) = if 1 = n ∧ true = true then some (.ptr h.length 0, h ++ [⟨[.list es], ty, true⟩]) else none := (rfl)
theorem pbox_nil {ty n : Nat} : pbox W h ty n .nil = if 1 = n ∧ true = true then some (.ptr h.length 0, h ++ [⟨[.nil], ty, true⟩]) else none := (rfl)
theorem pbox_row {ty n b o l c : Nat} : pbox W h ty n (.row b o l c) = if 1 = n ∧ true = true then some (.ptr h.length 0, h ++ [⟨[.row b o l c], ty, true⟩]) else none := (rfl)
theorem pbox_fn {ty n f : Nat} {cs : List XV} : pbox W h ty n (.fn f cs) = if 1 = n ∧ true = true then some (.ptr h.length 0, h ++ [⟨[.fn f cs], ty, true⟩]) else none := (rfl)
theorem one_int {kk : IntKind} {m : Int} : XV.one (.int kk m) = true := (rfl)
theorem one_bool {t : Bool} : XV.one (.bool t) = true := (rfl)
theorem one_str {s : ByteArray} : XV.one (.str s) = true := (rfl)
theorem one_list {es : List (List XV)} : XV.one (.list es) = true := (rfl)
theorem one_nil : XV.one .nil = true := (rfl)
theorem one_row {b o l c : Nat} : XV.one (.row b o l c) = true := (rfl)
theorem one_ptr {b o : Nat} : XV.one (.ptr b o) = true := (rfl)
theorem one_fn {f : Nat} {cs : List XV} : XV.one (.fn f cs) = true := (rfl)
theorem one_nilfn : XV.one .nilfn = true := (rfl)
theorem pnew_some {ty : Nat} {z : List XV} : pnew W h ty z = some (.ptr h.length 0, h ++ [⟨z, ty, true⟩]) := (rfl)
theorem xld_ptr {b o : Nat} : xld h none (.ptr b o) = getCell h b o := (rfl)
theorem xld_ptrs {b o n : Nat} : xld h (some n) (.ptr b o) = (getCells h b o n).map .agg := (rfl)
theorem xld_ref {cs : List XV} {o : Nat} : xld h none (.ref cs o) = cs[o]? := (rfl)
theorem xld_refs {cs : List XV} {o n : Nat} : xld h (some n) (.ref cs o) = if o + n ≤ cs.length then some (.agg ((cs.drop o).take n)) else none := (rfl)
theorem xfa_ptr {b o f : Nat} : xfa f (.ptr b o) = some (.ptr b (o + f)) := (rfl)
theorem xfa_ref {cs : List XV} {o f : Nat} : xfa f (.ref cs o) = some (.ref cs (o + f)) := (rfl)
end
end Go.Proofs.Ytpkiieniipenjaa.X
