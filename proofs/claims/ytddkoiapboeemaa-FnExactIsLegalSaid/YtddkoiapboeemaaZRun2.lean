/- Running X's code by rewriting: the other operations; regions of open order. -/
import Derived.Test.YtddkoiapboeemaaZRun
set_option linter.unusedVariables false
set_option linter.unusedSimpArgs false
namespace Go.Proofs.Ytddkoiapboeemaa.X
open Go

def pst (W : Nat → Bool) (h : Heap) (n : Nat) (v0 : XV) (v1 : XV) : Option (XV × Heap) := xpure W (XO.ev fun _ => .undef) h (.st n (.c v0) (.c v1))
def papp (W : Nat → Bool) (h : Heap) (ty esz bytes : Nat) (v0 : XV) (v1 : XV) : Option (XV × Heap) := xpure W (XO.ev fun _ => .undef) h (.app ty esz bytes (.c v0) (.c v1))
def pbox (W : Nat → Bool) (h : Heap) (ty n : Nat) (v0 : XV) : Option (XV × Heap) := xpure W (XO.ev fun _ => .undef) h (.box ty n (.c v0))
def pnew (W : Nat → Bool) (h : Heap) (ty : Nat) (zero : List XV)  : Option (XV × Heap) := xpure W (XO.ev fun _ => .undef) h (.new ty zero)
def pmkS (W : Nat → Bool) (h : Heap) (ty esz bytes : Nat) (zero : List XV) (v0 : XV) (v1 : XV) : Option (XV × Heap) := xpure W (XO.ev fun _ => .undef) h (.mkS ty esz bytes zero (.c v0) (.c v1))
def piaA (W : Nat → Bool) (h : Heap) (len esz : Nat) (v0 : XV) (v1 : XV) : Option (XV × Heap) := xpure W (XO.ev fun _ => .undef) h (.iaA len esz (.c v0) (.c v1))
def pslc (h : Heap) (ty esz : Nat) (x : XV) (lo hi mx : Option XV) : Option XV :=
  match optInt lo, optInt hi, optInt mx with
  | some l, some e, some m => xslice h ty esz x l e m
  | _, _, _ => none
def pbuild (zero : List XV) (ps : List (Nat × Nat × XV)) : Option XV := (fill zero ps).map .agg
def pbuildS (h : Heap) (ty len : Nat) (zero : List XV) (ps : List (Nat × Nat × XV)) : Option (XV × Heap) := (fill zero ps).map fun cs => (.row h.length 0 len len, h ++ [⟨cs, ty, true⟩])
def evp (fr : Fr) (p : Nat × Nat × XO) : Nat × Nat × XV := (p.1, p.2.1, p.2.2.ev fr)

def Put1D (E : Env) (W : Nat → Bool) (o : Option XV) (d : Option Nat) (hs : Nat) (r : List XOper) (ld wr : List Nat) (k : List It) (Q : QE) (fr : Fr) (h : Heap) : Prop :=
  match o with
  | some v => Run E W (.draw hs r ld wr :: k) Q (fr.put d v) h
  | none => False
def Put2D (E : Env) (W : Nat → Bool) (o : Option (XV × Heap)) (d : Option Nat) (hs : Nat) (r : List XOper) (ld wr : List Nat) (k : List It) (Q : QE) (fr : Fr) : Prop :=
  match o with
  | some (v, h) => Run E W (.draw hs r ld wr :: k) Q (fr.put d v) h
  | none => False
def CallD (E : Env) (W : Nat → Bool) (f : XV) (args : List XV) (d : Option Nat) (hs : Nat) (r : List XOper) (ld wr : List Nat) (k : List It) (Q : QE) (fr : Fr) (h : Heap) : Prop :=
  CallW E W f args h (fun v h' => Run E W (.draw hs r ld wr :: k) Q (fr.put d v) h')
section
variable {E : Env} {W : Nat → Bool} {k : List It} {Q : QE} {fr : Fr} {h : Heap} {r : List XOper} {d : Option Nat} {cl hs : Nat} {ld wr : List Nat} {kk : IntKind}

theorem run_st {n : Nat} {x y : XO} : Run E W (.ops (⟨d, .st n x y, none, cl⟩ :: r) :: k) Q fr h = Put2 E W (pst W h n (x.ev fr) (y.ev fr)) d r k Q fr := by
  rw [run_pure (fun _ _ e => by cases e)]; rfl
theorem run_app {ty esz bytes : Nat} {x y : XO} : Run E W (.ops (⟨d, .app ty esz bytes x y, none, cl⟩ :: r) :: k) Q fr h = Put2 E W (papp W h ty esz bytes (x.ev fr) (y.ev fr)) d r k Q fr := by
  rw [run_pure (fun _ _ e => by cases e)]; rfl
theorem run_box {ty n : Nat} {x : XO} : Run E W (.ops (⟨d, .box ty n x, none, cl⟩ :: r) :: k) Q fr h = Put2 E W (pbox W h ty n (x.ev fr)) d r k Q fr := by
  rw [run_pure (fun _ _ e => by cases e)]; rfl
theorem run_new {ty : Nat} {zero : List XV} : Run E W (.ops (⟨d, .new ty zero, none, cl⟩ :: r) :: k) Q fr h = Put2 E W (pnew W h ty zero ) d r k Q fr := by
  rw [run_pure (fun _ _ e => by cases e)]; rfl
theorem run_mkS {ty esz bytes : Nat} {zero : List XV} {x y : XO} : Run E W (.ops (⟨d, .mkS ty esz bytes zero x y, none, cl⟩ :: r) :: k) Q fr h = Put2 E W (pmkS W h ty esz bytes zero (x.ev fr) (y.ev fr)) d r k Q fr := by
  rw [run_pure (fun _ _ e => by cases e)]; rfl
theorem run_iaA {len esz : Nat} {x y : XO} : Run E W (.ops (⟨d, .iaA len esz x y, none, cl⟩ :: r) :: k) Q fr h = Put2 E W (piaA W h len esz (x.ev fr) (y.ev fr)) d r k Q fr := by
  rw [run_pure (fun _ _ e => by cases e)]; rfl
theorem run_slc {ty esz : Nat} {x : XO} {lo hi mx : Option XO} : Run E W (.ops (⟨d, .slc ty esz x lo hi mx, none, cl⟩ :: r) :: k) Q fr h = Put1 E W (pslc h ty esz (x.ev fr) (lo.map (XO.ev fr)) (hi.map (XO.ev fr)) (mx.map (XO.ev fr))) d r k Q fr h := by
  rw [run_pure (fun _ _ e => by cases e)]
  refine put2_1 ?_
  simp only [xpure, pslc]
  cases optInt (lo.map (XO.ev fr)) <;> try rfl
  cases optInt (hi.map (XO.ev fr)) <;> try rfl
  cases optInt (mx.map (XO.ev fr)) <;> try rfl
  rename_i l e m
  dsimp only
  cases xslice h ty esz (x.ev fr) l e m <;> rfl
theorem run_build {zero : List XV} {ps : List (Nat × Nat × XO)} : Run E W (.ops (⟨d, .build zero ps, none, cl⟩ :: r) :: k) Q fr h = Put1 E W (pbuild zero (ps.map (evp fr))) d r k Q fr h := by
  rw [run_pure (fun _ _ e => by cases e)]
  refine put2_1 ?_
  simp only [xpure, pbuild]
  have e : ps.map (fun p => (p.1, p.2.1, XO.ev fr p.2.2)) = ps.map (evp fr) := rfl
  rw [e]
  cases fill zero (ps.map (evp fr)) <;> rfl
theorem run_buildS {ty len : Nat} {zero : List XV} {ps : List (Nat × Nat × XO)} : Run E W (.ops (⟨d, .buildS ty len zero ps, none, cl⟩ :: r) :: k) Q fr h = Put2 E W (pbuildS h ty len zero (ps.map (evp fr))) d r k Q fr := by
  rw [run_pure (fun _ _ e => by cases e)]
  congr 1
  simp only [xpure, pbuildS]
  have e : ps.map (fun p => (p.1, p.2.1, XO.ev fr p.2.2)) = ps.map (evp fr) := rfl
  rw [e]
  cases fill zero (ps.map (evp fr)) <;> rfl
theorem run_draw_nil : Run E W (.draw hs [] ld wr :: k) Q fr h = Run E W k Q fr h := (rfl)
theorem put1d_some {v : XV} : Put1D E W (some v) d hs r ld wr k Q fr h = Run E W (.draw hs r ld wr :: k) Q (fr.put d v) h := (rfl)
theorem run_d4 {op : XOp} : Run E W (.draw hs (⟨d, op, none, 4⟩ :: r) ld wr :: k) Q fr h = Put2D E W (xpure (fun _ => false) (XO.ev fr) h op) d hs r ld wr k Q fr := by
  simp only [Run, cont, WD, OpD, Put2D]
  rw [if_neg (by decide), if_pos trivial]
  cases xpure (fun _ => false) (XO.ev fr) h op <;> rfl
theorem put2d_1 {o : Option XV} : Put2D E W (o.map fun v => (v, h)) d hs r ld wr k Q fr = Put1D E W o d hs r ld wr k Q fr h := by
  cases o <;> rfl
theorem xp_bin {op : BinOp} {x y : XO} : xpure W (XO.ev fr) h (.bin op x y) = (xbin op (x.ev fr) (y.ev fr)).map fun v => (v, h) := by
  simp only [xpure]; cases xbin op (x.ev fr) (y.ev fr) <;> rfl
theorem xp_un {op : UnOp} {x : XO} : xpure W (XO.ev fr) h (.un op x) = (xun op (x.ev fr)).map fun v => (v, h) := by
  simp only [xpure]; cases xun op (x.ev fr) <;> rfl
theorem xp_ld {n : Option Nat} {x : XO} : xpure W (XO.ev fr) h (.ld n x) = (xld h n (x.ev fr)).map fun v => (v, h) := by
  cases n with
  | none =>
    simp only [xpure]
    cases x.ev fr <;> simp only [xld] <;> try rfl
    · rename_i cs o
      cases cs[o]? <;> rfl
    · rename_i b o
      cases getCell h b o <;> rfl
  | some n =>
    simp only [xpure]
    cases x.ev fr <;> simp only [xld] <;> try rfl
    · split <;> rfl
    · rename_i b o
      cases getCells h b o n <;> rfl
theorem xp_fa {off : Nat} {x : XO} : xpure W (XO.ev fr) h (.fa off x) = (xfa off (x.ev fr)).map fun v => (v, h) := by
  simp only [xpure]; cases x.ev fr <;> rfl
theorem xp_ia {esz : Nat} {x i : XO} : xpure W (XO.ev fr) h (.ia esz x i) = (xia esz (x.ev fr) (i.ev fr)).map fun v => (v, h) := by
  simp only [xpure]
  cases x.ev fr <;> cases i.ev fr <;> simp only [xia] <;> try rfl
  · rename_i es kk n
    by_cases h0 : 0 ≤ n
    · rw [if_pos h0, if_pos h0]
      cases es[n.toNat]? with
      | none => rfl
      | some cs =>
        dsimp only
        by_cases hc : cs.length = esz
        · rw [if_pos hc, if_pos hc]; rfl
        · rw [if_neg hc, if_neg hc]; rfl
    · rw [if_neg h0, if_neg h0]; rfl
  · split <;> rfl
theorem xp_mv {x : XO} : xpure W (XO.ev fr) h (.mv x) = (some (x.ev fr)).map fun v => (v, h) := (rfl)
theorem d4_bin {op : BinOp} {x y : XO} : Run E W (.draw hs (⟨d, .bin op x y, none, 4⟩ :: r) ld wr :: k) Q fr h = Put1D E W (xbin op (x.ev fr) (y.ev fr)) d hs r ld wr k Q fr h := by
  rw [run_d4, xp_bin, put2d_1]
theorem d4_un {op : UnOp} {x : XO} : Run E W (.draw hs (⟨d, .un op x, none, 4⟩ :: r) ld wr :: k) Q fr h = Put1D E W (xun op (x.ev fr)) d hs r ld wr k Q fr h := by
  rw [run_d4, xp_un, put2d_1]
theorem d4_ld {n : Option Nat} {x : XO} : Run E W (.draw hs (⟨d, .ld n x, none, 4⟩ :: r) ld wr :: k) Q fr h = Put1D E W (xld h n (x.ev fr)) d hs r ld wr k Q fr h := by
  rw [run_d4, xp_ld, put2d_1]
theorem d4_fa {off : Nat} {x : XO} : Run E W (.draw hs (⟨d, .fa off x, none, 4⟩ :: r) ld wr :: k) Q fr h = Put1D E W (xfa off (x.ev fr)) d hs r ld wr k Q fr h := by
  rw [run_d4, xp_fa, put2d_1]
theorem d4_ia {esz : Nat} {x i : XO} : Run E W (.draw hs (⟨d, .ia esz x i, none, 4⟩ :: r) ld wr :: k) Q fr h = Put1D E W (xia esz (x.ev fr) (i.ev fr)) d hs r ld wr k Q fr h := by
  rw [run_d4, xp_ia, put2d_1]
theorem d4_mv {x : XO} : Run E W (.draw hs (⟨d, .mv x, none, 4⟩ :: r) ld wr :: k) Q fr h = Put1D E W (some (x.ev fr)) d hs r ld wr k Q fr h := by
  rw [run_d4, xp_mv, put2d_1]
theorem run_d3_call {f : XO} {args : List XO} : Run E W (.draw hs (⟨d, .call f args, none, 3⟩ :: r) ld wr :: k) Q fr h = CallD E W (f.ev fr) (args.map (XO.ev fr)) d hs r ld wr k Q fr h := by
  simp only [Run, cont, WD, OpD, CallD]
  rw [if_neg (by decide), if_neg (by decide), if_neg (by decide), if_pos trivial]
  rfl
end
end Go.Proofs.Ytddkoiapboeemaa.X
