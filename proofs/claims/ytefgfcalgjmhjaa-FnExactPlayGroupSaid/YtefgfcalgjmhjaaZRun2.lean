/- Running X's code by rewriting: the other operations; regions of open order. -/
import Derived.Test.YtefgfcalgjmhjaaZRun
set_option linter.unusedVariables false
set_option linter.unusedSimpArgs false
namespace Go.Proofs.Ytefgfcalgjmhjaa.X
open Go

def pst (W : Nat → Bool) (h : Heap) (n : Nat) (v0 : XV) (v1 : XV) : Option (XV × Heap) := xpure W (XO.ev fun _ => .undef) h (.st n (.c v0) (.c v1))
def papp (W : Nat → Bool) (h : Heap) (ty esz bytes : Nat) (v0 : XV) (v1 : XV) : Option (XV × Heap) := xpure W (XO.ev fun _ => .undef) h (.app ty esz bytes (.c v0) (.c v1))
def pclr (W : Nat → Bool) (h : Heap) (ty : Nat) (zero : List XV) (v0 : XV) : Option (XV × Heap) := xpure W (XO.ev fun _ => .undef) h (.clr ty zero (.c v0))
def pbox (W : Nat → Bool) (h : Heap) (ty n : Nat) (v0 : XV) : Option (XV × Heap) := xpure W (XO.ev fun _ => .undef) h (.box ty n (.c v0))
def pnew (W : Nat → Bool) (h : Heap) (ty : Nat) (zero : List XV)  : Option (XV × Heap) := xpure W (XO.ev fun _ => .undef) h (.new ty zero)
def pmkS (W : Nat → Bool) (h : Heap) (ty esz bytes : Nat) (zero : List XV) (v0 : XV) (v1 : XV) : Option (XV × Heap) := xpure W (XO.ev fun _ => .undef) h (.mkS ty esz bytes zero (.c v0) (.c v1))
def pslc (h : Heap) (ty esz : Nat) (x : XV) (lo hi mx : Option XV) : Option XV :=
  match optInt lo, optInt hi, optInt mx with
  | some l, some e, some m => xslice h ty esz x l e m
  | _, _, _ => none
def pbuild (zero : List XV) (ps : List (Nat × Nat × XV)) : Option XV := (fill zero ps).map .agg
def pbuildS (h : Heap) (ty len : Nat) (zero : List XV) (ps : List (Nat × Nat × XV)) : Option (XV × Heap) := (fill zero ps).map fun cs => (.row h.length 0 len len, h ++ [⟨cs, ty, true⟩])
def pmnx (mx : Bool) : List XV → Option XV
  | .int k a :: r => xfold mx a k r
  | _ => none
def evp (fr : Fr) (p : Nat × Nat × XO) : Nat × Nat × XV := (p.1, p.2.1, p.2.2.ev fr)

def Put1D (E : Env) (W : Nat → Bool) (o : Option XV) (d : Option Nat) (hs : Nat) (r : List XOper) (ld wr : List Nat) (k : List It) (Q : QE) (fr : Fr) (h : Heap) : Prop :=
  match o with
  | some v => Run E W (.draw hs r ld wr :: k) Q (fr.put d v) h
  | none => False
def Put2D (E : Env) (W : Nat → Bool) (o : Option (XV × Heap)) (d : Option Nat) (hs : Nat) (r : List XOper) (ld wr : List Nat) (k : List It) (Q : QE) (fr : Fr) : Prop :=
  match o with
  | some (v, h) => Run E W (.draw hs r ld wr :: k) Q (fr.put d v) h
  | none => False
/-- A free load. -/
def LdD (E : Env) (W : Nat → Bool) (n : Option Nat) (v : XV) (d : Option Nat) (hs : Nat) (r : List XOper) (ld wr : List Nat) (k : List It) (Q : QE) (fr : Fr) (h : Heap) : Prop :=
  match v with
  | .ptr b o => (b < hs ∧ wr.contains b = false) ∧ Put1D E W (xld h n (.ptr b o)) d hs r (b :: ld) wr k Q fr h
  | v => Put1D E W (xld h n v) d hs r ld wr k Q fr h
def GuardD (E : Env) (W : Nat → Bool) (v : XV) (want : Bool) (o : XOper) (hs : Nat) (r : List XOper) (ld wr : List Nat) (k : List It) (Q : QE) (fr : Fr) (h : Heap) : Prop :=
  match v with
  | .bool b => if b = want then Run E W (.draw hs (o :: r) ld wr :: k) Q fr h else Run E W (.draw hs r ld wr :: k) Q (fr.put o.dst (.tup [])) h
  | .tup _ => Run E W (.draw hs r ld wr :: k) Q (fr.put o.dst (.tup [])) h
  | _ => False
def CallD (E : Env) (W : Nat → Bool) (f : XV) (args : List XV) (d : Option Nat) (hs : Nat) (r : List XOper) (ld wr : List Nat) (k : List It) (Q : QE) (fr : Fr) (h : Heap) : Prop :=
  CallW E W f args h (fun v h' => Run E W (.draw hs r ld wr :: k) Q (fr.put d v) h')
/-- A quiet call. -/
def CallQ (E : Env) (W : Nat → Bool) (f : XV) (args : List XV) (ms : List Nat) (d : Option Nat) (hs : Nat) (r : List XOper) (ld wr : List Nat) (k : List It) (Q : QE) (fr : Fr) (h : Heap) : Prop :=
  disjoint ms ld = true ∧ CallW E (quietW W hs ms) f args h (fun v h' => Run E W (.draw hs r ld (ms ++ wr) :: k) Q (fr.put d v) h')
/-- What a quiet call may write. -/
def msOf (E : Env) (f : XV) (args : List XV) : List Nat :=
  match f with
  | .fn g caps => if E.mode g ≠ 0 then [] else (args ++ caps).flatMap ptrOf
  | _ => []
def QuietD (E : Env) (W : Nat → Bool) (o : (Nat → Bool) → Option (XV × Heap)) (ms : List Nat) (d : Option Nat) (hs : Nat) (r : List XOper) (ld wr : List Nat) (k : List It) (Q : QE) (fr : Fr) : Prop :=
  disjoint ms ld = true ∧ Put2D E W (o (quietW W hs ms)) d hs r ld (ms ++ wr) k Q fr

section
variable {E : Env} {W : Nat → Bool} {k : List It} {Q : QE} {fr : Fr} {h : Heap} {r : List XOper} {d : Option Nat} {cl hs : Nat} {ld wr : List Nat} {kk : IntKind}

theorem run_st {n : Nat} {x y : XO} : Run E W (.ops (⟨d, .st n x y, none, cl⟩ :: r) :: k) Q fr h = Put2 E W (pst W h n (x.ev fr) (y.ev fr)) d r k Q fr := by
  rw [run_pure (fun _ _ e => by cases e)]; rfl
theorem run_app {ty esz bytes : Nat} {x y : XO} : Run E W (.ops (⟨d, .app ty esz bytes x y, none, cl⟩ :: r) :: k) Q fr h = Put2 E W (papp W h ty esz bytes (x.ev fr) (y.ev fr)) d r k Q fr := by
  rw [run_pure (fun _ _ e => by cases e)]; rfl
theorem run_clr {ty : Nat} {zero : List XV} {x : XO} : Run E W (.ops (⟨d, .clr ty zero x, none, cl⟩ :: r) :: k) Q fr h = Put2 E W (pclr W h ty zero (x.ev fr)) d r k Q fr := by
  rw [run_pure (fun _ _ e => by cases e)]; rfl
theorem run_box {ty n : Nat} {x : XO} : Run E W (.ops (⟨d, .box ty n x, none, cl⟩ :: r) :: k) Q fr h = Put2 E W (pbox W h ty n (x.ev fr)) d r k Q fr := by
  rw [run_pure (fun _ _ e => by cases e)]; rfl
theorem run_new {ty : Nat} {zero : List XV} : Run E W (.ops (⟨d, .new ty zero, none, cl⟩ :: r) :: k) Q fr h = Put2 E W (pnew W h ty zero ) d r k Q fr := by
  rw [run_pure (fun _ _ e => by cases e)]; rfl
theorem run_mkS {ty esz bytes : Nat} {zero : List XV} {x y : XO} : Run E W (.ops (⟨d, .mkS ty esz bytes zero x y, none, cl⟩ :: r) :: k) Q fr h = Put2 E W (pmkS W h ty esz bytes zero (x.ev fr) (y.ev fr)) d r k Q fr := by
  rw [run_pure (fun _ _ e => by cases e)]; rfl
theorem run_slc {ty esz : Nat} {x : XO} {lo hi mx : Option XO} : Run E W (.ops (⟨d, .slc ty esz x lo hi mx, none, cl⟩ :: r) :: k) Q fr h = Put1 E W (pslc h ty esz (x.ev fr) (lo.map (XO.ev fr)) (hi.map (XO.ev fr)) (mx.map (XO.ev fr))) d r k Q fr h := by
  rw [run_pure (fun _ _ e => by cases e)]
  refine put2_1 ?_
  simp only [xpure, pslc]
  cases optInt (lo.map (XO.ev fr)) <;> try rfl
  cases optInt (hi.map (XO.ev fr)) <;> try rfl
  cases optInt (mx.map (XO.ev fr)) <;> try rfl
  rename_i l e m
  dsimp only
  cases xslice h ty esz (x.ev fr) l e m <;> rfl
theorem run_build {zero : List XV} {ps : List (Nat × Nat × XO)} : Run E W (.ops (⟨d, .build zero ps, none, cl⟩ :: r) :: k) Q fr h = Put1 E W (pbuild zero (ps.map (evp fr))) d r k Q fr h := by
  rw [run_pure (fun _ _ e => by cases e)]
  refine put2_1 ?_
  simp only [xpure, pbuild]
  have e : ps.map (fun p => (p.1, p.2.1, XO.ev fr p.2.2)) = ps.map (evp fr) := rfl
  rw [e]
  cases fill zero (ps.map (evp fr)) <;> rfl
theorem run_buildS {ty len : Nat} {zero : List XV} {ps : List (Nat × Nat × XO)} : Run E W (.ops (⟨d, .buildS ty len zero ps, none, cl⟩ :: r) :: k) Q fr h = Put2 E W (pbuildS h ty len zero (ps.map (evp fr))) d r k Q fr := by
  rw [run_pure (fun _ _ e => by cases e)]
  congr 1
  simp only [xpure, pbuildS]
  have e : ps.map (fun p => (p.1, p.2.1, XO.ev fr p.2.2)) = ps.map (evp fr) := rfl
  rw [e]
  cases fill zero (ps.map (evp fr)) <;> rfl
theorem run_mnx {mx : Bool} {xs : List XO} : Run E W (.ops (⟨d, .mnx mx xs, none, cl⟩ :: r) :: k) Q fr h = Put1 E W (pmnx mx (xs.map (XO.ev fr))) d r k Q fr h := by
  rw [run_pure (fun _ _ e => by cases e)]
  refine put2_1 ?_
  simp only [xpure]
  cases xs.map (XO.ev fr) with
  | nil => rfl
  | cons v vs =>
    cases v <;> try rfl
    rename_i k0 a0
    simp only [pmnx]
    cases xfold mx a0 k0 vs <;> rfl

theorem run_draw_nil : Run E W (.draw hs [] ld wr :: k) Q fr h = Run E W k Q fr h := (rfl)
theorem put1d_some {v : XV} : Put1D E W (some v) d hs r ld wr k Q fr h = Run E W (.draw hs r ld wr :: k) Q (fr.put d v) h := (rfl)
theorem run_guardd {op : XOp} {g : Nat} {want : Bool} : Run E W (.draw hs (⟨d, op, some (g, want), cl⟩ :: r) ld wr :: k) Q fr h = GuardD E W (fr g) want ⟨d, op, none, cl⟩ hs r ld wr k Q fr h := by
  show WD E W hs (⟨d, op, some (g, want), cl⟩ :: r) ld wr _ fr h = _
  simp only [WD, GuardD]
  cases fr g <;> rfl
theorem guardd_true {o : XOper} : GuardD E W (.bool true) true o hs r ld wr k Q fr h = Run E W (.draw hs (o :: r) ld wr :: k) Q fr h := by simp [GuardD]
theorem guardd_false {o : XOper} : GuardD E W (.bool false) false o hs r ld wr k Q fr h = Run E W (.draw hs (o :: r) ld wr :: k) Q fr h := by simp [GuardD]
theorem guardd_off {o : XOper} : GuardD E W (.bool false) true o hs r ld wr k Q fr h = Run E W (.draw hs r ld wr :: k) Q (fr.put o.dst (.tup [])) h := by simp [GuardD]
theorem guardd_off' {o : XOper} : GuardD E W (.bool true) false o hs r ld wr k Q fr h = Run E W (.draw hs r ld wr :: k) Q (fr.put o.dst (.tup [])) h := by simp [GuardD]
theorem guardd_split {o : XOper} {t want : Bool} (h1 : t = true → GuardD E W (.bool true) want o hs r ld wr k Q fr h) (h2 : t = false → GuardD E W (.bool false) want o hs r ld wr k Q fr h) : GuardD E W (.bool t) want o hs r ld wr k Q fr h := by
  cases t
  · exact h2 rfl
  · exact h1 rfl
theorem run_d4 {op : XOp} : Run E W (.draw hs (⟨d, op, none, 4⟩ :: r) ld wr :: k) Q fr h = Put2D E W (xpure (fun _ => false) (XO.ev fr) h op) d hs r ld wr k Q fr := by
  simp only [Run, cont, WD, OpD, Put2D]
  rw [if_neg (by decide), if_pos trivial]
  cases xpure (fun _ => false) (XO.ev fr) h op <;> rfl
theorem run_d1 {op : XOp} (hf : freeReads (XO.ev fr) op = []) : Run E W (.draw hs (⟨d, op, none, 1⟩ :: r) ld wr :: k) Q fr h = Put2D E W (xpure (fun _ => false) (XO.ev fr) h op) d hs r ld wr k Q fr := by
  simp only [Run, cont, WD, OpD, Put2D, hf]
  rw [if_pos trivial]
  simp only [List.all_nil, disjoint, true_and, List.nil_append]
  cases xpure (fun _ => false) (XO.ev fr) h op <;> rfl
theorem put2d_1 {o : Option XV} : Put2D E W (o.map fun v => (v, h)) d hs r ld wr k Q fr = Put1D E W o d hs r ld wr k Q fr h := by
  cases o <;> rfl
theorem xp_bin {op : BinOp} {x y : XO} : xpure W (XO.ev fr) h (.bin op x y) = (xbin op (x.ev fr) (y.ev fr)).map fun v => (v, h) := by
  simp only [xpure]; cases xbin op (x.ev fr) (y.ev fr) <;> rfl
theorem xp_un {op : UnOp} {x : XO} : xpure W (XO.ev fr) h (.un op x) = (xun op (x.ev fr)).map fun v => (v, h) := by
  simp only [xpure]; cases xun op (x.ev fr) <;> rfl
theorem xp_ld {n : Option Nat} {x : XO} : xpure W (XO.ev fr) h (.ld n x) = (xld h n (x.ev fr)).map fun v => (v, h) := by
  cases n with
  | none =>
    simp only [xpure]
    cases x.ev fr <;> simp only [xld] <;> try rfl
    · rename_i cs o
      cases cs[o]? <;> rfl
    · rename_i b o
      cases getCell h b o <;> rfl
  | some n =>
    simp only [xpure]
    cases x.ev fr <;> simp only [xld] <;> try rfl
    · split <;> rfl
    · rename_i b o
      cases getCells h b o n <;> rfl
theorem xp_fa {off : Nat} {x : XO} : xpure W (XO.ev fr) h (.fa off x) = (xfa off (x.ev fr)).map fun v => (v, h) := by
  simp only [xpure]; cases x.ev fr <;> rfl
theorem xp_ia {esz : Nat} {x i : XO} : xpure W (XO.ev fr) h (.ia esz x i) = (xia esz (x.ev fr) (i.ev fr)).map fun v => (v, h) := by
  simp only [xpure]
  cases x.ev fr <;> cases i.ev fr <;> simp only [xia] <;> try rfl
  · rename_i es kk n
    by_cases h0 : 0 ≤ n
    · rw [if_pos h0, if_pos h0]
      cases es[n.toNat]? with
      | none => rfl
      | some cs =>
        dsimp only
        by_cases hc : cs.length = esz
        · rw [if_pos hc, if_pos hc]; rfl
        · rw [if_neg hc, if_neg hc]; rfl
    · rw [if_neg h0, if_neg h0]; rfl
  · split <;> rfl
theorem xp_len {x : XO} : xpure W (XO.ev fr) h (.len x) = (xlen (x.ev fr)).map fun v => (v, h) := by
  simp only [xpure]; cases x.ev fr <;> rfl
theorem xp_pick {c x y : XO} : xpure W (XO.ev fr) h (.pick c x y) = (xpick (c.ev fr) (x.ev fr) (y.ev fr)).map fun v => (v, h) := by
  simp only [xpure]
  cases c.ev fr <;> try rfl
  rename_i t
  cases t <;> rfl
theorem xp_ext {x : XO} {i : Nat} : xpure W (XO.ev fr) h (.ext x i) = (xext i (x.ev fr)).map fun v => (v, h) := by
  simp only [xpure]
  cases x.ev fr <;> try rfl
  rename_i vs
  simp only [xext]
  cases vs[i]? <;> rfl
theorem xp_chk {x : XO} : xpure W (XO.ev fr) h (.chk x) = (xchk (x.ev fr)).map fun v => (v, h) := by
  simp only [xpure]; cases x.ev fr <;> rfl
theorem xp_eqb {n : Bool} {x y : XO} : xpure W (XO.ev fr) h (.eqb n x y) = (xeqb n (x.ev fr) (y.ev fr)).map fun v => (v, h) := by
  simp only [xpure]
  cases x.ev fr <;> cases y.ev fr <;> rfl
theorem xp_slc {ty esz : Nat} {x : XO} {lo hi mx : Option XO} : xpure W (XO.ev fr) h (.slc ty esz x lo hi mx) = (pslc h ty esz (x.ev fr) (lo.map (XO.ev fr)) (hi.map (XO.ev fr)) (mx.map (XO.ev fr))).map fun v => (v, h) := by
  simp only [xpure, pslc]
  cases optInt (lo.map (XO.ev fr)) <;> try rfl
  cases optInt (hi.map (XO.ev fr)) <;> try rfl
  cases optInt (mx.map (XO.ev fr)) <;> try rfl
  rename_i l e m
  dsimp only
  cases xslice h ty esz (x.ev fr) l e m <;> rfl
theorem xp_build {zero : List XV} {ps : List (Nat × Nat × XO)} : xpure W (XO.ev fr) h (.build zero ps) = (pbuild zero (ps.map (evp fr))).map fun v => (v, h) := by
  simp only [xpure, pbuild]
  have e : ps.map (fun p => (p.1, p.2.1, XO.ev fr p.2.2)) = ps.map (evp fr) := rfl
  rw [e]
  cases fill zero (ps.map (evp fr)) <;> rfl
theorem xp_mnx {mx : Bool} {xs : List XO} : xpure W (XO.ev fr) h (.mnx mx xs) = (pmnx mx (xs.map (XO.ev fr))).map fun v => (v, h) := by
  simp only [xpure]
  cases xs.map (XO.ev fr) with
  | nil => rfl
  | cons v vs =>
    cases v <;> try rfl
    rename_i k0 a0
    simp only [pmnx]
    cases xfold mx a0 k0 vs <;> rfl
theorem xp_mv {x : XO} : xpure W (XO.ev fr) h (.mv x) = (some (x.ev fr)).map fun v => (v, h) := (rfl)
theorem d4_bin {op : BinOp} {x y : XO} : Run E W (.draw hs (⟨d, .bin op x y, none, 4⟩ :: r) ld wr :: k) Q fr h = Put1D E W (xbin op (x.ev fr) (y.ev fr)) d hs r ld wr k Q fr h := by
  rw [run_d4, xp_bin, put2d_1]
theorem d4_un {op : UnOp} {x : XO} : Run E W (.draw hs (⟨d, .un op x, none, 4⟩ :: r) ld wr :: k) Q fr h = Put1D E W (xun op (x.ev fr)) d hs r ld wr k Q fr h := by
  rw [run_d4, xp_un, put2d_1]
theorem d4_ld {n : Option Nat} {x : XO} : Run E W (.draw hs (⟨d, .ld n x, none, 4⟩ :: r) ld wr :: k) Q fr h = Put1D E W (xld h n (x.ev fr)) d hs r ld wr k Q fr h := by
  rw [run_d4, xp_ld, put2d_1]
theorem d1_fa {off : Nat} {x : XO} : Run E W (.draw hs (⟨d, .fa off x, none, 1⟩ :: r) ld wr :: k) Q fr h = Put1D E W (xfa off (x.ev fr)) d hs r ld wr k Q fr h := by
  rw [run_d1 rfl, xp_fa, put2d_1]
theorem d4_fa {off : Nat} {x : XO} : Run E W (.draw hs (⟨d, .fa off x, none, 4⟩ :: r) ld wr :: k) Q fr h = Put1D E W (xfa off (x.ev fr)) d hs r ld wr k Q fr h := by
  rw [run_d4, xp_fa, put2d_1]
theorem d4_ia {esz : Nat} {x i : XO} : Run E W (.draw hs (⟨d, .ia esz x i, none, 4⟩ :: r) ld wr :: k) Q fr h = Put1D E W (xia esz (x.ev fr) (i.ev fr)) d hs r ld wr k Q fr h := by
  rw [run_d4, xp_ia, put2d_1]
theorem d1_len {x : XO} : Run E W (.draw hs (⟨d, .len x, none, 1⟩ :: r) ld wr :: k) Q fr h = Put1D E W (xlen (x.ev fr)) d hs r ld wr k Q fr h := by
  rw [run_d1 rfl, xp_len, put2d_1]
theorem d4_len {x : XO} : Run E W (.draw hs (⟨d, .len x, none, 4⟩ :: r) ld wr :: k) Q fr h = Put1D E W (xlen (x.ev fr)) d hs r ld wr k Q fr h := by
  rw [run_d4, xp_len, put2d_1]
theorem d4_pick {c x y : XO} : Run E W (.draw hs (⟨d, .pick c x y, none, 4⟩ :: r) ld wr :: k) Q fr h = Put1D E W (xpick (c.ev fr) (x.ev fr) (y.ev fr)) d hs r ld wr k Q fr h := by
  rw [run_d4, xp_pick, put2d_1]
theorem d1_ext {x : XO} {i : Nat} : Run E W (.draw hs (⟨d, .ext x i, none, 1⟩ :: r) ld wr :: k) Q fr h = Put1D E W (xext i (x.ev fr)) d hs r ld wr k Q fr h := by
  rw [run_d1 rfl, xp_ext, put2d_1]
theorem d4_ext {x : XO} {i : Nat} : Run E W (.draw hs (⟨d, .ext x i, none, 4⟩ :: r) ld wr :: k) Q fr h = Put1D E W (xext i (x.ev fr)) d hs r ld wr k Q fr h := by
  rw [run_d4, xp_ext, put2d_1]
theorem d4_chk {x : XO} : Run E W (.draw hs (⟨d, .chk x, none, 4⟩ :: r) ld wr :: k) Q fr h = Put1D E W (xchk (x.ev fr)) d hs r ld wr k Q fr h := by
  rw [run_d4, xp_chk, put2d_1]
theorem d4_eqb {n : Bool} {x y : XO} : Run E W (.draw hs (⟨d, .eqb n x y, none, 4⟩ :: r) ld wr :: k) Q fr h = Put1D E W (xeqb n (x.ev fr) (y.ev fr)) d hs r ld wr k Q fr h := by
  rw [run_d4, xp_eqb, put2d_1]
theorem d1_slc {ty esz : Nat} {x : XO} {lo hi mx : Option XO} : Run E W (.draw hs (⟨d, .slc ty esz x lo hi mx, none, 1⟩ :: r) ld wr :: k) Q fr h = Put1D E W (pslc h ty esz (x.ev fr) (lo.map (XO.ev fr)) (hi.map (XO.ev fr)) (mx.map (XO.ev fr))) d hs r ld wr k Q fr h := by
  rw [run_d1 rfl, xp_slc, put2d_1]
theorem d4_slc {ty esz : Nat} {x : XO} {lo hi mx : Option XO} : Run E W (.draw hs (⟨d, .slc ty esz x lo hi mx, none, 4⟩ :: r) ld wr :: k) Q fr h = Put1D E W (pslc h ty esz (x.ev fr) (lo.map (XO.ev fr)) (hi.map (XO.ev fr)) (mx.map (XO.ev fr))) d hs r ld wr k Q fr h := by
  rw [run_d4, xp_slc, put2d_1]
theorem d4_build {zero : List XV} {ps : List (Nat × Nat × XO)} : Run E W (.draw hs (⟨d, .build zero ps, none, 4⟩ :: r) ld wr :: k) Q fr h = Put1D E W (pbuild zero (ps.map (evp fr))) d hs r ld wr k Q fr h := by
  rw [run_d4, xp_build, put2d_1]
theorem d1_mnx {mx : Bool} {xs : List XO} : Run E W (.draw hs (⟨d, .mnx mx xs, none, 1⟩ :: r) ld wr :: k) Q fr h = Put1D E W (pmnx mx (xs.map (XO.ev fr))) d hs r ld wr k Q fr h := by
  rw [run_d1 rfl, xp_mnx, put2d_1]
theorem d4_mnx {mx : Bool} {xs : List XO} : Run E W (.draw hs (⟨d, .mnx mx xs, none, 4⟩ :: r) ld wr :: k) Q fr h = Put1D E W (pmnx mx (xs.map (XO.ev fr))) d hs r ld wr k Q fr h := by
  rw [run_d4, xp_mnx, put2d_1]
theorem d1_mv {x : XO} : Run E W (.draw hs (⟨d, .mv x, none, 1⟩ :: r) ld wr :: k) Q fr h = Put1D E W (some (x.ev fr)) d hs r ld wr k Q fr h := by
  rw [run_d1 rfl, xp_mv, put2d_1]
theorem d4_mv {x : XO} : Run E W (.draw hs (⟨d, .mv x, none, 4⟩ :: r) ld wr :: k) Q fr h = Put1D E W (some (x.ev fr)) d hs r ld wr k Q fr h := by
  rw [run_d4, xp_mv, put2d_1]
theorem run_d3_call {f : XO} {args : List XO} : Run E W (.draw hs (⟨d, .call f args, none, 3⟩ :: r) ld wr :: k) Q fr h = CallD E W (f.ev fr) (args.map (XO.ev fr)) d hs r ld wr k Q fr h := by
  simp only [Run, cont, WD, OpD, CallD]
  rw [if_neg (by decide), if_neg (by decide), if_neg (by decide), if_pos trivial]
  rfl
theorem run_d2_call {f : XO} {args : List XO} : Run E W (.draw hs (⟨d, .call f args, none, 2⟩ :: r) ld wr :: k) Q fr h = CallQ E W (f.ev fr) (args.map (XO.ev fr)) (msOf E (f.ev fr) (args.map (XO.ev fr))) d hs r ld wr k Q fr h := by
  simp only [Run, cont, WD, OpD, CallQ]
  rw [if_neg (by decide), if_neg (by decide), if_pos trivial]
  rfl
theorem run_d3 {op : XOp} (hop : ∀ f args, op ≠ .call f args) : Run E W (.draw hs (⟨d, op, none, 3⟩ :: r) ld wr :: k) Q fr h = Put2D E W (xpure W (XO.ev fr) h op) d hs r ld wr k Q fr := by
  simp only [Run, cont, WD, OpD, Put2D]
  rw [if_neg (by decide), if_neg (by decide), if_neg (by decide), if_pos trivial]
  cases op <;> first | exact absurd rfl (hop _ _) | (simp only [OpW]; split <;> simp_all)
theorem d1_ld {n : Option Nat} {x : XO} : Run E W (.draw hs (⟨d, .ld n x, none, 1⟩ :: r) ld wr :: k) Q fr h = LdD E W n (x.ev fr) d hs r ld wr k Q fr h := by
  simp only [Run, cont, WD, OpD]
  rw [if_pos trivial, xp_ld]
  cases hv : XO.ev fr x
  case ptr b o =>
    have e : freeReads (XO.ev fr) (.ld n x) = [b] := by simp only [freeReads, hv]
    rw [e]
    simp only [LdD, List.all_cons, List.all_nil, Bool.and_true, decide_eq_true_eq, Bool.not_eq_true', List.cons_append, List.nil_append, and_assoc, disjoint, Put1D]
    cases xld h n (XV.ptr b o) <;> rfl
  all_goals
    have e : freeReads (XO.ev fr) (.ld n x) = [] := by simp only [freeReads, hv]
    rw [e]
    simp only [LdD, List.all_nil, disjoint, true_and, List.nil_append, Put1D]
    generalize xld h n _ = o
    cases o <;> rfl
end
end Go.Proofs.Ytefgfcalgjmhjaa.X
