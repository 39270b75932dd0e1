/- A machine of this claim's own, sound for the model's, and plain theory over it: no condition (1). -/
import Derived.Calls
import Derived.Below
import Derived.Laws.Sem
import Derived.Laws.Append
import Derived.Laws.Slices
import Derived.Laws.MakeOwn
import Derived.Laws.Tables
open Array renaming getElem?_append_left→a3u,getElem?_eq_getElem→a09,getElem?_eq_some_iff→a07,getElem?_setIfInBounds→a22,getElem?_toList→a2e,length_toList→a3x,toList_append→a3z,toList_map→a3j
open Bool renaming false_eq_true→a06
open List renaming all_eq_true→a0x,eq_nil_of_length_eq_zero→a2m,flatten_cons→a0y,getElem?_append_left→a0a,getElem?_append_right→a0i,getElem?_cons_succ→a1w,getElem?_cons_zero→a1k,getElem?_drop→a1j,getElem?_eq_getElem→s8,getElem?_eq_none→a00,getElem?_eq_some_iff→r9,getElem?_map→a2i,getElem?_range→a30,getElem?_set_ne→a1o,getElem?_set→a2n,getElem?_take→a2c,getElem?_toArray→a17,length_append→t9,mapM_cons→a29,mem_cons_of_mem→a2r,mem_cons_self→a3m,mem_of_getElem?→a0o,range→a2z,replicate→a0t
open Nat renaming add_mul→a2a,le_mul_of_pos_right→a3g,le_refl→a0d,le_trans→a1q,lt_of_lt_of_le→a1a,lt_or_ge→a0z,mul_le_mul_right→a1d,succ_mul→a2o,zero_add→o8
open Option renaming getD_none→a0v,getD_some→a0r,map_none→a02,map_some→a0q
set_option linter.unusedVariables false
namespace Go.Proofs.Ytanblnjomhgphaa.X
open Go

inductive XV where
 | undef
 | int (k:IntKind) (n:Int)
 | bool (b:Bool)
 | str (s:ByteArray)
 | nil
 | list (es:List (List XV))
 | ref (cs:List XV) (off:Nat)
 | row (b off len cap:Nat)
 | ptr (b off:Nat)
 | nilptr
 | agg (cs:List XV)
 | tup (vs:List XV)
 | fn (f:Nat) (caps:List XV)
 | nilfn
 deriving Inhabited

inductive XTy where
 | int (k:IntKind)
 | bool
 | str
 | struct (fs:List (Nat × Nat))
 | slice (e:Nat)
 | array (n e:Nat)
 | ptr
 | other
 deriving DecidableEq,Inhabited

structure Blk where
 cells:List XV
 ty:TypeId
 live:Bool
 deriving Inhabited

abbrev Heap:=List Blk
abbrev Fr:=Nat→XV
def Fr.put (fr:Fr)(d:Option Nat)(v:XV) : Fr :=
 match d with
 | none=>fr
 | some d=>fun t=>if t=d then v else fr t

inductive XO where
 | t (n:Nat)
 | c (v:XV)
 deriving Inhabited

inductive XOp where
 | mv (x:XO)
 | chk (x:XO)
 | pick (c a b:XO)
 | box (ty n:Nat) (x:XO)
 | new (ty:Nat) (zero:List XV)
 | build (zero:List XV) (parts:List (Nat × Nat × XO))
 | buildS (ty len:Nat) (zero:List XV) (parts:List (Nat × Nat × XO))
 | ld (n:Option Nat) (a:XO)
 | st (n:Nat) (a v:XO)
 | fa (off:Nat) (a:XO)
 | ia (esz:Nat) (x i:XO)
 | iaA (len esz:Nat) (x i:XO)
 | sidx (x i:XO)
 | bin (op:BinOp) (x y:XO)
 | eqb (neq:Bool) (x y:XO)
 | eqs (neq:Bool) (ks:List XTy) (x y:XO)
 | un (op:UnOp) (x:XO)
 | cvt (k:IntKind) (x:XO)
 | mkS (ty esz bytes:Nat) (zero:List XV) (l c:XO)
 | slc (ty esz:Nat) (x:XO) (lo hi mx:Option XO)
 | ext (x:XO) (i:Nat)
 | mkF (f:Nat) (caps:List XO)
 | len (x:XO)
 | lens (x:XO)
 | app (ty esz bytes:Nat) (s x:XO)
 | cpy (ty esz:Nat) (d s:XO)
 | clr (ty:Nat) (zero:List XV) (x:XO)
 | mnx (mx:Bool) (xs:List XO)
 | call (f:XO) (args:List XO)
 deriving Inhabited

structure XOper where
 dst:Option Nat
 op:XOp
 guard:Option (Nat × Bool)
 cls:Nat
 deriving Inhabited

inductive XCode where
 | skip
 | ret
 | exit (id:Nat)
 | seq (a b:XCode)
 | cond (c:XO) (a b:XCode)
 | block (id:Nat) (c:XCode)
 | loop (keep:List Nat) (c:XCode)
 | reg (draw:Bool) (ops:List XOper)
 | frz (ts:List Nat)
 deriving Inhabited

inductive XRes where
 | t (n:Nat)
 | cell (t:Nat) (n:Option Nat)
 deriving Inhabited

structure XFn where
 code:XCode
 ntmps:Nat
 results:List XRes
 deriving Inhabited

def XO.ev (fr:Fr) : XO→XV
 | .t n=>fr n
 | .c v=>v

def XV.cells:XV→List XV
 | .agg cs=>cs
 | v=>[v]
def XV.one:XV→Bool
 | .agg _ | .tup _ | .undef=>false
 | _=>true

def jv (cs:List XV)(o:Nat)(vs:List XV) : List XV:=cs.take o++vs++cs.drop (o+vs.length)

def fill (cs:List XV) : List (Nat × Nat × XV)→Option (List XV)
 | []=>some cs
 | (o,n,v)::r=>if v.cells.length=n∧o+n≤cs.length∧v.cells.all XV.one=true then fill (jv cs o v.cells) r else none

def z9 (h:Heap)(b:Nat) : Option Blk :=
 match h[b]? with
 | some k=>if k.live then some k else none
 | none=>none
def kw (h:Heap)(b o n:Nat) : Option (List XV) :=
 match z9 h b with
 | some k=>if o+n≤k.cells.length then some ((k.cells.drop o).take n) else none
 | none=>none
def qal (h:Heap)(b o:Nat) : Option XV :=
 match z9 h b with
 | some k=>k.cells[o]?
 | none=>none
def setCells (W:Nat→Bool)(h:Heap)(b o:Nat)(vs:List XV) : Option Heap :=
 match z9 h b with
 | some k=>if W b=true∧o+vs.length≤k.cells.length∧vs.all XV.one=true then some (h.set b { k with cells:=jv k.cells o vs }) else none
 | none=>none
def kill (h:Heap)(b:Nat) : Heap:=h.modify b fun k=>{ k with live:=false }

def wq (op:BinOp)(x y:XV) : Option XV :=
 match op,x,y with
 | .shl,.int k a,.int _ b=>if b<0 then none else some (.int k (k.wrap (a*2 ^ (min b.toNat k.bits))))
 | .shr,.int k a,.int _ b=>if b<0 then none else some (.int k (a.fdiv (2 ^ (min b.toNat k.bits))))
 | .add,.int k a,.int k' b=>if k=k' then some (.int k (k.wrap (a+b))) else none
 | .sub,.int k a,.int k' b=>if k=k' then some (.int k (k.wrap (a - b))) else none
 | .mul,.int k a,.int k' b=>if k=k' then some (.int k (k.wrap (a*b))) else none
 | .quo,.int k a,.int k' b=>if k=k'∧b≠0 then some (.int k (k.wrap (a.tdiv b))) else none
 | .rem,.int k a,.int k' b=>if k=k'∧b≠0 then some (.int k (a.tmod b)) else none
 | .and,.int k a,.int k' b=>if k=k' then some (.int k (k.wrap (BitVec.ofInt k.bits a &&& BitVec.ofInt k.bits b).toNat)) else none
 | .or,.int k a,.int k' b=>if k=k' then some (.int k (k.wrap (BitVec.ofInt k.bits a ||| BitVec.ofInt k.bits b).toNat)) else none
 | .xor,.int k a,.int k' b=>if k=k' then some (.int k (k.wrap (BitVec.ofInt k.bits a ^^^ BitVec.ofInt k.bits b).toNat)) else none
 | .andNot,.int k a,.int k' b=>if k=k' then some (.int k (k.wrap (BitVec.ofInt k.bits a &&& ~~~(BitVec.ofInt k.bits b)).toNat)) else none
 | .eql,.int k a,.int k' b=>if k=k' then some (.bool (a == b)) else none
 | .neq,.int k a,.int k' b=>if k=k' then some (.bool (a != b)) else none
 | .lss,.int k a,.int k' b=>if k=k' then some (.bool (a<b)) else none
 | .leq,.int k a,.int k' b=>if k=k' then some (.bool (a≤b)) else none
 | .gtr,.int k a,.int k' b=>if k=k' then some (.bool (a > b)) else none
 | .geq,.int k a,.int k' b=>if k=k' then some (.bool (a ≥ b)) else none
 | .eql,.str a,.str b=>some (.bool (a.toList == b.toList))
 | .neq,.str a,.str b=>some (.bool (!(a.toList == b.toList)))
 | .add,.str a,.str b=>if ((a.size+b.size:Nat) : Int) > IntKind.i64.max then none else some (.str (a++b))
 | _,_,_=>none

def xun (op:UnOp)(x:XV) : Option XV :=
 match op,x with
 | .neg,.int k n=>some (.int k (k.wrap (0 - n)))
 | .not,.bool b=>some (.bool !b)
 | _,_=>none

def q0x:XTy→XV→XV→Option Bool
 | .int _,.int k a,.int k' b=>if k=k' then some (a == b) else none
 | .bool,.bool a,.bool b=>some (a == b)
 | .str,.str a,.str b=>some (a == b)
 | _,_,_=>none
def qlk:List XTy→List XV→List XV→Option Bool
 | [],[],[]=>some true
 | k::ks,x::xs,y::ys =>
  match q0x k x y,qlk ks xs ys with
  | some a,some b=>some (a&&b)
  | _,_=>none
 | _,_,_=>none

def qfj (mx:Bool) : Int→IntKind→List XV→Option XV
 | a,k,[]=>some (.int k a)
 | a,k,.int k' b::r=>if k=k' then (if mx then qfj mx (if b > a then b else a) k r else qfj mx (if b<a then b else a) k r) else none
 | _,_,_::_=>none

def yd (h:Heap)(esz:Nat) : XV→Option (Nat × List XV)
 | .nil=>some (0,[])
 | .list es=>if es.all (fun e=>decide (e.length=esz)) then some (es.length,es.flatten) else none
 | .row b off len _=>match kw h b off (len*esz) with
  | some cs=>some (len,cs)
  | none=>none
 | _=>none

def yc:Option XV→Option (Option Nat)
 | none=>some none
 | some (.int _ n)=>if 0≤n then some (some n.toNat) else none
 | some _=>none

def yy (h:Heap)(ty esz:Nat)(x:XV)(lo hi mx:Option Nat) : Option XV :=
 let l:=lo.getD 0
 match x with
 | .nil=>if l=0∧hi.getD 0=0∧mx=none then some .nil else none
 | .list es=>let e:=hi.getD es.length
  if l≤e∧e≤es.length∧mx=none∧es.all (fun x=>decide (x.length=esz))=true then some (.list ((es.take e).drop l)) else none
 | .row b off len cap=>let e:=hi.getD len; let m:=mx.getD cap
  if l≤e∧e≤m∧m≤cap∧(mx.isSome=true→hi.isSome=true)∧(h[b]?).map Blk.ty=some ty then some (.row b (off+l*esz) (e - l) (m - l)) else none
 | _=>none

def ze (W:Nat→Bool)(ev:XO→XV)(h:Heap) : XOp→Option (XV × Heap)
 | .mv x=>some (ev x,h)
 | .chk x=>match ev x with
  | .ptr b o=>some (.ptr b o,h)
  | .ref cs o=>some (.ref cs o,h)
  | .fn f c=>some (.fn f c,h)
  | _=>none
 | .pick c a b=>match ev c with
  | .bool t=>some (if t then ev a else ev b,h)
  | _=>none
 | .box ty n x=>if (ev x).cells.length=n∧(ev x).cells.all XV.one=true then some (.ptr h.length 0,h++[⟨(ev x).cells,ty,true⟩]) else none
 | .new ty zero=>some (.ptr h.length 0,h++[⟨zero,ty,true⟩])
 | .build zero parts=>match fill zero (parts.map fun p=>(p.1,p.2.1,ev p.2.2)) with
  | some cs=>some (.agg cs,h)
  | none=>none
 | .buildS ty len zero parts=>match fill zero (parts.map fun p=>(p.1,p.2.1,ev p.2.2)) with
  | some cs=>some (.row h.length 0 len len,h++[⟨cs,ty,true⟩])
  | none=>none
 | .ld none a=>match ev a with
  | .ptr b o=>match qal h b o with
   | some v=>some (v,h)
   | none=>none
  | .ref cs o=>match cs[o]? with
   | some v=>some (v,h)
   | none=>none
  | _=>none
 | .ld (some n) a=>match ev a with
  | .ptr b o=>match kw h b o n with
   | some vs=>some (.agg vs,h)
   | none=>none
  | .ref cs o=>if o+n≤cs.length then some (.agg ((cs.drop o).take n),h) else none
  | _=>none
 | .st n a v=>match ev a with
  | .ptr b o=>if (ev v).cells.length=n then (match setCells W h b o (ev v).cells with
   | some h'=>some (.undef,h')
   | none=>none) else none
  | _=>none
 | .fa off a=>match ev a with
  | .ptr b o=>some (.ptr b (o+off),h)
  | .ref cs o=>some (.ref cs (o+off),h)
  | _=>none
 | .ia esz x i=>match ev x,ev i with
  | .list es,.int _ n=>if 0≤n then (match es[n.toNat]? with
   | some cs=>if cs.length=esz then some (.ref cs 0,h) else none
   | none=>none) else none
  | .row b off len _,.int _ n=>if 0≤n∧n<len then some (.ptr b (off+n.toNat*esz),h) else none
  | _,_=>none
 | .iaA len esz x i=>match ev x,ev i with
  | .ptr b off,.int _ n=>if 0≤n∧n<len then some (.ptr b (off+n.toNat*esz),h) else none
  | _,_=>none
 | .sidx x i=>match ev x,ev i with
  | .str s,.int _ n=>if 0≤n then (match s[n.toNat]? with
   | some b=>some (.int .u8 b.toNat,h)
   | none=>none) else none
  | _,_=>none
 | .bin op x y=>match wq op (ev x) (ev y) with
  | some v=>some (v,h)
  | none=>none
 | .eqb neq x y=>match ev x,ev y with
  | .bool a,.bool b=>some (.bool (if neq then !(a == b) else a == b),h)
  | _,_=>none
 | .eqs neq ks x y=>match ev x,ev y with
  | .agg xs,.agg ys=>match qlk ks xs ys with
   | some b=>some (.bool (if neq then !b else b),h)
   | none=>none
  | _,_=>none
 | .un op x=>match xun op (ev x) with
  | some v=>some (v,h)
  | none=>none
 | .cvt k x=>match ev x with
  | .int _ n=>some (.int k (k.wrap n),h)
  | _=>none
 | .mkS ty esz bytes zero l c=>match ev l,ev c with
  | .int .i64 n,.int .i64 m=>if n=m∧0≤n∧n*bytes≤140737488355328∧zero.length=esz then some (.row h.length 0 n.toNat n.toNat,h++[⟨(a0t n.toNat zero).flatten,ty,true⟩]) else none
  | _,_=>none
 | .slc ty esz x lo hi mx=>match yc (lo.map ev),yc (hi.map ev),yc (mx.map ev) with
  | some l,some e,some m=>match yy h ty esz (ev x) l e m with
   | some v=>some (v,h)
   | none=>none
  | _,_,_=>none
 | .ext x i=>match ev x with
  | .tup vs=>match vs[i]? with
   | some v=>some (v,h)
   | none=>none
  | _=>none
 | .mkF f caps=>some (.fn f (caps.map ev),h)
 | .len x=>match ev x with
  | .nil=>some (.int .i64 0,h)
  | .list es=>some (.int .i64 es.length,h)
  | .row _ _ len _=>some (.int .i64 len,h)
  | _=>none
 | .lens x=>match ev x with
  | .str s=>some (.int .i64 s.size,h)
  | _=>none
 | .app ty esz bytes s x=>match yd h esz (ev x) with
  | none=>none
  | some (m,xs)=>match ev s with
   | .nil=>if m=0 then some (.nil,h) else if m*bytes≤70368744177664 then some (.row h.length 0 m m,h++[⟨xs,ty,true⟩]) else none
   | .row b off len cap =>
    if len+m≤cap then (match setCells W h b (off+len*esz) xs with
     | some h'=>some (.row b off (len+m) cap,h')
     | none=>none)
    else match z9 h b,kw h b off (len*esz) with
     | some k,some old=>if W b=true∧k.ty=ty∧(len+m)*bytes≤70368744177664∧xs.all XV.one=true then some (.row h.length 0 (len+m) (len+m),kill h b++[⟨old++xs,ty,true⟩]) else none
     | _,_=>none
   | _=>none
 | .cpy ty esz d s=>match ev d,yd h esz (ev s) with
  | .nil,some _=>some (.int .i64 0,h)
  | .row b off len _,some (m,xs)=>match setCells W h b off (xs.take (min m len*esz)) with
   | some h'=>some (.int .i64 (min m len:Nat),h')
   | none=>none
  | _,_=>none
 | .clr ty zero x=>match ev x with
  | .nil=>some (.tup [],h)
  | .row b off len _=>if len=0 then some (.tup [],h) else (match setCells W h b off (a0t len zero).flatten with
   | some h'=>some (.tup [],h')
   | none=>none)
  | _=>none
 | .mnx mx xs=>match xs.map ev with
  | .int k a::r=>match qfj mx a k r with
   | some v=>some (v,h)
   | none=>none
  | _=>none
 | .call _ _=>none

def snap (h:Heap)(sz:TypeId→Nat) : Nat→XV→Option XV
 | 0,_=>none
 | d+1,v=>match v with
  | .row b off len _=>match z9 h b with
   | some k=>match (a2z len).mapM (fun i=>match kw h b (off+i*sz k.ty) (sz k.ty) with
     | some cs=>cs.mapM (snap h sz d)
     | none=>none) with
    | some es=>some (.list es)
    | none=>some .undef
   | none=>some .undef
  | .agg cs=>match cs.mapM (snap h sz d) with
   | some cs'=>some (.agg cs')
   | none=>none
  | .nil=>some (.list [])
  | v=>some v
def cut (n0:Nat)(h:Heap)(sz:TypeId→Nat)(keep:Bool) : Nat→XV→Option XV
 | 0,_=>none
 | d+1,v=>match v with
  | .row b off len _=>if n0≤b then (match z9 h b with
   | some k=>match (a2z len).mapM (fun i=>match kw h b (off+i*sz k.ty) (sz k.ty) with
     | some cs=>cs.mapM (cut n0 h sz keep d)
     | none=>none) with
    | some es=>some (.list es)
    | none=>none
   | none=>none) else none
  | .agg cs=>match cs.mapM (cut n0 h sz keep d) with
   | some cs'=>some (.agg cs')
   | none=>none
  | .tup cs=>match cs.mapM (cut n0 h sz keep d) with
   | some cs'=>some (.tup cs')
   | none=>none
  | .fn f cs=>match cs.mapM (cut n0 h sz keep d) with
   | some cs'=>some (.fn f cs')
   | none=>none
  | .list []=>some (.list [])
  | .list es=>if keep then (match es.mapM (fun cs=>cs.mapM (cut n0 h sz keep d)) with
   | some es'=>some (.list es')
   | none=>none) else none
  | .ref cs o=>if keep then (match cs.mapM (cut n0 h sz keep d) with
   | some cs'=>some (.ref cs' o)
   | none=>none) else none
  | .nil=>some (.list [])
  | .ptr _ _=>none
  | v=>some v
def XV.free1:XV→Bool
 | .int .. | .bool _ | .str _ | .nil | .nilptr | .nilfn | .row .. | .ptr .. | .list []=>true
 | .fn _ []=>true
 | _=>false
def XV.free2:XV→Bool
 | .agg vs=>vs.all XV.free1
 | v=>v.free1
def XV.free:XV→Bool
 | .tup vs=>vs.all XV.free2
 | v=>v.free2
def qe9 (k:Blk) : Blk:=if k.cells.all XV.free1 then k else { k with live:=false }
def purge (n:Nat)(h:Heap) : Heap:=h.take n++(h.drop n).map qe9

inductive XE where
 | normal
 | ret
 | exit (id:Nat)
 deriving Inhabited

inductive Orc where
 | ins (ty:Nat)
 | srt (ty:Nat)
 deriving Inhabited

structure Env where
 fns:Nat→Option XFn
 mode:Nat→Nat
 sz:TypeId→Nat
 orc:Nat→Option Orc

abbrev CallF:=(Nat→Bool)→Nat→List XV→Heap→Option (XV × Heap)

def qra:XV→Bool
 | .int .i64 _=>true
 | _=>false
def zft:XV→Int
 | .int _ z=>z
 | _=>0
def zeu (vs:List XV) : List XV:=((vs.map zft).mergeSort fun x y=>decide (x≤y)).map fun z => .int .i64 z
def qmy (W:Nat→Bool)(args:List XV)(h:Heap) : Orc→Option (XV × Heap)
 | .ins ty=>match args with
  | [s,.int .i64 i,.row vb vo m vc]=>match kw h vb vo m with
   | some xs=>if 0<m∧0≤i∧xs.all qra=true then (match s with
    | .nil=>if i=0∧m*8≤70368744177664 then some (.row h.length 0 m m,h++[⟨xs,ty,true⟩]) else none
    | .row b off len _=>match z9 h b,kw h b off len with
     | some k,some old=>if i.toNat≤len∧W b=true∧k.ty=ty∧b≠vb∧old.all qra=true∧(len+m)*8≤70368744177664 then some (.row h.length 0 (len+m) (len+m),kill h b++[⟨old.take i.toNat++xs++old.drop i.toNat,ty,true⟩]) else none
     | _,_=>none
    | _=>none) else none
   | none=>none
  | _=>none
 | .srt ty=>match args with
  | [.nil]=>some (.tup [],h)
  | [.row b off len _]=>match z9 h b,kw h b off len with
   | some k,some old=>if old.all qra=true∧k.ty=ty∧len<4611686018427387904 then (match setCells W h b off (zeu old) with
    | some h2=>some (.tup [],h2)
    | none=>none) else none
   | _,_=>none
  | _=>none

def qgb (E:Env)(C:CallF)(W:Nat→Bool)(f:XV)(args:List XV)(h:Heap) : Option (XV × Heap) :=
 match f with
 | .fn f caps =>
  match E.mode f with
  | 1 =>
   match args.mapM (snap h E.sz 9) with
   | some as=>match C (fun b=>decide (h.length≤b)) f (as++caps) h with
    | some (v,h')=>match cut h.length h' E.sz false 9 v with
     | some u=>some (u,h)
     | none=>none
    | none=>none
   | none=>none
  | 2 =>
   match args.mapM (snap h E.sz 9) with
   | some as=>match C (fun b=>decide (h.length≤b)) f (as++caps) h with
    | some (v,h')=>if v.free then some (v,purge h.length h') else none
    | none=>none
   | none=>none
  | 3 =>
   match C (fun b=>W b&&decide (h.length≤b)) f (args++caps) h with
   | some (v,h')=>match cut h.length h' E.sz true 9 v with
    | some u=>some (u,h)
    | none=>none
   | none=>none
  | _=>C W f (args++caps) h
 | _=>none

def xop (E:Env)(C:CallF)(W:Nat→Bool)(ev:XO→XV)(h:Heap) : XOp→Option (XV × Heap)
 | .call f args=>qgb E C W (ev f) (args.map ev) h
 | op=>ze W ev h op

def qex (E:Env)(C:CallF)(W:Nat→Bool) : List XOper→Fr→Heap→Option (Fr × Heap)
 | [],fr,h=>some (fr,h)
 | o::r,fr,h =>
  match o.guard with
  | none=>match xop E C W (XO.ev fr) h o.op with
   | some (v,h')=>qex E C W r (fr.put o.dst v) h'
   | none=>none
  | some (g,want)=>match fr g with
   | .bool b=>if b=want then (match xop E C W (XO.ev fr) h o.op with
     | some (v,h')=>qex E C W r (fr.put o.dst v) h'
     | none=>none) else qex E C W r (fr.put o.dst (.tup [])) h
   | .tup _=>qex E C W r (fr.put o.dst (.tup [])) h
   | _=>none

def XOp.still:XOp→Bool
 | .st .. | .app .. | .cpy .. | .clr .. | .call .. => false
 | _=>true
def XOp.takes:XOp→Bool
 | .box .. | .new .. | .buildS .. | .mkS .. => true
 | _=>false
def kh (ev:XO→XV) : XOp→List Nat
 | .ld _ a=>match ev a with
  | .ptr b _=>[b]
  | _=>[]
 | _=>[]
def qok:XV→List Nat
 | .ptr b _=>[b]
 | _=>[]
def xb:XV→List Nat
 | .row b _ _ _=>[b]
 | _=>[]
def wt (E:Env)(ev:XO→XV) : XOp→List Nat
 | .call f args=>match ev f with
  | .fn g caps=>if E.mode g≠0 then [] else (args.map ev++caps).flatMap qok
  | _=>[]
 | .st _ a _=>qok (ev a)
 | .app _ _ _ s _=>xb (ev s)
 | .cpy _ _ d _=>xb (ev d)
 | .clr _ _ x=>xb (ev x)
 | _=>[]
def yg (a b:List Nat) : Bool:=a.all fun x => !b.contains x
def qix (hs:Nat)(ld:List Nat) : List Nat:=(a2z hs).filter fun b => !ld.contains b
def w7 (W:Nat→Bool)(hs:Nat)(ms:List Nat) : Nat→Bool:=fun b=>W b&&(decide (hs≤b)||ms.contains b)

def qdq (E:Env)(C:CallF)(W:Nat→Bool)(hs:Nat)(o:XOper)(ld wr:List Nat)(fr:Fr)(h:Heap) : Option (List Nat × List Nat × XV × Heap) :=
 let ev:=XO.ev fr
 if o.cls=1 then
  if (kh ev o.op).all (fun b=>decide (b<hs))=true∧yg (kh ev o.op) wr=true then
   match ze (fun _=>false) ev h o.op with
   | some (v,h')=>some (kh ev o.op++ld,wr,v,h')
   | none=>none
  else none
 else if o.cls=4 then
  match ze (fun _=>false) ev h o.op with
  | some (v,h')=>some (ld,wr,v,h')
  | none=>none
 else if o.cls=2 then
  if yg (wt E ev o.op) ld=true then
   match xop E C (w7 W hs (wt E ev o.op)) ev h o.op with
   | some (v,h')=>some (ld,wt E ev o.op++wr,v,h')
   | none=>none
  else none
 else if o.cls=3 then
  match xop E C W ev h o.op with
  | some (v,h')=>some (ld,wr,v,h')
  | none=>none
 else if o.cls=5 then
  if yg (qix hs ld) ld=true then
   match xop E C (w7 W hs (qix hs ld)) ev h o.op with
   | some (v,h')=>some (ld,qix hs ld++wr,v,h')
   | none=>none
  else none
 else none

def qdi (E:Env)(C:CallF)(W:Nat→Bool)(hs:Nat) : List XOper→List Nat→List Nat→Fr→Heap→Option (Fr × Heap)
 | [],_,_,fr,h=>some (fr,h)
 | o::r,ld,wr,fr,h =>
  match o.guard with
  | none=>match qdq E C W hs o ld wr fr h with
   | some (ld',wr',v,h')=>qdi E C W hs r ld' wr' (fr.put o.dst v) h'
   | none=>none
  | some (g,want)=>match fr g with
   | .bool b=>if b=want then (match qdq E C W hs o ld wr fr h with
     | some (ld',wr',v,h')=>qdi E C W hs r ld' wr' (fr.put o.dst v) h'
     | none=>none) else qdi E C W hs r ld wr (fr.put o.dst (.tup [])) h
   | .tup _=>qdi E C W hs r ld wr (fr.put o.dst (.tup [])) h
   | _=>none

def kv (keep:List Nat)(fr:Fr) : Fr:=fun t=>if keep.contains t then fr t else .undef

def qeo (body:Fr→Heap→Option (XE × Fr × Heap))(keep:List Nat) : Nat→Fr→Heap→Option (XE × Fr × Heap)
 | 0,_,_=>none
 | n+1,fr,h =>
  match body (kv keep fr) h with
  | some (.normal,fr',h')=>qeo body keep n fr' h'
  | r=>r

def qik (W:Nat→Bool) : List Nat→Fr→Heap→Option (Fr × Heap)
 | [],fr,h=>some (fr,h)
 | t::ts,fr,h=>match fr t with
  | .ptr b 0=>match z9 h b with
   | some k=>if W b=true then qik W ts (fr.put (some t) (.ref k.cells 0)) (kill h b) else none
   | none=>none
  | _=>none

def jz (E:Env)(C:CallF)(n:Nat)(W:Nat→Bool) : XCode→Fr→Heap→Option (XE × Fr × Heap)
 | .skip,fr,h=>some (.normal,fr,h)
 | .ret,fr,h=>some (.ret,fr,h)
 | .exit id,fr,h=>some (.exit id,fr,h)
 | .seq a b,fr,h =>
  match jz E C n W a fr h with
  | some (.normal,fr',h')=>jz E C n W b fr' h'
  | r=>r
 | .cond c a b,fr,h =>
  match c.ev fr with
  | .bool t=>if t then jz E C n W a fr h else jz E C n W b fr h
  | _=>none
 | .block id c,fr,h =>
  match jz E C n W c fr h with
  | some (.exit i,fr',h')=>if i=id then some (.normal,fr',h') else some (.exit i,fr',h')
  | r=>r
 | .loop keep c,fr,h=>qeo (jz E C n W c) keep n fr h
 | .reg false ops,fr,h =>
  match qex E C W ops fr h with
  | some (fr',h')=>some (.normal,fr',h')
  | none=>none
 | .reg true ops,fr,h =>
  match qdi E C W h.length ops [] [] fr h with
  | some (fr',h')=>some (.normal,fr',h')
  | none=>none
 | .frz ts,fr,h =>
  match qik W ts fr h with
  | some (fr',h')=>some (.normal,fr',h')
  | none=>none

def qec (fr:Fr)(h:Heap) : XRes→Option XV
 | .t n=>some (fr n)
 | .cell t none=>match fr t with
  | .ptr b o=>qal h b o
  | _=>none
 | .cell t (some n)=>match fr t with
  | .ptr b o=>match kw h b o n with
   | some vs=>some (.agg vs)
   | none=>none
  | _=>none
def qdu (rs:List XRes)(fr:Fr)(h:Heap) : Option XV :=
 match rs.mapM (qec fr h) with
 | some [v]=>some v
 | some vs=>some (.tup vs)
 | none=>none

def zk (args:List XV) : Fr:=fun t=>args.getD t .undef

def xu (E:Env) : Nat→CallF
 | 0,_,_,_,_=>none
 | n+1,W,f,args,h =>
  match E.fns f with
  | some fn=>match jz E (xu E n) n W fn.code (zk args) h with
   | some (.exit _,_,_)=>none
   | some (_,fr',h')=>match qdu fn.results fr' h' with
    | some v=>some (v,h')
    | none=>none
   | none=>none
  | none=>match E.orc f with
   | some o=>qmy W args h o
   | none=>none

end Go.Proofs.Ytanblnjomhgphaa.X
set_option linter.unusedSimpArgs false
namespace Go.Proofs.Ytanblnjomhgphaa.X
open Go

inductive Loc where
 | none
 | dead
 | at (cb δ:Nat)
abbrev Phi:=Nat→Loc

def Wr (φ:Phi)(L cb:Nat) : Prop:=∃ b δ,L≤b∧φ b = .at cb δ

section
variable (sz:TypeId→Nat)

inductive VRel (φ:Phi) (L:Nat) (w:World) : XV→Value→Prop
 | undef (v:Value) : VRel φ L w .undef v
 | int (k:IntKind) (n:Int) : VRel φ L w (.int k n) (.int k n)
 | bool (b:Bool) : VRel φ L w (.bool b) (.bool b)
 | str (s:ByteArray) : VRel φ L w (.str s) (.string s)
 | nil:VRel φ L w .nil (.slice none 0 0)
 | list (es:List (List XV)) (a:Option Addr) (c e:Nat) (f:Nat→Nat→Value) (hc:es.length≤c) (he:∀ (i:Nat) (cs:List XV),es[i]? = some cs→cs.length=e)
   (ha:0<es.length→∃ ad:Addr,a=some ad∧ad.spot=none∧ad.block<w.heap.size∧¬ Wr φ L ad.block)
   (hr:∀ (ad:Addr) (i j:Nat),a=some ad→i<es.length→j<e→w.cell? (ad.add (i*e+j))=some (f i j))
   (hv:∀ (i:Nat) (cs:List XV) (j:Nat) (v:XV),es[i]? = some cs→cs[j]? = some v→VRel φ L w v (f i j)) : VRel φ L w (.list es) (.slice a es.length c)
 | ref (cs:List XV) (off:Nat) (ad:Addr) (f:Nat→Value) (hs:ad.spot=none) (hb:ad.block<w.heap.size∧¬ Wr φ L ad.block) (hr:∀ j,j<cs.length→w.cell? (ad.add j)=some (f j))
   (hv:∀ (j:Nat) (v:XV),cs[j]? = some v→VRel φ L w v (f j)) : VRel φ L w (.ref cs off) (.pointer (some (ad.add off)))
 | row (b off len cap:Nat) (a:Option Addr) (c:Nat) (hl:len≤cap) (hc:cap≤c∧c≤9223372036854775807) (ha:0<c→a.isSome=true) (hn:φ b ≠ .none)
   (hp:∀ cb δ,φ b = .at cb δ→(0<c→a=some ⟨cb,off+δ,none⟩)∧∃ (cc:Array Value) (ty:TypeId) (fz:Nat × Nat),w.heap[cb]? = some (.cells cc ty fz)∧off+δ+c*sz ty≤cc.size) : VRel φ L w (.row b off len cap) (.slice a len c)
 | ptr (b o:Nat) (a:Addr) (hn:φ b ≠ .none) (hp:∀ cb δ,φ b = .at cb δ→a=⟨cb,o+δ,none⟩) : VRel φ L w (.ptr b o) (.pointer (some a))
 | nilptr:VRel φ L w .nilptr (.pointer none)
 | agg (cs:List XV) (cvs:Array Value) (hl:cs.length=cvs.size) (hv:∀ (i:Nat) (v:XV) (cv:Value),cs[i]? = some v→cvs[i]? = some cv→VRel φ L w v cv) : VRel φ L w (.agg cs) (.agg cvs)
 | tup (cs:List XV) (cvs:Array Value) (hl:cs.length=cvs.size) (hv:∀ (i:Nat) (v:XV) (cv:Value),cs[i]? = some v→cvs[i]? = some cv→VRel φ L w v cv) : VRel φ L w (.tup cs) (.tuple cvs)
 | fn (f:Nat) (cs:List XV) (cvs:Array Value) (hl:cs.length=cvs.size) (hv:∀ (i:Nat) (v:XV) (cv:Value),cs[i]? = some v→cvs[i]? = some cv→VRel φ L w v cv) : VRel φ L w (.fn f cs) (.func (.func f) #[] cvs)
 | nilfn:VRel φ L w .nilfn .nilFunc

structure Rel (φ:Phi) (L:Nat) (h:Heap) (w:World) : Prop where
 live:∀ b cb δ,φ b = .at cb δ→∃ k cc,h[b]? = some k∧k.live=true∧w.heap[cb]? = some (.cells cc k.ty (0,0))∧δ+k.cells.length≤cc.size ∧
  ∀ (i:Nat) v,k.cells[i]? = some v→∃ cv,cc[δ+i]? = some cv∧VRel sz φ L w v cv
 inj:∀ b b' cb δ δ',φ b = .at cb δ→φ b' = .at cb δ'→b=b'
 dead:∀ b,φ b = .dead→z9 h b=none
 new:∀ b,h.length≤b→φ b = .none

structure Ext (L:Nat) (W:Nat→Bool) (φ φ':Phi) (w w':World) : Prop where
 os:w'.os=w.os
 tape:w'.tape=w.tape
 output:w'.output=w.output
 size:w.heap.size≤w'.heap.size
 keep:∀ b cb δ,φ b = .at cb δ→φ' b = .at cb δ∨φ' b = .dead
 dead:∀ b,φ b = .dead→φ' b = .dead
 fresh:∀ b cb δ,φ' b = .at cb δ→φ b = .at cb δ∨w.heap.size≤cb∨∃ b0 δ0,W b0=true∧φ b0 = .at cb δ0
 unch:∀ cb,cb<w.heap.size→(∀ b δ,W b=true→φ b ≠ .at cb δ)→w'.heap[cb]? = w.heap[cb]?
 shape:∀ (cb:Nat) (cc:Array Value) (ty:TypeId) (fz:Nat × Nat),w.heap[cb]? = some (.cells cc ty fz)→∃ cc',w'.heap[cb]? = some (.cells cc' ty fz)∧cc'.size=cc.size
end

section
variable {sz:TypeId→Nat}{φ φ' φ'':Phi}{L:Nat}{W:Nat→Bool}{w w' w'':World}{h h':Heap}

theorem Ext.refl (L:Nat)(W:Nat→Bool)(φ:Phi)(w:World) : Ext L W φ φ w w :=
 ⟨rfl,rfl,rfl,a0d _,fun _ _ _ e => .inl e,fun _ e=>e,fun _ _ _ e => .inl e,fun _ _ _=>rfl,fun _ cc _ _ e=>⟨cc,e,rfl⟩⟩

theorem qqk {w:World}{a:Addr}{v:Value}(e:w.cell? a=some v) : a.block<w.heap.size:=by
 unfold World.cell? at e
 rcases a0z a.block w.heap.size with hlt | hge
 ·exact hlt
 ·rw [Array.getElem?_eq_none hge] at e
  cases e

theorem Ext.cell (H:Ext L W φ φ' w w')(hW:∀ b,W b=true→L≤b){a:Addr}{v:Value}(hb:¬ Wr φ L a.block)(e:w.cell? a=some v) : w'.cell? a=some v:=by
 have hu:=H.unch a.block (qqk e) (fun b δ h1 h2=>hb ⟨b,δ,hW b h1,h2⟩)
 unfold World.cell? at e ⊢
 rw [hu]
 exact e

theorem qgs (a:Addr)(n:Nat) : (a.add n).block=a.block:=by
 unfold Addr.add
 split <;> rfl

theorem qf9 (a:Addr)(m n:Nat) : (a.add m).add n=a.add (m+n):=by
 unfold Addr.add
 by_cases h1:m=0
 ·subst h1
  simp
 ·by_cases h2:n=0
  ·subst h2
   simp [h1]
  ·simp [h1,h2,Nat.add_assoc]

theorem qar (b o n:Nat) : (⟨b,o,none⟩ : Addr).add n=⟨b,o+n,none⟩:=by
 unfold Addr.add
 split
 ·rename_i h0
  subst h0
  rfl
 ·rfl

theorem VRel.ext (H:Ext L W φ φ' w w')(hW:∀ b,W b=true→L≤b){v:XV}{cv:Value}(hv:VRel sz φ L w v cv) : VRel sz φ' L w' v cv:=by
 have hwr:∀ cb,cb<w.heap.size→¬ Wr φ L cb→¬ Wr φ' L cb:=by
  intro cb hlt hb
  rintro ⟨b,δ,hL,e⟩
  rcases H.fresh b cb δ e with h1 | h1 | ⟨b0,δ0,h1,h2⟩
  ·exact hb ⟨b,δ,hL,h1⟩
  ·omega
  ·exact hb ⟨b0,δ0,hW b0 h1,h2⟩
 have hnn:∀ b,φ b ≠ .none→φ' b ≠ .none:=by
  intro b hb e
  cases hφ:φ b with
  | none=>exact hb hφ
  | dead=>rw [H.dead b hφ] at e; cases e
  | «at» cb δ=>rcases H.keep b cb δ hφ with h1 | h1 <;> rw [h1] at e <;> cases e
 have hat:∀ b cb δ,φ b ≠ .none→φ' b = .at cb δ→φ b = .at cb δ:=by
  intro b cb δ hb e
  cases hφ:φ b with
  | none=>exact absurd hφ hb
  | dead=>rw [H.dead b hφ] at e; cases e
  | «at» cb' δ' =>
   rcases H.keep b cb' δ' hφ with h1 | h1
   ·rw [h1] at e
    exact e
   ·rw [h1] at e; cases e
 induction hv with
 | undef v=>exact .undef v
 | int k n=>exact .int k n
 | bool b=>exact .bool b
 | str s=>exact .str s
 | nil=>exact .nil
 | list es a c e f hc he ha hr hv ih =>
  refine .list es a c e f hc he (fun h0=>?_) (fun ad i j h0 h1 h2=>?_) (fun i cs j v h1 h2=>ih i cs j v h1 h2)
  ·obtain ⟨ad,h1,h2,h3,h4⟩:=ha h0
   exact ⟨ad,h1,h2,a1a h3 H.size,hwr _ h3 h4⟩
  ·obtain ⟨ad',h1',_,_,h4⟩:=ha (by omega)
   rw [h0] at h1'
   cases h1'
   exact H.cell hW (by rw [qgs]; exact h4) (hr ad i j h0 h1 h2)
 | ref cs off ad f hs hb hr hv ih =>
  exact .ref cs off ad f hs ⟨a1a hb.1 H.size,hwr _ hb.1 hb.2⟩ (fun j hj=>H.cell hW (by rw [qgs]; exact hb.2) (hr j hj)) (fun j v h1=>ih j v h1)
 | row b off len cap a c hl hc ha hn hp =>
  refine .row b off len cap a c hl hc ha (hnn b hn) (fun cb δ e=>?_)
  have h1:=hp cb δ (hat b cb δ hn e)
  obtain ⟨cc,ty,fz,hcc,hle⟩:=h1.2
  obtain ⟨cc',hcc',hs⟩:=H.shape cb cc ty fz hcc
  exact ⟨h1.1,cc',ty,fz,hcc',by rw [hs]; exact hle⟩
 | ptr b o a hn hp=>exact .ptr b o a (hnn b hn) (fun cb δ e=>hp cb δ (hat b cb δ hn e))
 | nilptr=>exact .nilptr
 | agg cs cvs hl hv ih=>exact .agg cs cvs hl fun i v cv h1 h2=>ih i v cv h1 h2
 | tup cs cvs hl hv ih=>exact .tup cs cvs hl fun i v cv h1 h2=>ih i v cv h1 h2
 | fn f cs cvs hl hv ih=>exact .fn f cs cvs hl fun i v cv h1 h2=>ih i v cv h1 h2
 | nilfn=>exact .nilfn

theorem Ext.trans (H:Ext L W φ φ' w w')(K:Ext L W φ' φ'' w' w'') : Ext L W φ φ'' w w'':=by
 have hx:∀ b,W b=true→∀ cb δ,φ' b = .at cb δ→cb<w.heap.size→∃ b0 δ0,W b0=true∧φ b0 = .at cb δ0:=by
  intro b hb cb δ e hlt
  rcases H.fresh b cb δ e with h1 | h1 | h1
  ·exact ⟨b,δ,hb,h1⟩
  ·omega
  ·exact h1
 refine ⟨K.os.trans H.os,K.tape.trans H.tape,K.output.trans H.output,a1q H.size K.size,?_,fun b e=>K.dead b (H.dead b e),?_,?_,?_⟩
 ·intro b cb δ e
  rcases H.keep b cb δ e with h1 | h1
  ·exact K.keep b cb δ h1
  ·exact .inr (K.dead b h1)
 ·intro b cb δ e
  rcases K.fresh b cb δ e with h1 | h1 | ⟨b0,δ0,h1,h2⟩
  ·exact H.fresh b cb δ h1
  ·exact .inr (.inl (a1q H.size h1))
  ·rcases a0z cb w.heap.size with hlt | hge
   ·exact .inr (.inr (hx b0 h1 cb δ0 h2 hlt))
   ·exact .inr (.inl hge)
 ·intro cb hlt hn
  rw [K.unch cb (a1a hlt H.size) (fun b δ h1 h2=>?_),H.unch cb hlt hn]
  obtain ⟨b0,δ0,h3,h4⟩:=hx b h1 cb δ h2 hlt
  exact hn b0 δ0 h3 h4
 ·intro cb cc ty fz e
  obtain ⟨c1,h1,h2⟩:=H.shape cb cc ty fz e
  obtain ⟨c2,h3,h4⟩:=K.shape cb c1 ty fz h1
  exact ⟨c2,h3,h4.trans h2⟩

theorem Ext.mono {W':Nat→Bool}(H:Ext L W φ φ' w w')(hW:∀ b,W b=true→W' b=true) : Ext L W' φ φ' w w' :=
 ⟨H.os,H.tape,H.output,H.size,H.keep,H.dead,fun b cb δ e=>by
  rcases H.fresh b cb δ e with h1 | h1 | ⟨b0,δ0,h1,h2⟩
  ·exact .inl h1
  ·exact .inr (.inl h1)
  ·exact .inr (.inr ⟨b0,δ0,hW b0 h1,h2⟩),fun cb hlt hn=>H.unch cb hlt (fun b δ h1=>hn b δ (hW b h1)),H.shape⟩

variable {P:Program}

theorem qk2 {a:Addr}{v:Value}(m:Mode)(e:w.cell? a=some v) : (load a m).run P w = .ok v w:=by
 simp [load,Sem.run,e]

theorem qkm (a:Addr)(f:Nat→Value) : ∀ (n i:Nat) (acc:Array Value),(∀ j,i≤j→j<i+n→w.cell? (a.add j)=some (f j)) →
  (loadCellsFrom a i n acc).run P w = .ok (acc++((List.range' i n).map f).toArray) w:=by
 intro n
 induction n with
 | zero=>intro i acc _; simp [loadCellsFrom]
 | succ n ih =>
  intro i acc hc
  unfold loadCellsFrom
  rw [Sem.run_bind,qk2 .plain (hc i (a0d _) (by omega))]
  simp only [Result.andThen]
  rw [ih (i+1) (acc.push (f i)) (fun j h1 h2=>hc j (by omega) (by omega))]
  simp [List.range'_succ]

theorem qgv (a:Addr)(f:Nat→Value)(n:Nat)(hc:∀ j,j<n→w.cell? (a.add j)=some (f j)) :
  (loadCells a n).run P w = .ok ((a2z n).map f).toArray w:=by
 unfold loadCells
 rw [qkm a f n 0 #[] (fun j _ h2=>hc j (by omega)),List.range_eq_range']
 simp

structure Put (w w':World) (cb o:Nat) (vs:List Value) : Prop where
 os:w'.os=w.os
 tape:w'.tape=w.tape
 output:w'.output=w.output
 size:w'.heap.size=w.heap.size
 other:∀ k,k≠cb→w'.heap[k]? = w.heap[k]?
 self:∀ (cc:Array Value) (ty:TypeId) (fz:Nat × Nat),w.heap[cb]? = some (.cells cc ty fz)→∃ cc',w'.heap[cb]? = some (.cells cc' ty fz)∧cc'.size=cc.size∧∀ j,j<cc.size→cc'[j]? = if o≤j∧j<o+vs.length then vs[j - o]? else cc[j]?

theorem Put.refl (w:World)(cb o:Nat) : Put w w cb o [] :=
 ⟨rfl,rfl,rfl,rfl,fun _ _=>rfl,fun cc ty fz e=>⟨cc,e,rfl,fun j _=>by rw [if_neg (by simp)]⟩⟩

theorem qi0 (cb o:Nat) : ∀ (vs:List Value) (i:Nat) (w:World),(∀ v∈vs,v.oneCell'=true)→(∃ cc ty,w.heap[cb]? = some (.cells cc ty (0,0))∧o+i+vs.length≤cc.size) →
  ∃ w',(storeCells ⟨cb,o,none⟩ vs i).run P w = .ok () w'∧Put w w' cb (o+i) vs:=by
 intro vs
 induction vs with
 | nil=>intro i w _ _; exact ⟨w,by simp [storeCells],Put.refl _ _ _⟩
 | cons v r ih =>
  intro i w h1 ⟨cc,ty,hcc,hle⟩
  have hlt:o+i<cc.size:=by simp at hle; omega
  have hcell:w.cell? ⟨cb,o+i,none⟩=some cc[o+i]:=by
   simp [World.cell?,hcc,hlt]
  have hfr:w.frozen? ⟨cb,o+i,none⟩=false:=by simp [World.frozen?,hcc]
  have hw1:(w.setCell ⟨cb,o+i,none⟩ v).heap[cb]? = some (.cells (cc.setIfInBounds (o+i) v) ty (0,0)):=by
   simp [World.setCell,Array.getElem?_modify,hcc]
  obtain ⟨w',hr,hp⟩:=ih (i+1) (w.setCell ⟨cb,o+i,none⟩ v) (fun u hu=>h1 u (a2r _ hu)) ⟨_,ty,hw1,by simp at hle ⊢; omega⟩
  refine ⟨w',?_,?_⟩
  ·unfold storeCells
   rw [Sem.run_bind]
   have hs:(store ((⟨cb,o,none⟩ : Addr).add i) v).run P w = .ok () (w.setCell ⟨cb,o+i,none⟩ v):=by
    rw [qar]
    have hv:=h1 v a3m
    unfold store
    cases v <;> first | (simp [Sem.run,hcell,hfr]; done) | (simp [Value.oneCell'] at hv)
   rw [hs]
   exact hr
  ·refine ⟨hp.os,hp.tape,hp.output,by rw [hp.size]; simp [World.setCell],fun k hk=>?_,fun cc0 ty0 fz0 e0=>?_⟩
   ·rw [hp.other k hk]
    simp only [World.setCell,Array.getElem?_modify]
    rw [if_neg (by omega)]
   ·rw [hcc] at e0
    injection e0 with e0
    injection e0 with e1 e2 e3
    subst e1 e2 e3
    obtain ⟨cc',h2,h3,h4⟩:=hp.self _ _ _ hw1
    refine ⟨cc',h2,by rw [h3]; simp,fun j hj=>?_⟩
    rw [h4 j (by simpa using hj)]
    by_cases hji:j=o+i
    ·subst hji
     rw [if_neg (by omega),if_pos (by simp)]
     simp [hlt]
    ·by_cases hin:o+i≤j∧j<o+i+(v::r).length
     ·rw [if_pos (by simp at hin; omega),if_pos hin]
      have:j - (o+i)=(j - (o+(i+1)))+1:=by omega
      rw [this,a1w]
     ·rw [if_neg (by simp at hin; omega),if_neg hin,a22]
      rw [if_neg (by omega)]
end
end Go.Proofs.Ytanblnjomhgphaa.X
namespace Go.Proofs.Ytanblnjomhgphaa.X
open Go
section
variable {sz:TypeId→Nat}{φ:Phi}{L:Nat}{W:Nat→Bool}{w w':World}{h h':Heap}{P:Program}{b o n:Nat}

theorem qbm {k:Blk}(e:z9 h b=some k) : h[b]? = some k∧k.live=true∧b<h.length:=by
 unfold z9 at e
 cases hb:h[b]? with
 | none=>rw [hb] at e; cases e
 | some k' =>
  rw [hb] at e
  dsimp only at e
  by_cases hl:k'.live=true
  ·rw [if_pos hl] at e
   cases e
   exact ⟨rfl,hl,(r9.1 hb).1⟩
  ·rw [if_neg hl] at e
   cases e

theorem qf4 (R:Rel sz φ L h w){k:Blk}(hn:φ b ≠ .none)(e:z9 h b=some k) :
  ∃ cb δ cc,φ b = .at cb δ∧w.heap[cb]? = some (.cells cc k.ty (0,0))∧δ+k.cells.length≤cc.size∧∀ (i:Nat) v,k.cells[i]? = some v→∃ cv,cc[δ+i]? = some cv∧VRel sz φ L w v cv:=by
 cases hφ:φ b with
 | none=>exact absurd hφ hn
 | dead=>rw [R.dead b hφ] at e; cases e
 | «at» cb δ =>
  obtain ⟨k',cc,h1,h2,h3,h4,h5⟩:=R.live b cb δ hφ
  have h6:=(qbm e).1
  rw [h1] at h6
  cases h6
  exact ⟨cb,δ,cc,rfl,h3,h4,h5⟩

theorem qp7 (R:Rel sz φ L h w){v:XV}(hn:φ b ≠ .none)(e:qal h b o=some v) :
  ∃ cb δ cv,φ b = .at cb δ∧w.cell? ⟨cb,o+δ,none⟩=some cv∧VRel sz φ L w v cv:=by
 unfold qal at e
 cases hk:z9 h b with
 | none=>rw [hk] at e; cases e
 | some k =>
  rw [hk] at e
  obtain ⟨cb,δ,cc,h1,h2,_,h4⟩:=qf4 R hn hk
  obtain ⟨cv,h5,h6⟩:=h4 o v e
  refine ⟨cb,δ,cv,h1,?_,h6⟩
  simp [World.cell?,h2,Nat.add_comm o δ,h5]

theorem ug {vs:List XV}(e:kw h b o n=some vs) : ∃ k,z9 h b=some k∧o+n≤k.cells.length∧vs=(k.cells.drop o).take n∧vs.length=n:=by
 unfold kw at e
 cases hk:z9 h b with
 | none=>rw [hk] at e; cases e
 | some k =>
  rw [hk] at e
  dsimp only at e
  by_cases hl:o+n≤k.cells.length
  ·rw [if_pos hl] at e
   cases e
   exact ⟨k,rfl,hl,rfl,by simp; omega⟩
  ·rw [if_neg hl] at e
   cases e

theorem qju (R:Rel sz φ L h w){vs:List XV}(hn:φ b ≠ .none)(e:kw h b o n=some vs) :
  ∃ cb δ,∃ f:Nat→Value,φ b = .at cb δ∧vs.length=n∧(∀ j,j<n→w.cell? ((⟨cb,o+δ,none⟩ : Addr).add j)=some (f j))∧∀ (j:Nat) v,vs[j]? = some v→VRel sz φ L w v (f j):=by
 obtain ⟨k,hk,hl,rfl,hlen⟩:=ug e
 obtain ⟨cb,δ,cc,h1,h2,h3,h4⟩:=qf4 R hn hk
 refine ⟨cb,δ,fun j=>(cc[δ+(o+j)]?).getD undef,h1,hlen,fun j hj=>?_,fun j v hv=>?_⟩
 ·rw [qar]
  have hlt:δ+(o+j)<cc.size:=by omega
  have e2:o+δ+j=δ+(o+j):=by omega
  simp [World.cell?,h2,e2,hlt]
 ·rw [a2c] at hv
  split at hv
  ·rw [a1j] at hv
   obtain ⟨cv,h5,h6⟩:=h4 (o+j) v hv
   show VRel sz φ L w v ((cc[δ+(o+j)]?).getD undef)
   rw [h5]
   exact h6
  ·cases hv

theorem qlv (cs vs:List XV)(o i:Nat)(hl:o+vs.length≤cs.length) : (jv cs o vs)[i]? = if o≤i∧i<o+vs.length then vs[i - o]? else cs[i]? := by
 unfold jv
 rw [List.append_assoc]
 by_cases h1:i<o
 ·rw [if_neg (by omega),a0a (by simp; omega),a2c,if_pos h1]
 ·rw [a0i (by simp; omega)]
  have e:(cs.take o).length=o:=by simp; omega
  rw [e]
  by_cases h2:i<o+vs.length
  ·rw [if_pos ⟨by omega,h2⟩,a0a (by omega)]
  ·rw [if_neg (by omega),a0i (by omega),a1j]
   congr 1
   omega

theorem qeq (cs vs:List XV)(o:Nat)(hl:o+vs.length≤cs.length) : (jv cs o vs).length=cs.length:=by
 unfold jv
 simp
 omega

theorem qa3 {vs:List XV}(e:setCells W h b o vs=some h') : ∃ k,z9 h b=some k∧W b=true∧o+vs.length≤k.cells.length∧vs.all XV.one=true∧h'=h.set b { k with cells:=jv k.cells o vs }:=by
 unfold setCells at e
 cases hk:z9 h b with
 | none=>rw [hk] at e; cases e
 | some k =>
  rw [hk] at e
  dsimp only at e
  split at e
  ·rename_i hc
   cases e
   exact ⟨k,rfl,hc.1,hc.2.1,hc.2.2,rfl⟩
  ·cases e

theorem VRel.one {v:XV}{cv:Value}(hv:VRel sz φ L w v cv)(h1:v.one=true) : cv.oneCell'=true:=by
 cases hv <;> first | rfl | (simp [XV.one] at h1)

structure LRel (sz:TypeId→Nat) (φ:Phi) (L:Nat) (w:World) (vs:List XV) (cvs:List Value) : Prop where
 len:vs.length=cvs.length
 at_:∀ (i:Nat) v cv,vs[i]? = some v→cvs[i]? = some cv→VRel sz φ L w v cv

theorem LRel.get {vs:List XV}{cvs:List Value}(H:LRel sz φ L w vs cvs){i:Nat}{v:XV}(e:vs[i]? = some v) : ∃ cv,cvs[i]? = some cv∧VRel sz φ L w v cv:=by
 have hlt:=(r9.1 e).1
 have hlt':i<cvs.length:=by rw [←H.len]; exact hlt
 exact ⟨cvs[i],s8 hlt',H.at_ i v _ e (s8 hlt')⟩

theorem LRel.one {vs:List XV}{cvs:List Value}(H:LRel sz φ L w vs cvs)(h1:vs.all XV.one=true) : ∀ v∈cvs,v.oneCell'=true:=by
 intro cv hcv
 obtain ⟨i,hi,rfl⟩:=List.getElem_of_mem hcv
 have hi':i<vs.length:=by rw [H.len]; exact hi
 exact (H.at_ i vs[i] cvs[i] (s8 hi') (s8 hi)).one (a0x.1 h1 _ (List.getElem_mem hi'))

theorem qfr (R:Rel sz φ L h w)(hW:∀ b,W b=true→L≤b){vs:List XV}{cvs:List Value}(hn:φ b ≠ .none)(e:setCells W h b o vs=some h')(hv:LRel sz φ L w vs cvs) :
  ∃ cb δ w',φ b = .at cb δ∧(storeCells ⟨cb,o+δ,none⟩ cvs).run P w = .ok () w'∧Ext L W φ φ w w'∧Rel sz φ L h' w':=by
 obtain ⟨k,hk,hWb,hle,hone,rfl⟩:=qa3 e
 clear e
 obtain ⟨cb,δ,cc,h1,h2,h3,h4⟩:=qf4 R hn hk
 obtain ⟨hkb,hkl,hblt⟩:=qbm hk
 obtain ⟨w',hr,hp⟩:=qi0 (P:=P) cb (o+δ) cvs 0 w (hv.one hone) ⟨cc,k.ty,h2,by rw [←hv.len]; omega⟩
 have hE:Ext L W φ φ w w':=by
  refine ⟨hp.os,hp.tape,hp.output,Nat.le_of_eq hp.size.symm,fun _ _ _ e => .inl e,fun _ e=>e,fun _ _ _ e => .inl e,fun cb' _ hcb'=>hp.other cb' (fun e=>hcb' b δ hWb (e▸h1)),fun cb' cc' ty fz e=>?_⟩
  by_cases hcb:cb'=cb
  ·subst hcb
   obtain ⟨c2,h5,h6,_⟩:=hp.self _ _ _ e
   exact ⟨c2,h5,h6⟩
  ·exact ⟨cc',by rw [hp.other cb' hcb]; exact e,rfl⟩
 refine ⟨cb,δ,w',h1,hr,hE,⟨fun b' cb' δ' e=>?_,R.inj,fun b' e=>?_,fun b' hb'=>R.new b' (by simpa using hb')⟩⟩
 ·by_cases hbb:b'=b
  ·subst hbb
   rw [h1] at e
   cases e
   obtain ⟨c2,h5,h6,h7⟩:=hp.self _ _ _ h2
   refine ⟨{ k with cells:=jv k.cells o vs },c2,by rw [List.getElem?_set_self hblt],hkl,h5,by rw [h6]; simp only [qeq _ _ _ hle]; exact h3,fun i v hiv=>?_⟩
   simp only [qlv _ _ _ _ hle] at hiv
   have hlt:δ+i<cc.size:=by
    split at hiv
    ·omega
    ·have:=(r9.1 hiv).1
     omega
   rw [h7 _ hlt]
   split at hiv
   ·rename_i hin
    rw [if_pos (by rw [←hv.len]; omega)]
    obtain ⟨cv,h8,h9⟩:=hv.get hiv
    refine ⟨cv,?_,h9.ext hE hW⟩
    rw [←h8]
    congr 1
    omega
   ·rename_i hin
    rw [if_neg (by rw [←hv.len]; omega)]
    obtain ⟨cv,h8,h9⟩:=h4 i v hiv
    exact ⟨cv,h8,h9.ext hE hW⟩
  ·obtain ⟨k',c',h5,h6,h7,h8,h9⟩:=R.live b' cb' δ' e
   refine ⟨k',c',by rw [a1o (fun e=>hbb e.symm)]; exact h5,h6,?_,h8,fun i v hiv=>?_⟩
   ·rw [hp.other cb' (fun e2=>hbb (R.inj b' b cb' δ' δ e (e2▸h1)))]
    exact h7
   ·obtain ⟨cv,h10,h11⟩:=h9 i v hiv
    exact ⟨cv,h10,h11.ext hE hW⟩
 ·have h5:=R.dead b' e
  unfold z9 at h5 ⊢
  by_cases hbb:b'=b
  ·subst hbb
   rw [h1] at e
   cases e
  ·rw [a1o (fun e=>hbb e.symm)]
   exact h5

def yz (φ:Phi)(b cb δ:Nat) : Phi:=fun x=>if x=b then .at cb δ else φ x

theorem qlp (R:Rel sz φ L h w)(hW:∀ b,W b=true→L≤b)(ty:TypeId){vs:List XV}{cc:Array Value}(hs:vs.length≤cc.size)
  (hv:∀ (i:Nat) v,vs[i]? = some v→∃ cv,cc[i]? = some cv∧VRel sz φ L w v cv) {s:Nat} (hnone:φ s = .none) {h2:Heap} (p1:h2[s]? = some ⟨vs,ty,true⟩) (p2:∀ b,b≠s→φ b ≠ .none→h2[b]? = h[b]?) (p3:∀ b,h2.length≤b→b≠s→φ b = .none) :
  Ext L W φ (yz φ s w.heap.size 0) w { w with heap:=w.heap.push (.cells cc ty) }∧Rel sz (yz φ s w.heap.size 0) L h2 { w with heap:=w.heap.push (.cells cc ty) }:=by
 have hlt:∀ b cb δ,φ b = .at cb δ→cb<w.heap.size:=by
  intro b cb δ e
  obtain ⟨k,c1,_,_,h3,_⟩:=R.live b cb δ e
  exact (a07.1 h3).1
 have hold:∀ b,b≠s→yz φ s w.heap.size 0 b=φ b:=fun b hb=>by simp [yz,hb]
 have hself:yz φ s w.heap.size 0 s = .at w.heap.size 0:=by simp [yz]
 have hE:Ext L W φ (yz φ s w.heap.size 0) w { w with heap:=w.heap.push (.cells cc ty) }:=by
  refine ⟨rfl,rfl,rfl,by simp,fun b cb δ e=>?_,fun b e=>?_,fun b cb δ e=>?_,fun cb hcb _=>?_,fun cb c1 t1 fz e=>⟨c1,?_,rfl⟩⟩
  ·rw [hold b (fun e2=>by rw [e2,hnone] at e; cases e)]
   exact .inl e
  ·rw [hold b (fun e2=>by rw [e2,hnone] at e; cases e)]
   exact e
  ·by_cases hb:b=s
   ·subst hb
    rw [hself] at e
    cases e
    exact .inr (.inl (a0d _))
   ·rw [hold b hb] at e
    exact .inl e
  ·simp only [Array.getElem?_push]
   rw [if_neg (by omega)]
  ·have:=(a07.1 e).1
   simp only [Array.getElem?_push]
   rw [if_neg (by omega)]
   exact e
 refine ⟨hE,⟨fun b cb δ e=>?_,fun b b' cb δ δ' e e'=>?_,fun b e=>?_,fun b hb=>?_⟩⟩
 ·by_cases hb:b=s
  ·subst hb
   rw [hself] at e
   cases e
   refine ⟨⟨vs,ty,true⟩,cc,p1,rfl,by simp,by simpa using hs,fun i v hiv=>?_⟩
   obtain ⟨cv,h1,h2⟩:=hv i v hiv
   exact ⟨cv,by rw [o8]; exact h1,h2.ext hE hW⟩
  ·rw [hold b hb] at e
   obtain ⟨k,c1,h1,h2,h3,h4,h5⟩:=R.live b cb δ e
   refine ⟨k,c1,by rw [p2 b hb (by rw [e]; exact fun e=>by cases e)]; exact h1,h2,?_,h4,fun i v hiv=>?_⟩
   ·have:=hlt b cb δ e
    simp only [Array.getElem?_push]
    rw [if_neg (by omega)]
    exact h3
   ·obtain ⟨cv,h6,h7⟩:=h5 i v hiv
    exact ⟨cv,h6,h7.ext hE hW⟩
 ·by_cases hb:b=s <;> by_cases hb':b'=s
  ·rw [hb,hb']
  ·subst hb
   rw [hself] at e
   rw [hold b' hb'] at e'
   cases e
   have:=hlt _ _ _ e'
   omega
  ·subst hb'
   rw [hself] at e'
   rw [hold b hb] at e
   cases e'
   have:=hlt _ _ _ e
   omega
  ·rw [hold b hb] at e
   rw [hold b' hb'] at e'
   exact R.inj b b' cb δ δ' e e'
 ·have hb:b≠s:=fun e2=>by rw [e2,hself] at e; cases e
  rw [hold b hb] at e
  have h5:=R.dead b e
  unfold z9 at h5 ⊢
  rw [p2 b hb (by rw [e]; exact fun e=>by cases e)]
  exact h5
 ·have hb2:b≠s:=by
   rintro rfl
   rw [a00 hb] at p1
   cases p1
  rw [hold b hb2]
  exact p3 b hb hb2

theorem qng (R:Rel sz φ L h w)(hW:∀ b,W b=true→L≤b)(ty:TypeId){vs:List XV}{cc:Array Value}(hs:vs.length≤cc.size)
  (hv:∀ (i:Nat) v,vs[i]? = some v→∃ cv,cc[i]? = some cv∧VRel sz φ L w v cv) :
  Ext L W φ (yz φ h.length w.heap.size 0) w { w with heap:=w.heap.push (.cells cc ty) }∧Rel sz (yz φ h.length w.heap.size 0) L (h++[⟨vs,ty,true⟩]) { w with heap:=w.heap.push (.cells cc ty) }:=by
 refine qlp R hW ty hs hv (R.new _ (a0d _)) (by simp) (fun b hb hn=>?_) (fun b hb _=>R.new b (by simp at hb; omega))
 by_cases hlt:b<h.length
 ·rw [a0a hlt]
 ·exact absurd (R.new b (by omega)) hn

def qa4 (φ:Phi)(b b' cb δ:Nat) : Phi:=fun x=>if x=b' then .at cb δ else if x=b then .dead else φ x

theorem qbn (h:Heap)(b i:Nat) : (kill h b)[i]? = if i=b then (h[i]?).map (fun k=>{ k with live:=false }) else h[i]? := by
 unfold kill
 rw [List.getElem?_modify]
 by_cases e:i=b
 ·subst e
  simp
 ·have e2:¬ b=i:=fun e2=>e e2.symm
  simp [e,e2]
theorem ye (h:Heap)(b:Nat) : (kill h b).length=h.length:=by simp [kill]
theorem qhv (h:Heap)(b:Nat) : z9 (kill h b) b=none:=by
 unfold z9
 rw [qbn,if_pos rfl]
 cases h[b]? <;> simp
theorem qiu (h:Heap){b i:Nat}(e:i≠b) : z9 (kill h b) i=z9 h i:=by
 unfold z9
 rw [qbn,if_neg e]

theorem q1w (R:Rel sz φ L h w)(hW:∀ b,W b=true→L≤b)(hWb:W b=true){k:Blk}(hk:z9 h b=some k){cb δ δ':Nat}(hφ:φ b = .at cb δ){o:Nat}{cvs:List Value}(hp:Put w w' cb o cvs)
  {vs:List XV} {cc':Array Value} (hcc:w'.heap[cb]? = some (.cells cc' k.ty (0,0))) (hs:δ'+vs.length≤cc'.size) (hv:∀ (i:Nat) v,vs[i]? = some v→∃ cv,cc'[δ'+i]? = some cv∧VRel sz φ L w v cv) :
  Ext L W φ (qa4 φ b h.length cb δ') w w'∧Rel sz (qa4 φ b h.length cb δ') L (kill h b++[⟨vs,k.ty,true⟩]) w':=by
 obtain ⟨hkb,hkl,hblt⟩:=qbm hk
 have hnone:=R.new h.length (a0d _)
 have hself:qa4 φ b h.length cb δ' h.length = .at cb δ':=by simp [qa4]
 have hb:qa4 φ b h.length cb δ' b = .dead:=by simp [qa4,Nat.ne_of_lt hblt]
 have hold:∀ x,x≠h.length→x≠b→qa4 φ b h.length cb δ' x=φ x:=fun x h1 h2=>by simp [qa4,h1,h2]
 have hE:Ext L W φ (qa4 φ b h.length cb δ') w w':=by
  refine ⟨hp.os,hp.tape,hp.output,Nat.le_of_eq hp.size.symm,fun x c1 d1 e=>?_,fun x e=>?_,fun x c1 d1 e=>?_,fun c1 _ hc1=>hp.other c1 (fun e=>hc1 b δ hWb (e▸hφ)),fun c1 a1 ty fz e=>?_⟩
  ·by_cases h1:x=b
   ·subst h1
    exact .inr hb
   ·rw [hold x (fun e2=>by rw [e2,hnone] at e; cases e) h1]
    exact .inl e
  ·by_cases h1:x=b
   ·subst h1
    exact hb
   ·rw [hold x (fun e2=>by rw [e2,hnone] at e; cases e) h1]
    exact e
  ·by_cases h1:x=h.length
   ·subst h1
    rw [hself] at e
    cases e
    exact .inr (.inr ⟨b,δ,hWb,hφ⟩)
   ·by_cases h2:x=b
    ·subst h2
     rw [hb] at e
     cases e
    ·rw [hold x h1 h2] at e
     exact .inl e
  ·by_cases hcb:c1=cb
   ·subst hcb
    obtain ⟨c2,h5,h6,_⟩:=hp.self _ _ _ e
    exact ⟨c2,h5,h6⟩
   ·exact ⟨a1,by rw [hp.other c1 hcb]; exact e,rfl⟩
 refine ⟨hE,⟨fun x c1 d1 e=>?_,fun x y c1 d1 d2 e e'=>?_,fun x e=>?_,fun x hx=>?_⟩⟩
 ·by_cases h1:x=h.length
  ·subst h1
   rw [hself] at e
   cases e
   refine ⟨⟨vs,k.ty,true⟩,cc',by rw [a0i (by rw [ye]; exact a0d _),ye]; simp,rfl,hcc,hs,fun i v hiv=>?_⟩
   obtain ⟨cv,h3,h4⟩:=hv i v hiv
   exact ⟨cv,h3,h4.ext hE hW⟩
  ·by_cases h2:x=b
   ·subst h2
    rw [hb] at e
    cases e
   ·rw [hold x h1 h2] at e
    obtain ⟨k',a1,h3,h4,h5,h6,h7⟩:=R.live x c1 d1 e
    refine ⟨k',a1,?_,h4,?_,h6,fun i v hiv=>?_⟩
    ·rw [a0a (by rw [ye]; exact (r9.1 h3).1),qbn,if_neg h2]
     exact h3
    ·rw [hp.other c1 (fun e2=>h2 (R.inj x b c1 d1 δ e (e2▸hφ)))]
     exact h5
    ·obtain ⟨cv,h8,h9⟩:=h7 i v hiv
     exact ⟨cv,h8,h9.ext hE hW⟩
 ·by_cases h1:x=h.length <;> by_cases h2:y=h.length
  ·rw [h1,h2]
  ·subst h1
   rw [hself] at e
   cases e
   by_cases h3:y=b
   ·subst h3
    rw [hb] at e'
    cases e'
   ·rw [hold y h2 h3] at e'
    exact absurd (R.inj y b cb d2 δ e' hφ) h3
  ·subst h2
   rw [hself] at e'
   cases e'
   by_cases h3:x=b
   ·subst h3
    rw [hb] at e
    cases e
   ·rw [hold x h1 h3] at e
    exact absurd (R.inj x b cb d1 δ e hφ) h3
  ·have h3:x≠b:=fun e2=>by rw [e2,hb] at e; cases e
   have h4:y≠b:=fun e2=>by rw [e2,hb] at e'; cases e'
   rw [hold x h1 h3] at e
   rw [hold y h2 h4] at e'
   exact R.inj x y c1 d1 d2 e e'
 ·have h1:x≠h.length:=fun e2=>by rw [e2,hself] at e; cases e
  by_cases hx:x<h.length
  ·have e3:z9 (kill h b++[⟨vs,k.ty,true⟩]) x=z9 (kill h b) x:=by
    unfold z9
    rw [a0a (by rw [ye]; exact hx)]
   rw [e3]
   by_cases h2:x=b
   ·subst h2
    exact qhv h x
   ·rw [hold x h1 h2] at e
    rw [qiu h h2]
    exact R.dead x e
  ·unfold z9
   rw [a00 (by simp [ye]; omega)]
 ·simp [ye] at hx
  rw [hold x (by omega) (by omega)]
  exact R.new x (by omega)

def xh (φ:Phi)(b:Nat) : Phi:=fun x=>if x=b then .dead else φ x
theorem qo8 (R:Rel sz φ L h w)(hW:∀ b,W b=true→L≤b){k:Blk}(hk:z9 h b=some k) :
  Ext L W φ (xh φ b) w w∧Rel sz (xh φ b) L (kill h b) w:=by
 obtain ⟨hkb,hkl,hblt⟩:=qbm hk
 have hE:Ext L W φ (xh φ b) w w:=by
  refine ⟨rfl,rfl,rfl,a0d _,fun x c1 d1 e=>?_,fun x e=>?_,fun x c1 d1 e=>?_,fun _ _ _=>rfl,fun _ c1 _ _ e=>⟨c1,e,rfl⟩⟩
  ·unfold xh
   split
   ·exact .inr rfl
   ·exact .inl e
  ·unfold xh
   split
   ·rfl
   ·exact e
  ·unfold xh at e
   split at e
   ·cases e
   ·exact .inl e
 refine ⟨hE,⟨fun x c1 d1 e=>?_,fun x y c1 d1 d2 e e'=>?_,fun x e=>?_,fun x hx=>?_⟩⟩
 ·unfold xh at e
  split at e
  ·cases e
  ·rename_i h2
   obtain ⟨k',a1,h3,h4,h5,h6,h7⟩:=R.live x c1 d1 e
   refine ⟨k',a1,by rw [qbn,if_neg h2]; exact h3,h4,h5,h6,fun i v hiv=>?_⟩
   obtain ⟨cv,h8,h9⟩:=h7 i v hiv
   exact ⟨cv,h8,h9.ext hE hW⟩
 ·unfold xh at e e'
  split at e
  ·cases e
  ·split at e'
   ·cases e'
   ·exact R.inj x y c1 d1 d2 e e'
 ·unfold xh at e
  split at e
  ·rename_i h2
   subst h2
   exact qhv h x
  ·rename_i h2
   rw [qiu h h2]
   exact R.dead x e
 ·rw [ye] at hx
  unfold xh
  rw [if_neg (by omega)]
  exact R.new x hx
end
end Go.Proofs.Ytanblnjomhgphaa.X
namespace Go.Proofs.Ytanblnjomhgphaa.X
open Go

structure TI where
 k:XTy
 size:Nat
 bytes:Nat
 zero:List XV
 deriving Inhabited

abbrev Tab:=Nat→Option TI

def XTy.agg:XTy→Bool
 | .struct _ | .array _ _=>true
 | _=>false

def u0:Value→Option XV
 | .int k n=>some (.int k n)
 | .bool b=>some (.bool b)
 | .string s=>some (.str s)
 | .slice none 0 0=>some .nil
 | .pointer none=>some .nilptr
 | .nilFunc=>some .nilfn
 | _=>none

def ka:XTy→TypeDesc→Bool
 | .int k,.int k'=>decide (k=k')
 | .bool,.bool | .str,.string=>true
 | .struct fs,.struct fields=>decide (fields.toList.map (fun f=>(f.offset,f.type))=fs)
 | .slice e,.slice e'=>decide (e=e')
 | .array n e,.array n' e'=>decide (n=n'∧e=e')
 | .ptr,.pointer _=>true
 | .other,.func _ _ _=>true
 | _,_=>false

structure TOk (P:Program) (T:Tab) (sz:TypeId→Nat) (t:Nat) (ti:TI) : Prop where
 desc:∃ d,P.underlying t=some d∧ka ti.k d=true
 info:∃ i z,P.info? t=some i∧i.size=ti.size∧i.bytes=ti.bytes∧i.zero=some z∧z.cells.toList.map u0=ti.zero.map some
 size:sz t=ti.size
 eqs:∀ fs,ti.k = .struct fs→P.stoodInHeld t=false∧P.eqGuardType P.depth t=false∧∃ fields:Array Field,P.underlying t=some (.struct fields)∧∀ f∈fields.toList,f.name ≠ "_"

def kp:Operand→Option XO
 | .tmp t=>some (.t t)
 | .const v=>(u0 v).map .c
 | .func f=>some (.c (.fn f []))
 | .global _=>none
def qd1:List Operand→Option (List XO)
 | []=>some []
 | x::r=>match kp x,qd1 r with
  | some a,some b=>some (a::b)
  | _,_=>none
def qe8:Option Operand→Option (Option XO)
 | none=>some none
 | some x=>(kp x).map some

def qpn:XTy→Bool
 | .int _ | .bool | .str=>true
 | _=>false

def qf1 (T:Tab) : Nat→List (Nat × Nat)→Option (List XTy)
 | _,[]=>some []
 | i,(o,t)::r=>match T t,qf1 T (i+1) r with
  | some ti,some ks=>if o=i∧qpn ti.k=true∧ti.size=1 then some (ti.k::ks) else none
  | _,_=>none

def qhc (T:Tab)(fs:List (Nat × Nat)) : List (Nat × Operand)→Option (List (Nat × Nat × XO))
 | []=>some []
 | (i,x)::r=>match fs[i]?,kp x,qhc T fs r with
  | some (o,t),some a,some b=>match T t with
   | some ti=>some ((o,ti.size,a)::b)
   | none=>none
  | _,_,_=>none
def qds (n:Nat) : List (Nat × Operand)→Option (List (Nat × Nat × XO))
 | []=>some []
 | (i,x)::r=>match kp x,qds n r with
  | some a,some b=>some ((i*n,n,a)::b)
  | _,_=>none

def qpa (T:Tab) : List TypeId→Bool
 | []=>true
 | t::r=>(match T t with
  | some ti=>(match ti.k with | .int _=>true | _=>false)
  | none=>false)&&qpa T r

def qbh (T:Tab)(c:Call) : Option XOp :=
 match c.callee with
 | .value f=>match kp f,qd1 c.args.toList with
  | some a,some b=>some (.call a b)
  | _,_=>none
 | .invoke _ _=>none
 | .builtin b =>
  match b,c.args.toList,c.argTypes.toList with
  | .len,[x],[t]=>match T t,kp x with
   | some ti,some a=>match ti.k with
    | .slice _=>some (.len a)
    | .str=>some (.lens a)
    | _=>none
   | _,_=>none
  | .append,[s,x],[t,u]=>match T t,T u,kp s,kp x with
   | some ti,some ui,some a,some b=>match ti.k,ui.k with
    | .slice e,.slice _=>match T e with
     | some ei=>if 0<ei.size∧0<ei.bytes∧ei.zero.length=ei.size then some (.app e ei.size ei.bytes a b) else none
     | none=>none
    | _,_=>none
   | _,_,_,_=>none
  | .copy,[d,s],[t,u]=>match T t,T u,kp d,kp s with
   | some ti,some ui,some a,some b=>match ti.k,ui.k with
    | .slice e,.slice _=>match T e with
     | some ei=>some (.cpy e ei.size a b)
     | none=>none
    | _,_=>none
   | _,_,_,_=>none
  | .clear,[x],[t]=>match T t,kp x with
   | some ti,some a=>match ti.k with
    | .slice e=>match T e with
     | some ei=>if ei.zero.length=ei.size then some (.clr e ei.zero a) else none
     | none=>none
    | _=>none
   | _,_=>none
  | .max,xs,ts=>match qd1 xs with
   | some as=>if qpa T ts=true then some (.mnx true as) else none
   | none=>none
  | .min,xs,ts=>match qd1 xs with
   | some as=>if qpa T ts=true then some (.mnx false as) else none
   | none=>none
  | _,_,_=>none

def jk (T:Tab)(op:Op) : Option XOp :=
 match op with
 | .move x | .assign x=>(kp x).map .mv
 | .pick c a b=>match kp c,kp a,kp b with
  | some c,some a,some b=>some (.pick c a b)
  | _,_,_=>none
 | .alloc e=>match T e with
  | some ti=>some (.new e ti.zero)
  | none=>none
 | .box e x=>match T e,kp x with
  | some ti,some a=>some (.box e ti.size a)
  | _,_=>none
 | .build t parts=>match T t with
  | some ti=>match ti.k with
   | .struct fs=>if fs.all (fun f=>(T f.2).isSome)=true then (match qhc T fs parts.toList with
    | some ps=>some (.build ti.zero ps)
    | none=>none) else none
   | .array _ e=>(match T e with
    | some ei=>(match qds ei.size parts.toList with
     | some ps=>some (.build ti.zero ps)
     | none=>none)
    | none=>none)
   | _=>none
  | none=>none
 | .buildSlice t len parts=>match T t with
  | some ti=>match ti.k with
   | .slice e=>match T e with
    | some ei=>match qds ei.size parts.toList with
     | some ps=>if len*ei.size≤16777216∧ei.zero.length=ei.size∧0<ei.size then some (.buildS e len (a0t len ei.zero).flatten ps) else none
     | none=>none
    | none=>none
   | _=>none
  | none=>none
 | .load t a=>match T t,kp a with
  | some ti,some a=>some (.ld (if ti.k.agg then some ti.size else none) a)
  | _,_=>none
 | .store t a v=>match T t,kp a,kp v with
  | some ti,some a,some v=>some (.st ti.size a v)
  | _,_,_=>none
 | .nilCheck x=>(kp x).map .chk
 | .binOp op xt x y _=>match T xt,kp x,kp y with
  | some ti,some a,some b=>match ti.k with
   | .struct fs=>(match qf1 T 0 fs with
    | some ks=>(match op with
     | .eql=>some (.eqs false ks a b)
     | .neq=>some (.eqs true ks a b)
     | _=>none)
    | none=>none)
   | .int _ | .str=>some (.bin op a b)
   | .bool=>(match op with
    | .eql=>some (.eqb false a b)
    | .neq=>some (.eqb true a b)
    | _=>none)
   | _=>none
  | _,_,_=>none
 | .unOp op _ x=>(kp x).map (.un op)
 | .convert s d x=>match T s,T d,kp x with
  | some si,some di,some a=>match si.k,di.k with
   | .int _,.int k=>some (.cvt k a)
   | _,_=>none
  | _,_,_=>none
 | .makeFunc (.func f) first caps=>if first.size=0 then (qd1 caps.toList).map (.mkF f) else none
 | .makeSlice t l c=>match T t,kp l,kp c with
  | some ti,some a,some b=>match ti.k with
   | .slice e=>match T e with
    | some ei=>if 0<ei.size∧0<ei.bytes then some (.mkS e ei.size ei.bytes ei.zero a b) else none
    | none=>none
   | _=>none
  | _,_,_=>none
 | .slice t x lo hi mx=>match T t,kp x,qe8 lo,qe8 hi,qe8 mx with
  | some ti,some a,some l,some e,some m=>match ti.k with
   | .slice el=>match T el with
    | some ei=>some (.slc el ei.size a l e m)
    | none=>none
   | _=>none
  | _,_,_,_,_=>none
 | .fieldAddr s x f=>match T s,kp x with
  | some ti,some a=>match ti.k with
   | .struct fs=>match fs[f]? with
    | some (o,t)=>match T t with
     | some fi=>if fi.size=0 then none else some (.fa o a)
     | none=>none
    | none=>none
   | _=>none
  | _,_=>none
 | .indexAddr t x i=>match T t,kp x,kp i with
  | some ti,some a,some b=>match ti.k with
   | .slice e=>match T e with
    | some ei=>some (.ia ei.size a b)
    | none=>none
   | .array n e=>match T e with
    | some ei=>some (.iaA n ei.size a b)
    | none=>none
   | _=>none
  | _,_,_=>none
 | .index t x i=>match T t,kp x,kp i with
  | some ti,some a,some b=>match ti.k with
   | .str=>some (.sidx a b)
   | _=>none
  | _,_,_=>none
 | .extract t i=>(kp t).map (.ext · i)
 | .call c=>qbh T c
 | .makeInterface _ _=>some (.mnx true [])
 | .panic _=>some (.mnx true [])
 | _=>none
end Go.Proofs.Ytanblnjomhgphaa.X
namespace Go.Proofs.Ytanblnjomhgphaa.X
open Go

structure Sim (sz:TypeId→Nat) (φ:Phi) (L:Nat) (W:Nat→Bool) (h:Heap) (w:World) (v:XV) (h':Heap) (φ':Phi) (w':World) (cv:Value) : Prop where
 ext:Ext L W φ φ' w w'
 rel:Rel sz φ' L h' w'
 val:VRel sz φ' L w' v cv
 born:∀ b,φ' b ≠ .none→φ b ≠ .none∨h.length≤b
 hold:∀ b,b<h.length→(φ b = .none∨W b=false)→h'[b]? = h[b]?
 grow:h.length≤h'.length

section
variable {P:Program}{T:Tab}{sz:TypeId→Nat}{φ:Phi}{L:Nat}{W:Nat→Bool}{w:World}{h h':Heap}{ev:XO→XV}{ρ:Operand→Value}{v:XV}

theorem Sim.same (R:Rel sz φ L h w){cv:Value}(hv:VRel sz φ L w v cv) : Sim sz φ L W h w v h φ w cv :=
 ⟨Ext.refl _ _ _ _,R,hv,fun _ e => .inl e,fun _ _ _=>rfl,a0d _⟩

def Runs (P:Program)(ρ:Operand→Value)(o:Oper)(w:World)(cv:Value)(w':World) : Prop :=
 (execOp ρ o).run P w = .ok (.value cv) w'∨((execOp ρ o).run P w = .ok .skip w'∧cv=undef)

def EvRel (sz:TypeId→Nat)(φ:Phi)(L:Nat)(w:World)(ev:XO→XV)(ρ:Operand→Value) : Prop:=∀ x a,kp x=some a→VRel sz φ L w (ev a) (ρ x)

variable {t:Nat}{ti:TI}
theorem TOk.run_under (H:TOk P T sz t ti) : ∃ d,P.underlying t=some d∧ka ti.k d=true∧∀ w,(underlying t).run P w = .ok d w:=by
 obtain ⟨d,h1,h2⟩:=H.desc
 exact ⟨d,h1,h2,fun w=>by simp [underlying,program,Sem.run,h1]⟩
theorem TOk.run_size (H:TOk P T sz t ti)(w:World) : (sizeOf t).run P w = .ok ti.size w:=by
 obtain ⟨i,z,h1,h2,_⟩:=H.info
 simp [sizeOf,typeInfo,program,Sem.run,h1,h2]
theorem TOk.run_agg (H:TOk P T sz t ti)(w:World) : (isAgg t).run P w = .ok ti.k.agg w:=by
 obtain ⟨d,_,h2,h3⟩:=H.run_under
 unfold isAgg
 rw [Sem.run_bind,h3]
 simp only [Result.andThen]
 cases hk:ti.k <;> rw [hk] at h2 <;> cases d <;> first | rfl | (simp [ka] at h2)
theorem TOk.run_zero (H:TOk P T sz t ti) : ∃ z,z.cells.toList.map u0=ti.zero.map some∧∀ w,(zeroValue t).run P w = .ok z w:=by
 obtain ⟨i,z,h1,h2,h3,h4,h5⟩:=H.info
 exact ⟨z,h5,fun w=>by simp [zeroValue,typeInfo,program,Sem.run,h1,h4]⟩
theorem TOk.run_info (H:TOk P T sz t ti) : ∃ i,P.info? t=some i∧i.bytes=ti.bytes∧i.size=ti.size∧∀ w,(typeInfo t).run P w = .ok i w:=by
 obtain ⟨i,z,h1,h2,h3,_⟩:=H.info
 exact ⟨i,h1,h3,h2,fun w=>by simp [typeInfo,program,Sem.run,h1]⟩

theorem VRel.const {c:Value}{x:XV}(e:u0 c=some x) : VRel sz φ L w x c:=by
 unfold u0 at e
 split at e <;> first | (cases e; constructor) | cases e

theorem qi4 {z:Array Value}{xs:List XV}(e:z.toList.map u0=xs.map some){i:Nat}{x:XV}(hx:xs[i]? = some x) : ∃ cv,z[i]? = some cv∧VRel sz φ L w x cv:=by
 have h1:(z.toList.map u0)[i]? = (xs.map some)[i]? := by rw [e]
 rw [a2i,a2i,hx] at h1
 simp only [a2e,a0q] at h1
 cases hz:z[i]? with
 | none=>rw [hz] at h1; cases h1
 | some cv =>
  rw [hz] at h1
  exact ⟨cv,rfl,VRel.const (by simpa using h1)⟩
theorem qgi {z:Array Value}{xs:List XV}(e:z.toList.map u0=xs.map some) : xs.length=z.size:=by
 have:=congrArg List.length e
 simpa using this.symm

theorem VRel.cells {x:XV}{cv:Value}(hv:VRel sz φ L w x cv)(h1:x.cells.all XV.one=true) : LRel sz φ L w x.cells cv.cells.toList:=by
 cases hv with
 | agg cs cvs hl hv=>exact ⟨by simp [XV.cells,Value.cells,hl],fun i a b h1 h2=>hv i a b h1 (by simpa [Value.cells] using h2)⟩
 | undef=>simp [XV.cells,XV.one] at h1
 | tup=>simp [XV.cells,XV.one] at h1
 | _ =>
  refine ⟨rfl,fun i a b h1 h2=>?_⟩
  simp only [XV.cells,Value.cells] at h1 h2
  obtain ⟨rfl,rfl⟩ : i=0∧a=_:=by
   rcases i with _ | i
   ·exact ⟨rfl,by simpa using h1.symm⟩
   ·simp at h1
  obtain rfl:b=_:=by simpa using h2.symm
  constructor <;> assumption

theorem qur (HT:TOk P T sz t ti)(R:Rel sz φ L h w){a:XO}{va:Value}(ha:VRel sz φ L w (ev a) va)
  (hx:ze W ev h (.ld (if ti.k.agg then some ti.size else none) a)=some (v,h')) : ∃ cv,(Instr.loadAt t va).run P w = .ok cv w∧VRel sz φ L w v cv∧h'=h:=by
 unfold Instr.loadAt
 cases hk:ti.k.agg with
 | false =>
  rw [hk] at hx
  simp only [ze,a06,if_false] at hx
  generalize hea:ev a=ea at ha hx
  cases ha with
  | ptr b o ad hn hp =>
   dsimp only at hx
   cases hg:qal h b o with
   | none=>rw [hg] at hx; cases hx
   | some u =>
    rw [hg] at hx
    cases hx
    obtain ⟨cb,δ,cv,h1,h2,h3⟩:=qp7 R hn hg
    rw [hp cb δ h1]
    refine ⟨cv,?_,h3,rfl⟩
    simp only [Instr.sureAddr,loadVar,Sem.run_bind,Sem.run_pure,Result.andThen,HT.run_agg,hk,a06,if_false]
    rw [qk2 .plain h2]
  | ref cs off ad f hs hb hr hv =>
   dsimp only at hx
   cases hg:cs[off]? with
   | none=>rw [hg] at hx; cases hx
   | some u =>
    rw [hg] at hx
    cases hx
    refine ⟨f off,?_,hv off _ hg,rfl⟩
    simp only [Instr.sureAddr,loadVar,Sem.run_bind,Sem.run_pure,Result.andThen,HT.run_agg,hk,a06,if_false]
    rw [qk2 .plain (hr off (r9.1 hg).1)]
  | _=>cases hx
 | true =>
  rw [hk] at hx
  simp only [ze,if_true] at hx
  generalize hea:ev a=ea at ha hx
  have hagg:∀ (n:Nat) (f:Nat→Value) (us:List XV),us.length=n→(∀ (j:Nat) u,us[j]? = some u→VRel sz φ L w u (f j))→VRel sz φ L w (.agg us) (.agg ((a2z n).map f).toArray):=by
   intro n f us hl hu
   refine .agg us _ (by simp [hl]) (fun i u cv h1 h2=>?_)
   have hi:i<n:=by rw [←hl]; exact (r9.1 h1).1
   simp [hi] at h2
   subst h2
   exact hu i u h1
  cases ha with
  | ptr b o ad hn hp =>
   dsimp only at hx
   cases hg:kw h b o ti.size with
   | none=>rw [hg] at hx; cases hx
   | some us =>
    rw [hg] at hx
    cases hx
    obtain ⟨cb,δ,f,h1,h2,h3,h4⟩:=qju R hn hg
    rw [hp cb δ h1]
    refine ⟨_,?_,hagg ti.size f us h2 h4,rfl⟩
    simp only [Instr.sureAddr,loadVar,Sem.run_bind,Sem.run_pure,Result.andThen,HT.run_agg,hk,if_true,HT.run_size]
    rw [qgv _ f _ h3]
  | ref cs off ad f hs hb hr hv =>
   dsimp only at hx
   by_cases hle:off+ti.size≤cs.length
   ·rw [if_pos hle] at hx
    cases hx
    refine ⟨_,?_,hagg ti.size (fun j=>f (off+j)) _ (by simp; omega) (fun j u hu=>?_),rfl⟩
    ·simp only [Instr.sureAddr,loadVar,Sem.run_bind,Sem.run_pure,Result.andThen,HT.run_agg,hk,if_true,HT.run_size]
     rw [qgv _ (fun j=>f (off+j)) _ (fun j hj=>by rw [qf9]; exact hr (off+j) (by omega))]
    ·rw [a2c] at hu
     split at hu
     ·rw [a1j] at hu
      exact hv (off+j) u hu
     ·cases hu
   ·rw [if_neg hle] at hx
    cases hx
  | _=>cases hx

theorem zb6 (HT:TOk P T sz t ti)(R:Rel sz φ L h w)(hW:∀ b,W b=true→L≤b){a x:XO}{va vx:Value}(ha:VRel sz φ L w (ev a) va)(hxv:VRel sz φ L w (ev x) vx)
  (hx:ze W ev h (.st ti.size a x)=some (v,h')) : ∃ w',(Instr.storeAt t va vx).run P w = .ok () w'∧Sim sz φ L W h w v h' φ w' undef:=by
 simp only [ze] at hx
 generalize hea:ev a=ea at ha hx
 cases ha with
 | ptr b o ad hn hp =>
  dsimp only at hx
  split at hx
  ·rename_i hlen
   cases hg:setCells W h b o (ev x).cells with
   | none=>rw [hg] at hx; cases hx
   | some h1 =>
    rw [hg] at hx
    cases hx
    obtain ⟨k,hk,hWb,_,hone,_⟩:=qa3 hg
    have hl:=hxv.cells hone
    obtain ⟨cb,δ,w',h1,h2,h3,h4⟩:=qfr (P:=P) R hW hn hg hl
    rw [hp cb δ h1]
    refine ⟨w',?_,⟨h3,h4,.undef _,fun _ e => .inl e,fun b' hb' e=>?_,?_⟩⟩
    ·unfold Instr.storeAt
     have hsz:vx.cells.size=ti.size:=by
      have:=hl.len
      rw [hlen] at this
      simpa using this.symm
     simp only [Instr.sureAddr,storeVar,Sem.run_bind,Sem.run_pure,Result.andThen,HT.run_size,hsz,ne_eq,not_true_eq_false,if_false]
     exact h2
    ·obtain ⟨k',_,_,_,_,rfl⟩:=qa3 hg
     by_cases hbb:b'=b
     ·subst hbb
      rcases e with e | e
      ·exact absurd e hn
      ·rw [hWb] at e; cases e
     ·rw [a1o (fun e=>hbb e.symm)]
    ·obtain ⟨k',_,_,_,_,rfl⟩:=qa3 hg
     simp
  ·cases hx
 | _=>cases hx
end
end Go.Proofs.Ytanblnjomhgphaa.X
namespace Go.Proofs.Ytanblnjomhgphaa.X
open Go
section
variable {P:Program}{T:Tab}{sz:TypeId→Nat}{φ:Phi}{L:Nat}{W:Nat→Bool}{w:World}{h h':Heap}{ev:XO→XV}{ρ:Operand→Value}{v:XV}{t:Nat}{ti:TI}

theorem qfp (ty:TypeId)(cc:Array Value)(w:World) : (newRow ty cc).run P w = .ok ⟨w.heap.size,0,none⟩ { w with heap:=w.heap.push (.cells cc ty) }:=by
 simp [newRow,newObj,Sem.run]

theorem qz1 (R:Rel sz φ L h w)(hW:∀ b,W b=true→L≤b)(ty:TypeId){vs:List XV}{cc:Array Value}(hl:LRel sz φ L w vs cc.toList){x:XV}{cx:Value}
  (hx:∀ φ' w',φ' h.length = .at w.heap.size 0→w'.heap[w.heap.size]? = some (.cells cc ty (0,0))→VRel sz φ' L w' x cx) :
  Sim sz φ L W h w x (h++[⟨vs,ty,true⟩]) (yz φ h.length w.heap.size 0) { w with heap:=w.heap.push (.cells cc ty) } cx:=by
 have hs:vs.length=cc.size:=by simpa using hl.len
 obtain ⟨h1,h2⟩:=qng R hW ty (vs:=vs) (cc:=cc) (Nat.le_of_eq hs) (fun i u hu=>by
  obtain ⟨cv,h3,h4⟩:=hl.get hu
  exact ⟨cv,by simpa using h3,h4⟩)
 refine ⟨h1,h2,hx _ _ (by simp [yz]) (by simp),fun b e=>?_,fun b hb _=>by rw [a0a hb],by simp⟩
 by_cases hb:b=h.length
 ·exact .inr (by omega)
 ·left
  intro e2
  exact e (by simp [yz,hb,e2])

def Took (sz:TypeId→Nat)(φ:Phi)(L:Nat)(h:Heap)(w:World)(v:XV)(h':Heap)(cv:Value)(w':World) : Prop :=
 ∃ (vs:List XV) (ty:TypeId) (cc:Array Value) (x:Nat→XV),v=x h.length∧h'=h++[⟨vs,ty,true⟩]∧w'={ w with heap:=w.heap.push (.cells cc ty) }∧LRel sz φ L w vs cc.toList ∧
  ∀ b φ1 w1,φ1 b = .at w.heap.size 0→w1.heap[w.heap.size]? = some (.cells cc ty (0,0))→VRel sz φ1 L w1 (x b) cv

theorem Took.sim (R:Rel sz φ L h w)(hW:∀ b,W b=true→L≤b){cv:Value}{w':World}(H:Took sz φ L h w v h' cv w') : ∃ φ',Sim sz φ L W h w v h' φ' w' cv:=by
 obtain ⟨vs,ty,cc,x,rfl,rfl,rfl,h1,h2⟩:=H
 exact ⟨_,qz1 R hW ty h1 (fun φ' w'=>h2 _ φ' w')⟩

theorem Took.slot {G:Heap}(R:Rel sz φ L G w)(hW:∀ b,W b=true→L≤b){cv:Value}{w':World}(H:Took sz φ L h w v h' cv w')(hn:φ h.length = .none)(hs:h.length<G.length) :
  ∃ k,h'=h++[k]∧Ext L W φ (yz φ h.length w.heap.size 0) w w'∧Rel sz (yz φ h.length w.heap.size 0) L (G.set h.length k) w'∧VRel sz (yz φ h.length w.heap.size 0) L w' v cv:=by
 obtain ⟨vs,ty,cc,x,rfl,rfl,rfl,h1,h2⟩:=H
 have hs2:vs.length=cc.size:=by simpa using h1.len
 obtain ⟨h3,h4⟩:=qlp R hW ty (vs:=vs) (cc:=cc) (Nat.le_of_eq hs2) (fun i u hu=>by
  obtain ⟨cv,h3,h4⟩:=h1.get hu
  exact ⟨cv,by simpa using h3,h4⟩) hn (h2:=G.set h.length ⟨vs,ty,true⟩) (by rw [a2n]; simp [hs]) (fun b hb _=>by rw [a2n,if_neg (fun e=>hb e.symm)]) (fun b hb _=>R.new b (by simpa using hb))
 exact ⟨_,rfl,h3,h4,h2 _ _ _ (by simp [yz]) (by simp)⟩

theorem q2g {n:Nat}{x:XO}{vx:Value}(hv:VRel sz φ L w (ev x) vx)(hx:ze W ev h (.box t n x)=some (v,h')) :
  ∃ w' cv,(Instr.box t vx).run P w = .ok cv w'∧Took sz φ L h w v h' cv w':=by
 simp only [ze] at hx
 split at hx
 ·rename_i hc
  cases hx
  have hl:=hv.cells hc.2
  refine ⟨_,_,?_,_,t,vx.cells,fun b => .ptr b 0,rfl,rfl,rfl,hl,fun b φ' w' e _ => .ptr _ _ ⟨w.heap.size,0,none⟩ (by rw [e]; exact fun e=>by cases e) (fun cb δ e2=>by rw [e] at e2; cases e2; rfl)⟩
  simp [Instr.box,newVar,qfp,Result.andThen]
 ·cases hx

theorem qp2 (HT:TOk P T sz t ti)(hx:ze W ev h (.new t ti.zero)=some (v,h')) :
  ∃ w' cv,(Instr.alloc t true (.tuple #[])).run P w = .ok cv w'∧Took sz φ L h w v h' cv w':=by
 simp only [ze] at hx
 cases hx
 obtain ⟨z,hz,hr⟩:=HT.run_zero
 have hl:LRel sz φ L w ti.zero z.cells.toList:=⟨by simpa using qgi hz,fun i u cv h1 h2=>by
  obtain ⟨cv',h3,h4⟩:=qi4 (sz:=sz) (φ:=φ) (L:=L) (w:=w) hz h1
  rw [a2e,h3] at h2
  cases h2
  exact h4⟩
 refine ⟨_,_,?_,_,t,z.cells,fun b => .ptr b 0,rfl,rfl,rfl,hl,fun b φ' w' e _ => .ptr _ _ ⟨w.heap.size,0,none⟩ (by rw [e]; exact fun e=>by cases e) (fun cb δ e2=>by rw [e] at e2; cases e2; rfl)⟩
 simp [Instr.alloc,hr,newVar,qfp,Result.andThen]

theorem qm5 {off:Nat} : ∀ (l:List (Value × Nat)) (acc:Array Value),(l.foldl (fun cs (x:Value × Nat)=>cs.setIfInBounds (off+x.2) x.1) acc).size=acc.size:=by
 intro l
 induction l with
 | nil=>intro acc; rfl
 | cons x r ih=>intro acc; rw [List.foldl_cons,ih]; simp

theorem qon (off:Nat) : ∀ (l:List Value) (k:Nat) (acc:Array Value) (i:Nat),off+k+l.length≤acc.size →
  ((l.zipIdx k).foldl (fun cs (x:Value × Nat)=>cs.setIfInBounds (off+x.2) x.1) acc)[i]? = if off+k≤i∧i<off+k+l.length then l[i - (off+k)]? else acc[i]? := by
 intro l
 induction l with
 | nil=>intro k acc i _; rw [if_neg (by simp)]; rfl
 | cons x r ih =>
  intro k acc i hle
  rw [List.zipIdx_cons,List.foldl_cons,ih (k+1) _ i (by simp at hle ⊢; omega)]
  by_cases h1:i=off+k
  ·subst h1
   have hlt:off+k<acc.size:=by simp at hle; omega
   rw [if_neg (by omega),if_pos (by simp)]
   simp [hlt]
  ·by_cases h2:off+(k+1)≤i∧i<off+(k+1)+r.length
   ·rw [if_pos h2,if_pos (by simp; omega)]
    have:i - (off+k)=(i - (off+(k+1)))+1:=by omega
    rw [this,a1w]
   ·rw [if_neg h2,if_neg (by simp; omega),a22,if_neg (by omega)]

inductive PRel (sz:TypeId→Nat) (φ:Phi) (L:Nat) (w:World) (place:Nat→Option (Nat × Nat)) : List (Nat × Nat × XV)→List (Nat × Value)→Prop
 | nil:PRel sz φ L w place [] []
 | cons {o n i:Nat} {x:XV} {cx:Value} {ps:List (Nat × Nat × XV)} {cps:List (Nat × Value)} (hp:place i=some (o,n)) (hv:VRel sz φ L w x cx) (r:PRel sz φ L w place ps cps) : PRel sz φ L w place ((o,n,x)::ps) ((i,cx)::cps)

theorem qkz {place:Nat→Option (Nat × Nat)} : ∀ {ps:List (Nat × Nat × XV)} {cps:List (Nat × Value)} (_:PRel sz φ L w place ps cps) {cs cs':List XV} {cc:Array Value} (_:LRel sz φ L w cs cc.toList) (_:fill cs ps=some cs'),
  ∃ cc',Instr.fill place cc cps=some cc'∧LRel sz φ L w cs' cc'.toList:=by
 intro ps cps H
 induction H with
 | nil=>intro cs cs' cc hl e; simp only [fill] at e; cases e; exact ⟨cc,rfl,hl⟩
 | @cons o n i x cx ps cps hp hv r ih =>
  intro cs cs' cc hl e
  simp only [fill] at e
  split at e
  ·rename_i hc
   have hx:=hv.cells hc.2.2
   have hxs:x.cells.length=cx.cells.size:=by simpa using hx.len
   have hcs:cs.length=cc.size:=by simpa using hl.len
   unfold Instr.fill
   simp only [hp]
   rw [if_neg (by simp; omega)]
   refine ih ⟨?_,fun j a b h1 h2=>?_⟩ e
   ·rw [qeq _ _ _ (by omega),← Array.foldl_toList]
    have:=qm5 (off:=o) cx.cells.zipIdx.toList cc
    simp only [a3x]
    rw [this]
    exact hcs
   ·rw [qlv _ _ _ _ (by omega)] at h1
    rw [a2e,← Array.foldl_toList] at h2
    have hz:cx.cells.zipIdx.toList=cx.cells.toList.zipIdx 0:=by simp
    rw [hz,qon o cx.cells.toList 0 cc j (by simp; omega)] at h2
    split at h1
    ·rename_i hin
     rw [if_pos (by simp; omega)] at h2
     exact hx.at_ (j - o) a b h1 (by simpa using h2)
    ·rename_i hin
     rw [if_neg (by simp; omega)] at h2
     exact hl.at_ j a b h1 (by simpa using h2)
  ·cases e

theorem qqg {fs:List (Nat × Nat)}(hev:EvRel sz φ L w ev ρ) : ∀ {parts:List (Nat × Operand)} {ps:List (Nat × Nat × XO)},qhc T fs parts=some ps →
  PRel sz φ L w (fun i=>match fs[i]? with | some (o,t)=>(T t).map fun ti=>(o,ti.size) | none=>none) (ps.map fun p=>(p.1,p.2.1,ev p.2.2)) (parts.map fun p=>(p.1,ρ p.2)):=by
 intro parts
 induction parts with
 | nil=>intro ps e; simp only [qhc] at e; cases e; exact .nil
 | cons p r ih =>
  intro ps e
  obtain ⟨i,x⟩:=p
  simp only [qhc] at e
  split at e
  ·rename_i o t a b h1 h2 h3
   split at e
   ·rename_i ti h4
    cases e
    exact .cons (by simp [h1,h4]) (hev x a h2) (ih h3)
   ·cases e
  ·cases e

theorem qj0 {n:Nat}(hev:EvRel sz φ L w ev ρ) : ∀ {parts:List (Nat × Operand)} {ps:List (Nat × Nat × XO)},qds n parts=some ps →
  PRel sz φ L w (fun i=>some (i*n,n)) (ps.map fun p=>(p.1,p.2.1,ev p.2.2)) (parts.map fun p=>(p.1,ρ p.2)):=by
 intro parts
 induction parts with
 | nil=>intro ps e; simp only [qds] at e; cases e; exact .nil
 | cons p r ih =>
  intro ps e
  obtain ⟨i,x⟩:=p
  simp only [qds] at e
  split at e
  ·rename_i a b h2 h3
   cases e
   exact .cons rfl (hev x a h2) (ih h3)
  ·cases e

theorem TOk.zeroRel (HT:TOk P T sz t ti) : ∃ z,LRel sz φ L w ti.zero z.cells.toList∧∀ w,(zeroValue t).run P w = .ok z w:=by
 obtain ⟨z,hz,hr⟩:=HT.run_zero
 refine ⟨z,⟨by simpa using qgi hz,fun i u cv h1 h2=>?_⟩,hr⟩
 obtain ⟨cv',h3,h4⟩:=qi4 (sz:=sz) (φ:=φ) (L:=L) (w:=w) hz h1
 rw [a2e,h3] at h2
 cases h2
 exact h4

theorem qgx {zero:List XV}{z:Array Value}(hl:LRel sz φ L w zero z.toList)(n:Nat) : LRel sz φ L w (a0t n zero).flatten ((Array.range (n*z.size)).map fun i=>z[i % z.size]!).toList:=by
 have hz:zero.length=z.size:=by simpa using hl.len
 refine ⟨by simp [hz],fun i a b h1 h2=>?_⟩
 have hi:i<n*z.size:=by
  have:=(r9.1 h1).1
  simpa [hz] using this
 have hpos:0<z.size:=by
  rcases Nat.eq_zero_or_pos z.size with e | e
  ·rw [e] at hi; omega
  ·exact e
 have hm:i % z.size<z.size:=Nat.mod_lt _ hpos
 have h3:(a0t n zero).flatten[i]? = zero[i % z.size]? := by
  clear h1 h2
  induction n generalizing i with
  | zero=>omega
  | succ n ih =>
   rw [List.replicate_succ,a0y]
   by_cases h4:i<z.size
   ·rw [a0a (by omega),Nat.mod_eq_of_lt h4]
   ·rw [a0i (by omega),hz,ih (i - z.size) (by rw [a2o] at hi; omega) (Nat.mod_lt _ hpos),← Nat.mod_eq_sub_mod (by omega)]
 rw [h3] at h1
 simp [hi,hm] at h2
 subst h2
 exact hl.at_ _ a _ h1 (by simp [hm])
end
end Go.Proofs.Ytanblnjomhgphaa.X
namespace Go.Proofs.Ytanblnjomhgphaa.X
open Go
section
variable {P:Program}{T:Tab}{sz:TypeId→Nat}{φ:Phi}{L:Nat}{W:Nat→Bool}{w:World}{h h':Heap}{ev:XO→XV}{ρ:Operand→Value}{v:XV}{t:Nat}{ti:TI}

theorem LRel.agg {vs:List XV}{cc:Array Value}(H:LRel sz φ L w vs cc.toList) : VRel sz φ L w (.agg vs) (.agg cc) :=
 .agg vs cc (by simpa using H.len) (fun i a b h1 h2=>H.at_ i a b h1 (by simpa using h2))

theorem qp8 (HT:∀ t ti,T t=some ti→TOk P T sz t ti) : ∀ (l:List Field),(∀ f∈l,(T f.type).isSome=true) →
  l.mapM (fun f=>(P.info? f.type).map fun i=>(f.offset,i.size))=some (l.map fun f=>(f.offset,((T f.type).getD default).size)):=by
 intro l
 induction l with
 | nil=>intro _; simp
 | cons f r ih =>
  intro hl
  obtain ⟨ti,hti⟩:=Option.isSome_iff_exists.1 (hl f a3m)
  obtain ⟨i,z,h1,h2,_⟩:=(HT _ ti hti).info
  rw [a29,ih (fun g hg=>hl g (a2r _ hg))]
  simp [h1,h2,hti]

theorem PRel.mono {place place':Nat→Option (Nat × Nat)}(hp:∀ i x,place i=some x→place' i=some x){ps:List (Nat × Nat × XV)}{cps:List (Nat × Value)}(H:PRel sz φ L w place ps cps) : PRel sz φ L w place' ps cps:=by
 induction H with
 | nil=>exact .nil
 | cons h1 h2 _ ih=>exact .cons (hp _ _ h1) h2 ih

theorem qvt (HT:∀ t ti,T t=some ti→TOk P T sz t ti)(ht:T t=some ti)(hev:EvRel sz φ L w ev ρ){fs:List (Nat × Nat)}(hk:ti.k = .struct fs)(hall:fs.all (fun f=>(T f.2).isSome)=true)
  {parts:Array (Nat × Operand)} {ps:List (Nat × Nat × XO)} (hps:qhc T fs parts.toList=some ps) (hx:ze W ev h (.build ti.zero ps)=some (v,h')) :
  ∃ cv,(Instr.build t (parts.map fun (i,x)=>(i,ρ x))).run P w = .ok cv w∧VRel sz φ L w v cv∧h'=h:=by
 simp only [ze] at hx
 split at hx
 ·rename_i cs hf
  cases hx
  have H:=HT t ti ht
  obtain ⟨i,z,hi1,hi2,_,hi4,hi5⟩:=H.info
  have hz:LRel sz φ L w ti.zero z.cells.toList:=⟨by simpa using qgi hi5,fun i u cv h1 h2=>by
   obtain ⟨cv',h3,h4⟩:=qi4 (sz:=sz) (φ:=φ) (L:=L) (w:=w) hi5 h1
   rw [a2e,h3] at h2
   cases h2
   exact h4⟩
  obtain ⟨d,hd,hdo,hdr⟩:=H.run_under
  rw [hk] at hdo
  cases d with
  | struct fields =>
   simp only [ka,decide_eq_true_eq] at hdo
   have hfl:∀ f∈fields.toList,(T f.type).isSome=true:=by
    intro f hfm
    have:=a0x.1 hall (f.offset,f.type) (by rw [←hdo]; exact List.mem_map.2 ⟨f,hfm,rfl⟩)
    exact this
   have hpl:=qp8 HT fields.toList hfl
   have hrel:=(qqg hev hps).mono (place':=((fields.toList.map fun f=>(f.offset,((T f.type).getD default).size)).toArray[·]?)) (by
    intro i x hx
    split at hx
    ·rename_i o t0 h0
     rw [←hdo,a2i] at h0
     cases hfi:fields.toList[i]? with
     | none=>rw [hfi] at h0; cases h0
     | some f =>
      rw [hfi] at h0
      simp only [a0q,Option.some.injEq,Prod.mk.injEq] at h0
      obtain ⟨h01,h02⟩:=h0
      subst h01 h02
      cases hT:T f.type with
      | none=>rw [hT] at hx; cases hx
      | some tf =>
       rw [hT] at hx
       simp only [a0q,Option.some.injEq] at hx
       subst hx
       simp only [a17,a2i,hfi,a0q,hT,a0r]
    ·cases hx)
   obtain ⟨cc',h1,h2⟩:=qkz hrel hz hf
   refine ⟨.agg cc',run_build w t _ cc' ?_,h2.agg,rfl⟩
   unfold Program.built
   simp only [hi1,hd,hi4,hpl]
   rw [←h1]
   congr 1
   simp
  | _=>simp [ka] at hdo
 ·cases hx

theorem qrk (HT:∀ t ti,T t=some ti→TOk P T sz t ti)(ht:T t=some ti)(hev:EvRel sz φ L w ev ρ){n e:Nat}{ei:TI}(hk:ti.k = .array n e)(he:T e=some ei)
  {parts:Array (Nat × Operand)} {ps:List (Nat × Nat × XO)} (hps:qds ei.size parts.toList=some ps) (hx:ze W ev h (.build ti.zero ps)=some (v,h')) :
  ∃ cv,(Instr.build t (parts.map fun (i,x)=>(i,ρ x))).run P w = .ok cv w∧VRel sz φ L w v cv∧h'=h:=by
 simp only [ze] at hx
 split at hx
 ·rename_i cs hf
  cases hx
  have H:=HT t ti ht
  obtain ⟨z,hz,hzr⟩:=H.zeroRel (φ:=φ) (L:=L) (w:=w)
  obtain ⟨d,hd,hdo,hdr⟩:=H.run_under
  rw [hk] at hdo
  cases d with
  | array n' e' =>
   simp only [ka,decide_eq_true_eq] at hdo
   obtain ⟨rfl,rfl⟩:=hdo
   have hrel:=qj0 hev hps
   obtain ⟨cc',h1,h2⟩:=qkz hrel hz hf
   refine ⟨.agg cc',?_,h2.agg,rfl⟩
   unfold Instr.build
   rw [Sem.run_bind,hzr]
   simp only [Result.andThen,Sem.run_bind,hdr,(HT _ _ he).run_size]
   simp only [a3j] at h1 ⊢
   have h1':Instr.fill (fun i=>some (i*ei.size,ei.size)) z.cells (List.map (fun x=>(x.1,ρ x.2)) parts.toList)=some cc':=h1
   rw [h1']
   rfl
  | _=>simp [ka] at hdo
 ·cases hx

def qmz (ρ:Operand→Value)(parts:Array (Nat × Operand)) : Array (Nat × Value):=parts.map fun (i,x)=>(i,ρ x)

theorem qpx (HT:∀ t ti,T t=some ti→TOk P T sz t ti)(ht:T t=some ti)(hev:EvRel sz φ L w ev ρ){e len:Nat}{ei:TI}(hk:ti.k = .slice e)(he:T e=some ei)
  (hlen:len*ei.size≤16777216) (hzl:ei.zero.length=ei.size) (hpos:0<ei.size) {parts:Array (Nat × Operand)} {ps:List (Nat × Nat × XO)} (hps:qds ei.size parts.toList=some ps)
  (hx:ze W ev h (.buildS e len (a0t len ei.zero).flatten ps)=some (v,h')) :
  ∃ w' cv,(Instr.buildSlice t len (qmz ρ parts)).run P w = .ok cv w'∧Took sz φ L h w v h' cv w':=by
 simp only [ze] at hx
 split at hx
 ·rename_i cs hf
  cases hx
  have HE:=HT e ei he
  obtain ⟨z,hz,hzr⟩:=HE.zeroRel (φ:=φ) (L:=L) (w:=w)
  have hzs:ei.zero.length=z.cells.size:=by simpa using hz.len
  obtain ⟨d,hd,hdo,hdr⟩:=(HT t ti ht).run_under
  rw [hk] at hdo
  cases d with
  | slice e' =>
   simp only [ka,decide_eq_true_eq] at hdo
   subst hdo
   have hrel:=(qj0 hev hps)
   have hz0:LRel sz φ L w (a0t len ei.zero).flatten ((Array.range (len*ei.size)).map fun i=>(if len*ei.size=0 then #[] else z.cells)[i % (if len*ei.size=0 then #[] else z.cells).size]!).toList:=by
    by_cases h0:len*ei.size=0
    ·have hl0:len=0:=by
      rcases Nat.mul_eq_zero.1 h0 with h1 | h1
      ·exact h1
      ·omega
     subst hl0
     exact ⟨by simp,fun i a b h1 h2=>by simp at h1⟩
    ·simp only [h0,if_false]
     rw [←hzl,hzs]
     exact qgx hz len
   obtain ⟨cc',h1,h2⟩:=qkz hrel hz0 hf
   have hcl:cs.length=cc'.size:=by simpa using h2.len
   have hfl:∀ {ps:List (Nat × Nat × XV)} {c1 c2:List XV},fill c1 ps=some c2→c2.length=c1.length:=by
    intro ps
    induction ps with
    | nil=>intro c1 c2 e; simp only [fill] at e; cases e; rfl
    | cons p r ih =>
     intro c1 c2 e
     obtain ⟨o,n,x⟩:=p
     simp only [fill] at e
     split at e
     ·rename_i hc
      rw [ih e,qeq _ _ _ (by omega)]
     ·cases e
   have hcs:cs.length=len*ei.size:=by rw [hfl hf]; simp [hzl]
   refine ⟨_,_,?_,_,e,cc',fun b => .row b 0 len len,rfl,rfl,rfl,h2,fun b φ' w' e1 e2 => .row _ _ _ _ (some ⟨w.heap.size,0,none⟩) _ (a0d _) ⟨a0d _,by have:=a3g len hpos; omega⟩ (fun _=>rfl) (by rw [e1]; exact fun e=>by cases e)
    (fun cb δ e3=>by rw [e1] at e3; cases e3; exact ⟨fun _=>rfl,cc',e,(0,0),e2,by rw [HE.size]; omega⟩)⟩
   unfold Instr.buildSlice qmz
   rw [Sem.run_bind,hdr]
   simp only [Result.andThen,Sem.run_bind,HE.run_size]
   rw [if_neg (by omega)]
   by_cases h0:len*ei.size=0
   ·simp only [h0,if_true] at h1 ⊢
    simp only [Sem.run_pure,Result.andThen,Sem.run_bind]
    simp only [a3j] at h1 ⊢
    rw [h1]
    simp only [Sem.run_bind,qfp,Result.andThen,Sem.run_pure]
   ·simp only [h0,if_false] at h1 ⊢
    simp only [Sem.run_bind,hzr,Sem.run_pure,Result.andThen]
    simp only [a3j] at h1 ⊢
    rw [h1]
    simp only [Sem.run_bind,qfp,Result.andThen,Sem.run_pure]
  | _=>simp [ka] at hdo
 ·cases hx
end
end Go.Proofs.Ytanblnjomhgphaa.X
namespace Go.Proofs.Ytanblnjomhgphaa.X
open Go
section
variable {P:Program}{T:Tab}{sz:TypeId→Nat}{φ:Phi}{L:Nat}{W:Nat→Bool}{w:World}{h h':Heap}{ev:XO→XV}{ρ:Operand→Value}{v:XV}{t:Nat}{ti:TI}

theorem zb1 (HT:∀ t ti,T t=some ti→TOk P T sz t ti)(ht:T t=some ti){fs:List (Nat × Nat)}(hk:ti.k = .struct fs){f o ft:Nat}{fi:TI}(hf:fs[f]? = some (o,ft))(hfi:T ft=some fi)(hne:fi.size≠0)
  {a:XO} {va:Value} (ha:VRel sz φ L w (ev a) va) (hx:ze W ev h (.fa o a)=some (v,h')) :
  ∃ cv,(Instr.fieldAt t va f).run P w = .ok cv w∧VRel sz φ L w v cv∧h'=h:=by
 obtain ⟨d,hd,hdo,hdr⟩:=(HT t ti ht).run_under
 rw [hk] at hdo
 cases d with
 | struct fields =>
  simp only [ka,decide_eq_true_eq] at hdo
  rw [←hdo,a2i] at hf
  cases hff:fields[f]? with
  | none=>simp [hff] at hf
  | some fd =>
   simp only [a2e,hff,a0q,Option.some.injEq,Prod.mk.injEq] at hf
   obtain ⟨h01,h02⟩:=hf
   have hrun:∀ ad:Addr,(Instr.fieldAt t (.pointer (some ad)) f).run P w = .ok (.pointer (some (ad.add o))) w:=by
    intro ad
    unfold Instr.fieldAt
    rw [Sem.run_bind,hdr]
    simp only [Result.andThen,hff,Instr.sureAddr,Sem.run_bind,Sem.run_pure,fieldPlace]
    rw [h02,(HT ft fi hfi).run_size]
    simp only [Result.andThen]
    rw [if_neg hne]
    simp [h01]
   simp only [ze] at hx
   generalize hea:ev a=ea at ha hx
   cases ha with
   | ptr b o' ad hn hp =>
    cases hx
    exact ⟨_,hrun ad,.ptr _ _ _ hn (fun cb δ e=>by rw [hp cb δ e,qar]; congr 1; omega),rfl⟩
   | ref cs off ad g hs hb hr hv =>
    cases hx
    refine ⟨_,hrun _,?_,rfl⟩
    rw [qf9]
    exact .ref cs (off+o) ad g hs hb hr hv
   | _=>cases hx
 | _=>simp [ka] at hdo

theorem zbk (HT:∀ t ti,T t=some ti→TOk P T sz t ti)(ht:T t=some ti){e:Nat}{ei:TI}(hk:ti.k = .slice e)(he:T e=some ei){a i:XO}{va vi:Value}(ha:VRel sz φ L w (ev a) va)(hi:VRel sz φ L w (ev i) vi)
  (hx:ze W ev h (.ia ei.size a i)=some (v,h')) : ∃ cv,(Instr.indexAt t va vi).run P w = .ok cv w∧VRel sz φ L w v cv∧h'=h:=by
 obtain ⟨d,hd,hdo,hdr⟩:=(HT t ti ht).run_under
 rw [hk] at hdo
 cases d with
 | slice e' =>
  simp only [ka,decide_eq_true_eq] at hdo
  subst hdo
  have hrun:∀ (ad:Addr) (n c:Nat) (k:IntKind) (j:Int),0≤j→j<n→(Instr.indexAt t (.slice (some ad) n c) (.int k j)).run P w = .ok (.pointer (some (ad.add (j.toNat*ei.size)))) w:=by
   intro ad n c k j h0 h1
   unfold Instr.indexAt
   simp only [asIntOf,Sem.run_bind,Sem.run_pure,Result.andThen,hdr]
   rw [if_pos ⟨h0,h1⟩]
   simp only [Sem.run_bind,(HT e ei he).run_size,Result.andThen,Sem.run_pure]
  simp only [ze] at hx
  generalize hea:ev a=ea at ha hx
  generalize hei:ev i=eii at hi hx
  cases hi with
  | int k j =>
   cases ha with
   | list es ao c el f hc hel hal hrr hvv =>
    dsimp only at hx
    split at hx
    ·rename_i h0
     split at hx
     ·rename_i cs hcs
      split at hx
      ·rename_i hl
       cases hx
       have hlt:=(r9.1 hcs).1
       obtain ⟨ad,h1,h2,h3,h4⟩:=hal (by omega)
       subst h1
       have hee:el=ei.size:=by rw [←hel _ _ hcs]; exact hl
       refine ⟨_,hrun ad _ _ _ _ h0 (by omega),?_,rfl⟩
       have hsp:(ad.add (j.toNat*ei.size)).spot=none:=by unfold Addr.add; split <;> simp [h2]
       have hadd:(ad.add (j.toNat*ei.size)).add 0=ad.add (j.toNat*ei.size):=by rw [qf9]; rfl
       rw [←hadd]
       refine .ref cs 0 (ad.add (j.toNat*ei.size)) (f j.toNat) hsp (by rw [qgs]; exact ⟨h3,h4⟩) (fun q hq=>?_) (fun q u hu=>hvv _ _ _ _ hcs hu)
       rw [qf9,← hee]
       exact hrr ad j.toNat q rfl hlt (by rw [hee,← hl]; exact hq)
      ·cases hx
     ·cases hx
    ·cases hx
   | row b off len cap ao c hl hc hal hn hp =>
    dsimp only at hx
    split at hx
    ·rename_i h0
     cases hx
     obtain ⟨ad,had⟩:=Option.isSome_iff_exists.1 (hal (by omega))
     subst had
     refine ⟨_,hrun ad _ _ _ _ h0.1 h0.2,.ptr _ _ _ hn (fun cb δ e=>?_),rfl⟩
     have h1:=(hp cb δ e).1 (by omega)
     cases h1
     rw [qar]
     congr 1
     omega
    ·cases hx
   | _=>cases hx
  | _=>cases ha <;> cases hx
 | _=>simp [ka] at hdo

theorem zap (HT:∀ t ti,T t=some ti→TOk P T sz t ti)(ht:T t=some ti){n e:Nat}{ei:TI}(hk:ti.k = .array n e)(he:T e=some ei){a i:XO}{va vi:Value}(ha:VRel sz φ L w (ev a) va)(hi:VRel sz φ L w (ev i) vi)
  (hx:ze W ev h (.iaA n ei.size a i)=some (v,h')) : ∃ cv,(Instr.indexAt t va vi).run P w = .ok cv w∧VRel sz φ L w v cv∧h'=h:=by
 obtain ⟨d,hd,hdo,hdr⟩:=(HT t ti ht).run_under
 rw [hk] at hdo
 cases d with
 | array n' e' =>
  simp only [ka,decide_eq_true_eq] at hdo
  obtain ⟨h01,h02⟩:=hdo
  subst h01 h02
  have hrun:∀ (ad:Addr) (k:IntKind) (j:Int),0≤j→j<n→(Instr.indexAt t (.pointer (some ad)) (.int k j)).run P w = .ok (.pointer (some (ad.add (j.toNat*ei.size)))) w:=by
   intro ad k j h0 h1
   unfold Instr.indexAt
   simp only [asIntOf,Instr.sureAddr,Sem.run_bind,Sem.run_pure,Result.andThen,hdr]
   rw [if_pos ⟨h0,h1⟩]
   simp only [Sem.run_bind,(HT e ei he).run_size,Result.andThen,Sem.run_pure]
  simp only [ze] at hx
  generalize hea:ev a=ea at ha hx
  generalize hei:ev i=eii at hi hx
  cases hi with
  | int k j =>
   cases ha with
   | ptr b off ad hn hp =>
    dsimp only at hx
    split at hx
    ·rename_i h0
     cases hx
     refine ⟨_,hrun ad _ _ h0.1 h0.2,.ptr _ _ _ hn (fun cb δ e=>?_),rfl⟩
     rw [hp cb δ e,qar]
     congr 1
     omega
    ·cases hx
   | _=>cases hx
  | _=>cases ha <;> cases hx
 | _=>simp [ka] at hdo

theorem zb3 {op:UnOp}{x:XO}{vx:Value}(hv:VRel sz φ L w (ev x) vx)(hx:ze W ev h (.un op x)=some (v,h')) : ∃ cv,(Op.unary op vx).run P w = .ok cv w∧VRel sz φ L w v cv∧h'=h:=by
 simp only [ze] at hx
 generalize hea:ev x=ea at hv hx
 split at hx
 ·rename_i u hu
  cases hx
  unfold xun at hu
  split at hu
  ·cases hv
   cases hu
   exact ⟨_,by simp [Op.unary,Op.intArith],.int _ _,rfl⟩
  ·cases hv
   cases hu
   exact ⟨_,by simp [Op.unary],.bool _,rfl⟩
  ·cases hu
 ·cases hx

theorem zal (HT:∀ t ti,T t=some ti→TOk P T sz t ti)(ht:T t=some ti){s:Nat}{si:TI}(hs:T s=some si){k0 k:IntKind}(hk0:si.k = .int k0)(hk:ti.k = .int k){x:XO}{vx:Value}(hv:VRel sz φ L w (ev x) vx)
  (hx:ze W ev h (.cvt k x)=some (v,h')) : ∃ cv,(convert s t vx).run P w = .ok cv w∧VRel sz φ L w v cv∧h'=h:=by
 obtain ⟨d,hd,hdo,hdr⟩:=(HT t ti ht).run_under
 obtain ⟨d',hd',hdo',hdr'⟩:=(HT s si hs).run_under
 rw [hk] at hdo
 rw [hk0] at hdo'
 simp only [ze] at hx
 generalize hea:ev x=ea at hv hx
 cases hv with
 | int kk n =>
  cases hx
  cases d with
  | int k1 =>
   cases d' with
   | int k2 =>
    simp only [ka,decide_eq_true_eq] at hdo
    subst hdo
    exact ⟨_,by simp [convert,hdr,hdr',Conv.intToInt,Result.andThen],.int _ _,rfl⟩
   | _=>simp [ka] at hdo'
  | _=>simp [ka] at hdo
 | _=>cases hx

theorem zad {x:XO}{i:Nat}{vx:Value}(hv:VRel sz φ L w (ev x) vx)(hx:ze W ev h (.ext x i)=some (v,h')) : ∃ cv,(Instr.extract vx i).run P w = .ok cv w∧VRel sz φ L w v cv∧h'=h:=by
 simp only [ze] at hx
 generalize hea:ev x=ea at hv hx
 cases hv with
 | tup cs cvs hl hv =>
  dsimp only at hx
  split at hx
  ·rename_i u hu
   cases hx
   have hlt:=(r9.1 hu).1
   refine ⟨cvs[i]'(by omega),?_,hv i _ _ hu (by simp),rfl⟩
   simp only [Instr.extract]
   rw [a09 (by omega)]
   rfl
  ·cases hx
 | _=>cases hx

theorem qmn (hev:EvRel sz φ L w ev ρ) : ∀ {xs:List Operand} {as:List XO},qd1 xs=some as→LRel sz φ L w (as.map ev) (xs.map ρ):=by
 intro xs
 induction xs with
 | nil=>intro as e; simp only [qd1] at e; cases e; exact ⟨rfl,fun i a b h1 h2=>by simp at h1⟩
 | cons x r ih =>
  intro as e
  simp only [qd1] at e
  split at e
  ·rename_i a b h1 h2
   cases e
   have:=ih h2
   refine ⟨by simpa using this.len,fun i u cu h3 h4=>?_⟩
   cases i with
   | zero=>simp at h3 h4; subst h3 h4; exact hev x a h1
   | succ i=>exact this.at_ i u cu (by simpa using h3) (by simpa using h4)
  ·cases e

theorem zax (hev:EvRel sz φ L w ev ρ){f:Nat}{caps:Array Operand}{as:List XO}(hc:qd1 caps.toList=some as)(hx:ze W ev h (.mkF f as)=some (v,h')) :
  ∃ cv,(Instr.makeFunc (.func f) #[] (caps.map ρ)).run P w = .ok cv w∧VRel sz φ L w v cv∧h'=h:=by
 simp only [ze] at hx
 cases hx
 have:=qmn hev hc
 refine ⟨_,rfl,.fn _ _ _ (by simpa using this.len) (fun i u cu h1 h2=>this.at_ i u cu h1 (by simpa using h2)),rfl⟩

theorem za3 (HT:∀ t ti,T t=some ti→TOk P T sz t ti)(ht:T t=some ti){e:Nat}(hk:ti.k = .slice e){ty:TypeId}{x:XO}{vx:Value}(hv:VRel sz φ L w (ev x) vx)(hx:ze W ev h (.len x)=some (v,h')) :
  ∃ cv,(Builtin.len_ #[t] ty #[vx]).run P w = .ok cv w∧VRel sz φ L w v cv∧h'=h:=by
 obtain ⟨d,hd,hdo,hdr⟩:=(HT t ti ht).run_under
 rw [hk] at hdo
 cases d with
 | slice e' =>
  have hrun:∀ a n c,(Builtin.len_ #[t] ty #[.slice a n c]).run P w = .ok (.int .i64 n) w:=by
   intro a n c
   unfold Builtin.len_
   simp only [a17,a1k,Sem.run_bind,hdr,Result.andThen]
   rfl
  simp only [ze] at hx
  generalize hea:ev x=ea at hv hx
  cases hv with
  | nil=>cases hx; exact ⟨_,hrun _ _ _,.int _ _,rfl⟩
  | list=>cases hx; exact ⟨_,hrun _ _ _,.int _ _,rfl⟩
  | row=>cases hx; exact ⟨_,hrun _ _ _,.int _ _,rfl⟩
  | _=>cases hx
 | _=>simp [ka] at hdo

theorem q0r (HT:∀ t ti,T t=some ti→TOk P T sz t ti)(ht:T t=some ti)(hk:ti.k = .str){a i:XO}{va vi:Value}(ha:VRel sz φ L w (ev a) va)(hi:VRel sz φ L w (ev i) vi)
  (hx:ze W ev h (.sidx a i)=some (v,h')) : ∃ cv,(Instr.index t va vi).run P w = .ok cv w∧VRel sz φ L w v cv∧h'=h:=by
 obtain ⟨d,hd,hdo,hdr⟩:=(HT t ti ht).run_under
 rw [hk] at hdo
 cases d with
 | string =>
  have hrun:∀ (s:ByteArray) (k:IntKind) (j:Int) (b:UInt8),0≤j→s[j.toNat]? = some b→(Instr.index t (.string s) (.int k j)).run P w = .ok (.int .u8 b.toNat) w:=by
   intro s k j b h0 h1
   unfold Instr.index
   simp only [asIntOf,Sem.run_bind,Sem.run_pure,Result.andThen,hdr]
   rw [if_pos h0,h1]
   rfl
  simp only [ze] at hx
  generalize hea:ev a=ea at ha hx
  generalize hei:ev i=eii at hi hx
  cases hi with
  | int k j =>
   cases ha with
   | str s =>
    dsimp only at hx
    split at hx
    ·rename_i h0
     split at hx
     ·rename_i b hb
      cases hx
      exact ⟨_,hrun s k j b h0 hb,.int _ _,rfl⟩
     ·cases hx
    ·cases hx
   | _=>cases hx
  | _=>cases ha <;> cases hx
 | _=>simp [ka] at hdo

theorem q16 (HT:∀ t ti,T t=some ti→TOk P T sz t ti)(ht:T t=some ti)(hk:ti.k = .str){ty:TypeId}{x:XO}{vx:Value}(hv:VRel sz φ L w (ev x) vx)(hx:ze W ev h (.lens x)=some (v,h')) :
  ∃ cv,(Builtin.len_ #[t] ty #[vx]).run P w = .ok cv w∧VRel sz φ L w v cv∧h'=h:=by
 obtain ⟨d,hd,hdo,hdr⟩:=(HT t ti ht).run_under
 rw [hk] at hdo
 cases d with
 | string =>
  simp only [ze] at hx
  generalize hea:ev x=ea at hv hx
  cases hv with
  | str s =>
   cases hx
   refine ⟨_,?_,.int _ _,rfl⟩
   unfold Builtin.len_
   simp only [a17,a1k,Sem.run_bind,hdr,Result.andThen]
   rfl
  | _=>cases hx
 | _=>simp [ka] at hdo

theorem q1b (HT:∀ t ti,T t=some ti→TOk P T sz t ti)(ht:T t=some ti){e:Nat}{ei:TI}(hk:ti.k = .slice e)(he:T e=some ei)(hpos:0<ei.bytes){l c:XO}{vl vc:Value}
  (hl:VRel sz φ L w (ev l) vl) (hc:VRel sz φ L w (ev c) vc) (hx:ze W ev h (.mkS e ei.size ei.bytes ei.zero l c)=some (v,h')) :
  ∃ w' cv,(Instr.makeSlice t vl vc).run P w = .ok cv w'∧Took sz φ L h w v h' cv w':=by
 simp only [ze] at hx
 generalize hel:ev l=el at hl hx
 generalize hec:ev c=ec at hc hx
 split at hx
 ·rename_i n m
  split at hx
  ·rename_i hcond
   obtain ⟨rfl,h0,hb,hzl⟩:=hcond
   cases hl
   cases hc
   cases hx
   have HE:=HT e ei he
   obtain ⟨i,z,hi1,hi2,hi3,hi4,hi5⟩:=HE.info
   obtain ⟨d,hd,hdo,hdr⟩:=(HT t ti ht).run_under
   rw [hk] at hdo
   cases d with
   | slice e' =>
    simp only [ka,decide_eq_true_eq] at hdo
    subst hdo
    have hz:LRel sz φ L w ei.zero z.cells.toList:=⟨by simpa using qgi hi5,fun i u cv h1 h2=>by
     obtain ⟨cv',h3,h4⟩:=qi4 (sz:=sz) (φ:=φ) (L:=L) (w:=w) hi5 h1
     rw [a2e,h3] at h2
     cases h2
     exact h4⟩
    have hzs:ei.zero.length=z.cells.size:=by simpa using hz.len
    have hbb:n.toNat*ei.bytes≤140737488355328:=by
     have:((n.toNat*ei.bytes:Nat) : Int)=n*ei.bytes:=by rw [Int.natCast_mul,Int.toNat_of_nonneg h0]
     omega
    have h63:n≤9223372036854775807:=by
     have:=a3g n.toNat hpos
     omega
    have hr:=run_make (P:=P) w t e i z hd hi1 hi4 .i64 .i64 n n h0 (Int.le_refl _) (by rw [hi3,Int.mul_comm]; omega) h63
    have hcells:LRel sz φ L w (a0t n.toNat ei.zero).flatten (madeCells z.cells (n.toNat*i.size)).toList:=by
     rw [hi2,← hzl,hzs]
     exact qgx hz n.toNat
    refine ⟨_,_,hr,_,e,madeCells z.cells (n.toNat*i.size),fun b => .row b 0 n.toNat n.toNat,rfl,rfl,rfl,hcells,fun b φ' w' e1 e2 => .row _ _ _ _ (some ⟨w.heap.size,0,none⟩) _ (a0d _) ⟨a0d _,by omega⟩ (fun _=>rfl) (by rw [e1]; exact fun e=>by cases e)
     (fun cb δ e3=>by rw [e1] at e3; cases e3; exact ⟨fun _=>rfl,_,e,(0,0),e2,by rw [HE.size,size_madeCells,hi2]; omega⟩)⟩
   | _=>simp [ka] at hdo
  ·cases hx
 ·cases hx
end
end Go.Proofs.Ytanblnjomhgphaa.X
namespace Go.Proofs.Ytanblnjomhgphaa.X
open Go
section
variable {P:Program}{T:Tab}{sz:TypeId→Nat}{φ:Phi}{L:Nat}{W:Nat→Bool}{w:World}{h h':Heap}{ev:XO→XV}{ρ:Operand→Value}{v:XV}{t:Nat}{ti:TI}

theorem qq2 {xt:TypeId}{op:BinOp}{x y:XO}{X Y:Operand}{vx vy:Value}(hvx:VRel sz φ L w (ev x) vx)(hvy:VRel sz φ L w (ev y) vy)
  (hx:ze W ev h (.bin op x y)=some (v,h')) : ∃ cv,(do eqGuard op xt X Y vx vy; binOp op xt vx vy:Sem Value).run P w = .ok cv w∧VRel sz φ L w v cv∧h'=h:=by
 simp only [ze] at hx
 generalize hex:ev x=ex at hvx hx
 generalize hey:ev y=ey at hvy hx
 split at hx
 ·rename_i u hu
  cases hx
  unfold wq at hu
  split at hu
  case h_1 =>
   cases hvx; cases hvy
   split at hu
   ·cases hu
   ·rename_i hb
    cases hu
    exact ⟨_,by simp [eqGuard,binOp,Op.shift,hb],.int _ _,rfl⟩
  case h_2 =>
   cases hvx; cases hvy
   split at hu
   ·cases hu
   ·rename_i hb
    cases hu
    exact ⟨_,by simp [eqGuard,binOp,Op.shift,hb],.int _ _,rfl⟩
  all_goals first
   | (cases hvx; cases hvy; split at hu <;> cases hu; (try subst_vars); refine ⟨_,?_,by constructor,rfl⟩; simp_all [eqGuard,binOp,Op.shift,Op.intArith,Op.intDiv,Op.intBits,Op.intCmp,Op.stringOp,Result.andThen]; done)
   | (cases hvx; cases hvy; cases hu; refine ⟨_,?_,by constructor,rfl⟩; simp_all [eqGuard,binOp,Op.stringOp,Result.andThen]; done)
   | cases hu
 ·cases hx

theorem qgn (HT:∀ t ti,T t=some ti→TOk P T sz t ti)(ht:T t=some ti){a b:XV}{va vb:Value}(ha:VRel sz φ L w a va)(hb:VRel sz φ L w b vb){r:Bool}(hr:q0x ti.k a b=some r)(n:Nat) :
  (Op.equalIn (n+1) t va vb).run P w = .ok r w:=by
 obtain ⟨d,hd,hdo,hdr⟩:=(HT t ti ht).run_under
 unfold Op.equalIn
 rw [Sem.run_bind,hdr]
 simp only [Result.andThen]
 generalize ti.k=kk at hr hdo
 unfold q0x at hr
 split at hr
 ·cases ha; cases hb
  split at hr
  ·rename_i hkk
   cases hr
   subst hkk
   cases d <;> first | (simp [ka] at hdo; done) | simp
  ·cases hr
 ·cases ha; cases hb
  cases hr
  cases d <;> first | (simp [ka] at hdo; done) | simp
 ·cases ha; cases hb
  cases hr
  cases d <;> first | (simp [ka] at hdo; done) | simp
 ·cases hr

theorem qqt {xt:TypeId}(HT:∀ t ti,T t=some ti→TOk P T sz t ti)(ht:T xt=some ti)(hk:ti.k = .bool){neq:Bool}{op:BinOp}(hop:op=if neq then .neq else .eql){x y:XO}{X Y:Operand}{vx vy:Value}(hvx:VRel sz φ L w (ev x) vx)(hvy:VRel sz φ L w (ev y) vy)
  (hx:ze W ev h (.eqb neq x y)=some (v,h')) : ∃ cv,(do eqGuard op xt X Y vx vy; binOp op xt vx vy:Sem Value).run P w = .ok cv w∧VRel sz φ L w v cv∧h'=h:=by
 simp only [ze] at hx
 generalize hex:ev x=ex at hvx hx
 generalize hey:ev y=ey at hvy hx
 split at hx
 ·rename_i a b
  have he:=qgn (w:=w) HT ht hvx hvy (r:=a == b) (by rw [hk]; rfl) 9999
  cases hvx; cases hvy
  cases hx
  have he':(Op.equal xt (.bool a) (.bool b)).run P w = .ok (a == b) w:=he
  cases neq
  ·subst hop
   exact ⟨_,by simp [eqGuard,binOp,he',Result.andThen],.bool _,rfl⟩
  ·subst hop
   exact ⟨_,by simp [eqGuard,binOp,he',Result.andThen],.bool _,rfl⟩
 ·cases hx

theorem qrv (HT:∀ t ti,T t=some ti→TOk P T sz t ti)(d:Nat){xs ys:List XV}{cxs cys:Array Value}(hlx:xs.length=cxs.size)(hly:ys.length=cys.size)
  (hvx:∀ (i:Nat) v cv,xs[i]? = some v→cxs[i]? = some cv→VRel sz φ L w v cv) (hvy:∀ (i:Nat) v cv,ys[i]? = some v→cys[i]? = some cv→VRel sz φ L w v cv) :
  ∀ (l:List Field) (i:Nat) (ks:List XTy) (b:Bool),(∀ f∈l,f.name ≠ "_")→qf1 T i (l.map fun f=>(f.offset,f.type))=some ks→qlk ks (xs.drop i) (ys.drop i)=some b →
  (forIn (m:=Sem) l ((none,()) : Option Bool × Unit) (fun f _ =>
       if f.name ≠ "_" then do
        let __do_lift ← part f.type cxs f.offset
        let __do_lift_1 ← part f.type cys f.offset
        let __do_lift ← Op.equalIn (d+1) f.type __do_lift __do_lift_1
        if (!__do_lift)=true then pure (ForInStep.done (some false,()))
         else pure (ForInStep.yield (none,()))
       else pure (ForInStep.yield (none,())))).run P w = .ok (if b then (none,()) else (some false,())) w:=by
 intro l
 induction l with
 | nil =>
  intro i ks b _ hk hb
  simp only [List.map_nil,qf1] at hk
  cases hk
  have:b=true:=by
   unfold qlk at hb
   split at hb
   ·simpa using hb.symm
   ·rename_i h1 _ _; cases h1
   ·cases hb
  subst this
  simp
 | cons f r ih =>
  intro i ks b hn hk hb
  simp only [List.map_cons,qf1] at hk
  split at hk
  ·rename_i fi ks' hf hks'
   split at hk
   ·rename_i hc
    cases hk
    unfold qlk at hb
    split at hb
    ·rename_i h1 _ _; cases h1
    ·rename_i k0 ks0 x0 xr y0 yr h1 h2 h3
     cases h1
     split at hb
     ·rename_i a b2 ha hb2
      cases hb
      have hx0:xs[i]? = some x0:=by
       have:=congrArg (fun l=>l[0]?) h2
       simpa using this
      have hy0:ys[i]? = some y0:=by
       have:=congrArg (fun l=>l[0]?) h3
       simpa using this
      have hxr:xs.drop (i+1)=xr:=by
       have:=congrArg List.tail h2
       simpa [List.tail_drop] using this
      have hyr:ys.drop (i+1)=yr:=by
       have:=congrArg List.tail h3
       simpa [List.tail_drop] using this
      have hix:=(r9.1 hx0).1
      have hiy:=(r9.1 hy0).1
      have hcx:cxs[i]? = some (cxs[i]'(by omega)):=a09 (by omega)
      have hcy:cys[i]? = some (cys[i]'(by omega)):=a09 (by omega)
      have hag:fi.k.agg=false:=by
       have:=hc.2.1
       cases hkk:fi.k <;> rw [hkk] at this <;> first | rfl | (simp [qpn] at this)
      have HF:=HT _ _ hf
      have hp:∀ (cs:Array Value) (cv:Value),cs[i]? = some cv→(part f.type cs f.offset).run P w = .ok cv w:=by
       intro cs cv hcs
       unfold part
       rw [Sem.run_bind,HF.run_agg,hag]
       simp only [Result.andThen,a06,if_false,hc.1,hcs]
       rfl
      rw [List.forIn_cons,if_pos (hn f a3m)]
      simp only [Sem.run_bind,hp _ _ hcx,hp _ _ hcy,Result.andThen,qgn HT hf (hvx i _ _ hx0 hcx) (hvy i _ _ hy0 hcy) ha d]
      cases a
      ·simp
      ·have:=ih (i+1) ks' b2 (fun g hg=>hn g (a2r _ hg)) hks' (by rw [hxr,hyr]; exact hb2)
       simp only [Bool.not_true,a06,if_false,Sem.run_pure,Bool.true_and]
       exact this
     ·cases hb
    ·cases hb
   ·cases hk
  ·cases hk

theorem qqx {xt:TypeId}(HT:∀ t ti,T t=some ti→TOk P T sz t ti)(ht:T xt=some ti){fs:List (Nat × Nat)}(hk:ti.k = .struct fs){ks:List XTy}(hks:qf1 T 0 fs=some ks){neq:Bool}{op:BinOp}(hop:op=if neq then .neq else .eql){x y:XO}{X Y:Operand}{vx vy:Value}(hvx:VRel sz φ L w (ev x) vx)(hvy:VRel sz φ L w (ev y) vy)
  (hx:ze W ev h (.eqs neq ks x y)=some (v,h')) : ∃ cv,(do eqGuard op xt X Y vx vy; binOp op xt vx vy:Sem Value).run P w = .ok cv w∧VRel sz φ L w v cv∧h'=h:=by
 obtain ⟨hst,hgt,fields,hfu,hfn⟩:=(HT xt ti ht).eqs fs hk
 obtain ⟨d,hd,hdo,hdr⟩:=(HT xt ti ht).run_under
 rw [hfu] at hd
 cases hd
 rw [hk] at hdo
 simp only [ka,decide_eq_true_eq] at hdo
 simp only [ze] at hx
 generalize hex:ev x=ex at hvx hx
 generalize hey:ev y=ey at hvy hx
 split at hx
 ·rename_i xs ys
  split at hx
  ·rename_i b hb
   cases hvx with
   | agg _ cxs hlx hvx=>cases hvy with
    | agg _ cys hly hvy =>
     have hloop:=qrv HT 9998 hlx hly hvx hvy fields.toList 0 ks b hfn (by rw [hdo]; exact hks) (by simpa using hb)
     have he:(Op.equal xt (.agg cxs) (.agg cys)).run P w = .ok b w:=by
      show (Op.equalIn 10000 xt (.agg cxs) (.agg cys)).run P w = .ok b w
      unfold Op.equalIn
      rw [Sem.run_bind,hdr]
      simp only [Result.andThen,Sem.run_bind,program,Sem.run,hst,a06,if_false]
      rw [←Array.forIn_toList,hloop]
      cases b <;> simp
     have hg:(eqGuard op xt X Y (.agg cxs) (.agg cys)).run P w = .ok () w:=by
      subst hop
      cases neq <;> simp [eqGuard,program,Sem.run,hgt]
     cases hx
     cases neq
     ·subst hop
      refine ⟨.bool b,?_,.bool _,rfl⟩
      rw [Sem.run_bind,hg]
      simp [binOp,he,Result.andThen]
     ·subst hop
      refine ⟨.bool (!b),?_,.bool _,rfl⟩
      rw [Sem.run_bind,hg]
      simp [binOp,he,Result.andThen]
  ·cases hx
 ·cases hx
end
end Go.Proofs.Ytanblnjomhgphaa.X
namespace Go.Proofs.Ytanblnjomhgphaa.X
open Go
section
variable {P:Program}{T:Tab}{sz:TypeId→Nat}{φ:Phi}{L:Nat}{W:Nat→Bool}{w:World}{h h':Heap}{ev:XO→XV}{ρ:Operand→Value}{v:XV}{t:Nat}{ti:TI}

theorem qja (hev:EvRel sz φ L w ev ρ){x:Option Operand}{a:Option XO}(hc:qe8 x=some a){r:Option Nat}(hr:yc (a.map ev)=some r) :
  (x=none∧r=none)∨∃ o k n,x=some o∧ρ o = .int k (n:Nat)∧r=some n:=by
 cases x with
 | none =>
  simp only [qe8] at hc
  cases hc
  simp only [a02,yc] at hr
  cases hr
  exact .inl ⟨rfl,rfl⟩
 | some o =>
  simp only [qe8] at hc
  cases ho:kp o with
  | none=>rw [ho] at hc; cases hc
  | some b =>
   rw [ho] at hc
   cases hc
   have hv:=hev o b ho
   simp only [a0q] at hr
   generalize heb:ev b=eb at hv hr
   unfold yc at hr
   split at hr
   ·rename_i h0; cases h0
   ·rename_i k n h0
    cases h0
    split at hr
    ·rename_i hn
     cases hr
     generalize hro:ρ o=ro at hv
     cases hv
     refine .inr ⟨o,k,n.toNat,rfl,?_,rfl⟩
     rw [hro,Int.toNat_of_nonneg hn]
    ·cases hr
   ·cases hr

theorem qrj (len cap:Nat)(lo hi mx:Option Value){l e m:Option Nat}(hl:(lo=none∧l=none)∨∃ k n,lo=some (.int k (n:Nat))∧l=some n)(he:(hi=none∧e=none)∨∃ k n,hi=some (.int k (n:Nat))∧e=some n)
  (hm:(mx=none∧m=none)∨∃ k n,mx=some (.int k (n:Nat))∧m=some n) (h1:l.getD 0≤e.getD len) (h2:e.getD len≤m.getD cap) (h3:m.getD cap≤cap) (h4:m.isSome=true→e.isSome=true) :
  (Instr.sliceBounds true len cap lo hi mx).run P w = .ok (l.getD 0,e.getD len,m.getD cap) w:=by
 have hb:∀ (k:IntKind) (n y:Nat) (c:BoundsCode),n≤y→(Instr.sliceBound (.int k (n:Nat)) y c).run P w = .ok n w:=by
  intro k n y c hle
  unfold Instr.sliceBound
  simp only [asIntOf,Sem.run_bind,Sem.run_pure,Result.andThen]
  rw [if_pos ⟨by omega,by omega⟩]
  simp
 unfold Instr.sliceBounds
 rcases hm with ⟨rfl,rfl⟩ | ⟨km,nm,rfl,rfl⟩ <;> rcases he with ⟨rfl,rfl⟩ | ⟨ke,ne,rfl,rfl⟩ <;> rcases hl with ⟨rfl,rfl⟩ | ⟨kl,nl,rfl,rfl⟩ <;> simp only [a0v,a0r] at h1 h2 h3 <;> first
  | (simp at h4; done)
  | simp [Sem.run_bind,hb,h1,h2,h3,Result.andThen]

theorem q96 (R:Rel sz φ L h w)(HT:∀ t ti,T t=some ti→TOk P T sz t ti)(ht:T t=some ti)(hev:EvRel sz φ L w ev ρ){e:Nat}{ei:TI}(hk:ti.k = .slice e)(he:T e=some ei){x:XO}{vx:Value}(hv:VRel sz φ L w (ev x) vx)
  {lo hi mx:Option Operand} {lo' hi' mx':Option XO} (hlo:qe8 lo=some lo') (hhi:qe8 hi=some hi') (hmx:qe8 mx=some mx')
  (hx:ze W ev h (.slc e ei.size x lo' hi' mx')=some (v,h')) : ∃ cv,(Instr.sliceAt t vx (lo.map ρ) (hi.map ρ) (mx.map ρ)).run P w = .ok cv w∧VRel sz φ L w v cv∧h'=h:=by
 obtain ⟨d,hd,hdo,hdr⟩:=(HT t ti ht).run_under
 rw [hk] at hdo
 cases d with
 | slice e' =>
  simp only [ka,decide_eq_true_eq] at hdo
  subst hdo
  simp only [ze] at hx
  split at hx
  ·rename_i l eh m hl0 he0 hm0
   have hl:=qja hev hlo hl0
   have hE:=qja hev hhi he0
   have hm:=qja hev hmx hm0
   have conv:∀ {o:Option Operand} {r:Option Nat},((o=none∧r=none)∨∃ a k n,o=some a∧ρ a = .int k (n:Nat)∧r=some n)→((o.map ρ=none∧r=none)∨∃ k n,o.map ρ=some (.int k (n:Nat))∧r=some n):=by
    intro o r ho
    rcases ho with ⟨rfl,rfl⟩ | ⟨a,k,n,rfl,h1,rfl⟩
    ·exact .inl ⟨rfl,rfl⟩
    ·exact .inr ⟨k,n,by simp [h1],rfl⟩
   have hrun:∀ (a:Option Addr) (n c:Nat),l.getD 0≤eh.getD n→eh.getD n≤m.getD c→m.getD c≤c→(m.isSome=true→eh.isSome=true) →
     (Instr.sliceAt t (.slice a n c) (lo.map ρ) (hi.map ρ) (mx.map ρ)).run P w = .ok (.slice (if m.getD c=l.getD 0 then a else a.map (·.add (l.getD 0*ei.size))) (eh.getD n - l.getD 0) (m.getD c - l.getD 0)) w:=by
    intro a n c h1 h2 h3 h4
    unfold Instr.sliceAt
    rw [Sem.run_bind,hdr]
    simp only [Result.andThen]
    unfold Instr.slice
    rw [Sem.run_bind,hdr]
    simp only [Result.andThen]
    rw [Sem.run_bind,qrj n c _ _ _ (conv hl) (conv hE) (conv hm) h1 h2 h3 h4]
    simp only [Result.andThen,Sem.run_bind,(HT e ei he).run_size,Sem.run_pure]
   generalize hex:ev x=ex at hv hx
   split at hx
   ·rename_i u hu
    cases hx
    unfold yy at hu
    cases hv with
    | nil =>
     dsimp only at hu
     split at hu
     ·rename_i hc
      cases hu
      obtain ⟨c1,c2,rfl⟩:=hc
      have h1:=hrun none 0 0 (by omega) (by simp; omega) (by simp) (by simp)
      refine ⟨_,h1,?_,rfl⟩
      simp only [a02,ite_self]
      rw [c1,c2]
      exact .nil
     ·cases hu
    | list es a c el f hcc hel hal hrr hvv =>
     dsimp only at hu
     split at hu
     ·rename_i hc
      cases hu
      obtain ⟨h1,h2,rfl,h3⟩:=hc
      have h4:=hrun a es.length c h1 (by simp; omega) (by simp) (by simp)
      refine ⟨_,h4,?_,rfl⟩
      simp only [a0v]
      have hlen:((es.take (eh.getD es.length)).drop (l.getD 0)).length=eh.getD es.length - l.getD 0:=by simp; omega
      rw [←hlen]
      have hget:∀ (i:Nat) cs,((es.take (eh.getD es.length)).drop (l.getD 0))[i]? = some cs→es[l.getD 0+i]? = some cs:=by
       intro i cs hi
       rw [a1j,a2c] at hi
       split at hi
       ·exact hi
       ·cases hi
      by_cases hne:0<eh.getD es.length - l.getD 0
      ·have h5:¬ c=l.getD 0:=by omega
       obtain ⟨ad,g1,g2,g3,g4⟩:=hal (by omega)
       subst g1
       have hee:el=ei.size:=by
        have h0:l.getD 0<es.length:=by omega
        have:=a0x.1 h3 es[l.getD 0] (List.getElem_mem h0)
        simp only [decide_eq_true_eq] at this
        rw [←this]
        exact (hel _ _ (s8 h0)).symm
       rw [if_neg h5]
       refine .list _ _ _ el (fun i j=>f (l.getD 0+i) j) (by omega) (fun i cs hi=>hel _ _ (hget i cs hi)) (fun _=>⟨ad.add (l.getD 0*ei.size),rfl,by unfold Addr.add; split <;> simp [g2],by rw [qgs]; exact g3,by rw [qgs]; exact g4⟩) (fun ad' i j e1 hi hj=>?_) (fun i cs j u hi hj=>hvv _ _ _ _ (hget i cs hi) hj)
       simp only [a0q,Option.some.injEq] at e1
       subst e1
       rw [qf9,← hee,← Nat.add_assoc,← a2a]
       exact hrr ad (l.getD 0+i) j rfl (by omega) hj
      ·have hnil:(es.take (eh.getD es.length)).drop (l.getD 0)=[]:=a2m (by omega)
       rw [hnil]
       exact .list [] _ _ 0 (fun _ _=>undef) (by simp) (fun i cs hi=>by simp at hi) (fun h0=>by simp at h0) (fun _ i _ _ hi _=>by simp at hi) (fun i cs j u hi _=>by simp at hi)
     ·cases hu
    | row b off len cap a c hl' hc' ha hn hp =>
     dsimp only at hu
     split at hu
     ·rename_i hc
      cases hu
      obtain ⟨h1,h2,h3,h4,h5⟩:=hc
      have hm1:m.getD cap≤m.getD c:=by cases m <;> simp; omega
      have hm2:m.getD c≤c:=by
       cases m with
       | none=>simp
       | some q=>simp only [a0r] at h3 ⊢; omega
      have h6:=hrun a len c h1 (by omega) hm2 h4
      refine ⟨_,h6,?_,rfl⟩
      refine .row _ _ _ _ _ _ (by omega) (by omega) (fun h0=>?_) hn (fun cb δ e1=>?_)
      ·rw [if_neg (by omega)]
       simpa using ha (by omega)
      ·obtain ⟨g1,cc,ty',fz,g2,g3⟩:=hp cb δ e1
       obtain ⟨k,cc',k1,k2,k3,k4,_⟩:=R.live b cb δ e1
       rw [g2] at k3
       injection k3 with k3
       injection k3 with k3 k3' k3''
       subst k3 k3' k3''
       rw [k1] at h5
       simp only [a0q,Option.some.injEq] at h5
       rw [h5,(HT e ei he).size] at g3
       refine ⟨fun h0=>?_,cc,k.ty,(0,0),g2,?_⟩
       ·rw [if_neg (by omega),g1 (by omega)]
        simp only [a0q,qar]
        congr 2
        omega
       ·rw [h5,(HT e ei he).size]
        have:(m.getD c - l.getD 0)*ei.size+l.getD 0*ei.size≤c*ei.size:=by
         rw [←a2a]
         exact a1d _ (by omega)
        omega
     ·cases hu
    | _=>cases hu
   ·cases hx
  ·cases hx
 | _=>simp [ka] at hdo

theorem qla {el:Nat} : ∀ (es:List (List XV)),(∀ e∈es,e.length=el)→es.flatten.length=es.length*el:=by
 intro es
 induction es with
 | nil=>intro _; simp
 | cons x r ih =>
  intro hl
  rw [a0y,t9,ih (fun e he=>hl e (a2r _ he)),hl x a3m,List.length_cons,a2o,Nat.add_comm]

theorem q1a {el:Nat}(hp:0<el) : ∀ (es:List (List XV)),(∀ e∈es,e.length=el)→∀ j v,es.flatten[j]? = some v→∃ cs,es[j / el]? = some cs∧cs[j % el]? = some v:=by
 intro es
 induction es with
 | nil=>intro _ j v hv; simp at hv
 | cons x r ih =>
  intro hl j v hv
  have hx:=hl x a3m
  rw [a0y] at hv
  by_cases hj:j<el
  ·rw [a0a (by omega)] at hv
   exact ⟨x,by rw [Nat.div_eq_of_lt hj]; rfl,by rw [Nat.mod_eq_of_lt hj]; exact hv⟩
  ·rw [a0i (by omega),hx] at hv
   obtain ⟨cs,h1,h2⟩:=ih (fun e he=>hl e (a2r _ he)) (j - el) v hv
   refine ⟨cs,?_,?_⟩
   ·have:j / el=(j - el) / el+1:=by
     rw [Nat.div_eq_sub_div hp (by omega)]
    rw [this,a1w]
    exact h1
   ·rw [Nat.mod_eq_sub_mod (by omega)]
    exact h2

theorem qii (R:Rel sz φ L h w){esz:Nat}{x:XV}{vx:Value}(hv:VRel sz φ L w x vx){m:Nat}{xs:List XV}(hx:yd h esz x=some (m,xs)) :
  ∃ cvs:Array Value,(∀ n,n≤m→(Builtin.firstCells esz n vx).run P w = .ok (cvs.extract 0 (n*esz)) w)∧LRel sz φ L w xs cvs.toList∧xs.length=m*esz∧∃ a c,vx = .slice a m c:=by
 have hmk:∀ (a:Addr) (m c:Nat) (f:Nat→Value),(∀ j,j<m*esz→w.cell? (a.add j)=some (f j))→∀ n,n≤m→(Builtin.firstCells esz n (.slice (some a) m c)).run P w = .ok (((a2z (m*esz)).map f).toArray.extract 0 (n*esz)) w:=by
  intro a m c f hf n hn
  have hle:n*esz≤m*esz:=a1d _ hn
  unfold Builtin.firstCells
  rw [qgv a f (n*esz) (fun j hj=>hf j (by omega))]
  congr 1
  apply Array.ext
  ·simp only [List.size_toArray,List.length_map,List.length_range,Array.size_extract]
   omega
  ·intro i h1 h2
   simp
 have hlr:∀ (f:Nat→Value) (us:List XV) (q:Nat),us.length=q→(∀ (j:Nat) u,us[j]? = some u→VRel sz φ L w u (f j))→LRel sz φ L w us ((a2z q).map f).toArray.toList:=by
  intro f us q hq hu
  refine ⟨by simp [hq],fun i a b h1 h2=>?_⟩
  have hi:i<q:=by rw [←hq]; exact (r9.1 h1).1
  simp [hi] at h2
  subst h2
  exact hu i a h1
 cases hv with
 | nil =>
  simp only [yd] at hx
  cases hx
  exact ⟨#[],fun n hn=>by simp [Builtin.firstCells],⟨rfl,fun i a b h1 h2=>by simp at h1⟩,by simp,none,0,rfl⟩
 | list es a c el f hcc hel hal hrr hvv =>
  simp only [yd] at hx
  split at hx
  ·rename_i hall
   cases hx
   have hall':∀ e∈es,e.length=esz:=fun e he=>by simpa using a0x.1 hall e he
   by_cases h0:0<es.length
   ·obtain ⟨ad,g1,g2,g3,g4⟩:=hal h0
    subst g1
    have hee:el=esz:=by
     rw [←hall' es[0] (List.getElem_mem h0)]
     exact (hel _ _ (s8 h0)).symm
    subst hee
    have hpos:∀ j,j<es.length*el→0<el:=fun j hj=>by
     rcases Nat.eq_zero_or_pos el with e | e
     ·rw [e] at hj; omega
     ·exact e
    have hcell:∀ j,j<es.length*el→w.cell? (ad.add j)=some (f (j / el) (j % el)):=by
     intro j hj
     have hp:=hpos j hj
     have:=hrr ad (j / el) (j % el) rfl ((Nat.div_lt_iff_lt_mul hp).2 hj) (Nat.mod_lt _ hp)
     rwa [Nat.div_add_mod'] at this
    refine ⟨_,hmk ad _ c _ hcell,hlr _ _ _ (qla es hall') (fun j u hu=>?_),qla es hall',_,_,rfl⟩
    have hj:j<es.length*el:=by rw [←qla es hall']; exact (r9.1 hu).1
    obtain ⟨cs,h1,h2⟩:=q1a (hpos j hj) es hall' j u hu
    exact hvv _ _ _ _ h1 h2
   ·have hnil:es=[]:=a2m (by omega)
    subst hnil
    refine ⟨#[],fun n hn=>?_,⟨rfl,fun i a b h1 h2=>by simp at h1⟩,by simp,a,c,rfl⟩
    obtain rfl:n=0:=by simpa using hn
    cases a <;> simp [Builtin.firstCells,loadCells,loadCellsFrom]
  ·cases hx
 | row b off len cap a c hl' hc' ha hn hp =>
  simp only [yd] at hx
  split at hx
  ·rename_i cs hg
   cases hx
   obtain ⟨cb,δ,f,h1,h2,h3,h4⟩:=qju R hn hg
   by_cases h0:0<c
   ·have h5:=(hp cb δ h1).1 h0
    subst h5
    exact ⟨_,hmk _ _ _ _ h3,hlr _ _ _ h2 h4,h2,_,_,rfl⟩
   ·have hm0:m=0:=by omega
    subst hm0
    have hnil:xs=[]:=a2m (by simpa using h2)
    subst hnil
    refine ⟨#[],fun n hn=>?_,⟨rfl,fun i a b h1 h2=>by simp at h1⟩,by simp,a,c,rfl⟩
    obtain rfl:n=0:=by omega
    cases a <;> simp [Builtin.firstCells,loadCells,loadCellsFrom]
  ·cases hx
 | _=>simp [yd] at hx
end
end Go.Proofs.Ytanblnjomhgphaa.X
namespace Go.Proofs.Ytanblnjomhgphaa.X
open Go
section
variable {P:Program}{T:Tab}{sz:TypeId→Nat}{φ φ':Phi}{L:Nat}{W:Nat→Bool}{w w':World}{h h':Heap}{ev:XO→XV}{ρ:Operand→Value}{v:XV}{t:Nat}{ti:TI}

theorem Ext.drawn (L:Nat)(W:Nat→Bool)(φ:Phi)(w:World)(d:Nat) : Ext L W φ φ w { w with drawn:=d } :=
 ⟨rfl,rfl,rfl,a0d _,fun _ _ _ e => .inl e,fun _ e=>e,fun _ _ _ e => .inl e,fun _ _ _=>rfl,fun _ cc _ _ e=>⟨cc,e,rfl⟩⟩

theorem Rel.drawn (R:Rel sz φ L h w)(d:Nat) : Rel sz φ L h { w with drawn:=d }:=by
 refine ⟨fun b cb δ e=>?_,R.inj,R.dead,R.new⟩
 obtain ⟨k,cc,h1,h2,h3,h4,h5⟩:=R.live b cb δ e
 refine ⟨k,cc,h1,h2,h3,h4,fun i v hv=>?_⟩
 obtain ⟨cv,h6,h7⟩:=h5 i v hv
 exact ⟨cv,h6,h7.ext (Ext.drawn L (fun _=>false) φ w d) (fun _ e=>by cases e)⟩

theorem LRel.ext (H:Ext L W φ φ' w w')(hW:∀ b,W b=true→L≤b){vs:List XV}{cvs:List Value}(hv:LRel sz φ L w vs cvs) : LRel sz φ' L w' vs cvs :=
 ⟨hv.len,fun i a b h1 h2=>(hv.at_ i a b h1 h2).ext H hW⟩

theorem LRel.append {vs us:List XV}{cvs cus:List Value}(hv:LRel sz φ L w vs cvs)(hu:LRel sz φ L w us cus) : LRel sz φ L w (vs++us) (cvs++cus):=by
 refine ⟨by simp [hv.len,hu.len],fun i a b h1 h2=>?_⟩
 by_cases hi:i<vs.length
 ·rw [a0a hi] at h1
  rw [a0a (by rw [←hv.len]; exact hi)] at h2
  exact hv.at_ i a b h1 h2
 ·rw [a0i (by omega)] at h1
  rw [a0i (by rw [←hv.len]; omega),← hv.len] at h2
  exact hu.at_ _ a b h1 h2

theorem qp9 (n:Nat)(w:World) : (askRoom n).run P w = .ok () w:=by
 unfold askRoom
 split
 ·rfl
 ·rfl

theorem qff {st xt e ty:TypeId}(hst:∀ w,(underlying st).run P w = .ok (.slice e) w){e2:TypeId}(hxt:∀ w,(underlying xt).run P w = .ok (.slice e2) w){size:Nat}(hs:∀ w,(sizeOf e).run P w = .ok size w)
  {base:Option Addr} {sLen sCap m:Nat} {vx:Value} (hl:(Builtin.lenOf vx).run P w = .ok m w) {new:Array Value} (hf:(Builtin.firstCells size m vx).run P w = .ok new w) (hle:sLen+m≤sCap)
  (hw:(match base with | some a=>(storeCells (a.add (sLen*size)) new.toList).run P w | none => .ok () w) = .ok () w') :
  (Builtin.append_ #[st,xt] ty #[.slice base sLen sCap,vx]).run P w = .ok (.slice base (sLen+m) sCap) w':=by
 unfold Builtin.append_
 simp only [a17,a1k,a1w,Sem.run_bind,hst,hs,hxt,hl,Result.andThen,Sem.run_pure,a06,if_false]
 rw [if_pos hle]
 simp only [Bool.not_false,if_true,Sem.run_bind,hf,Result.andThen]
 cases base with
 | none=>cases hw; rfl
 | some a =>
  simp only [Sem.run_bind]
  dsimp only at hw
  rw [hw]
  rfl

theorem qjz {st xt e ty:TypeId}(hst:∀ w,(underlying st).run P w = .ok (.slice e) w){e2:TypeId}(hxt:∀ w,(underlying xt).run P w = .ok (.slice e2) w){size:Nat}(hs:∀ w,(sizeOf e).run P w = .ok size w){i:TypeInfo}(hi:∀ w,(typeInfo e).run P w = .ok i w){z:Value}(hz:∀ w,(zeroValue e).run P w = .ok z w)
  {base:Option Addr} {sLen sCap m:Nat} {vx:Value} (hl:∀ w,(Builtin.lenOf vx).run P w = .ok m w) {old new:Array Value} (hf:(Builtin.firstCells size m vx).run P { w with drawn:=w.drawn+1 } = .ok new { w with drawn:=w.drawn+1 }) (ho:(Builtin.firstCells size sLen (.slice base sLen sCap)).run P { w with drawn:=w.drawn+1 } = .ok old { w with drawn:=w.drawn+1 })
  (hgt:sCap<sLen+m) (hb:0<i.bytes) (hfit:(sLen+m)*i.bytes≤140737488355328) :
  ∃ c rest,(sLen+m≤c∧c≤9223372036854775807)∧rest.size=(c - (sLen+m))*z.cells.size∧(Builtin.append_ #[st,xt] ty #[.slice base sLen sCap,vx]).run P w = .ok (.slice (some ⟨w.heap.size,0,none⟩) (sLen+m) c) { w with drawn:=w.drawn+1,heap:=w.heap.push (.cells (old++new++rest) e) }:=by
 have hn:¬ (281474976710656<Builtin.nextslicecap (sLen+m) sCap*i.bytes):=by
  have:=growslice_fits (need:=sLen+m) (old:=sCap) (bytes:=i.bytes) hgt hfit
  omega
 refine ⟨(Question.appendCap (sLen+m) sCap e).cut (w.tape w.drawn (.appendCap (sLen+m) sCap e)),Builtin.zeroCells z.cells ((Question.appendCap (sLen+m) sCap e).cut (w.tape w.drawn (.appendCap (sLen+m) sCap e)) - (sLen+m)),?_,?_,?_⟩
 ·have h1:sLen+m≤140737488355328:=a1q (a3g _ hb) hfit
  have h2:=Nat.mod_lt (w.tape w.drawn (.appendCap (sLen+m) sCap e)) (show 2 ^ 63 - (sLen+m) > 0 by omega)
  simp only [Question.cut]
  omega
 ·simp [Builtin.zeroCells]
 ·unfold Builtin.append_
  simp only [a17,a1k,a1w,Sem.run_bind,hst,hs,hxt,hl,Result.andThen,Sem.run_pure,a06,if_false]
  rw [if_neg (by omega)]
  simp only [Sem.run_bind,hi,Result.andThen,Sem.run_pure,a06,false_or]
  rw [if_neg (by omega)]
  simp only [Sem.run_bind,hi,Result.andThen,Sem.run_pure]
  rw [if_neg (by simpa using hn)]
  have hch:(choose (.appendCap (sLen+m) sCap e)).run P w = .ok ((Question.appendCap (sLen+m) sCap e).cut (w.tape w.drawn (.appendCap (sLen+m) sCap e))) { w with drawn:=w.drawn+1 }:=by
   simp [choose,Sem.run,Question.forced]
  simp only [Sem.run_bind,hch,Result.andThen,hi,qp9,ho,hf,hz,Sem.run_pure,Bool.not_false,if_true,qfp]
end
end Go.Proofs.Ytanblnjomhgphaa.X
namespace Go.Proofs.Ytanblnjomhgphaa.X
open Go
section
variable {P:Program}{T:Tab}{sz:TypeId→Nat}{φ φ':Phi}{L:Nat}{W:Nat→Bool}{w w':World}{h h':Heap}{ev:XO→XV}{ρ:Operand→Value}{v:XV}{t:Nat}{ti:TI}

theorem Sim.drawn (R:Rel sz φ L h w)(hW:∀ b,W b=true→L≤b){d:Nat}{cv:Value}(S:Sim sz φ L W h { w with drawn:=d } v h' φ' w' cv) : Sim sz φ L W h w v h' φ' w' cv :=
 ⟨(Ext.drawn L W φ w d).trans S.ext,S.rel,S.val,S.born,S.hold,S.grow⟩

theorem q06 (R:Rel sz φ L h w)(hW:∀ b,W b=true→L≤b){b:Nat}{k:Blk}(hk:z9 h b=some k)(hWb:W b=true)(hn:φ b ≠ .none)(ty:TypeId){vs:List XV}{cc:Array Value}(hs:vs.length≤cc.size)(hl:∀ (i:Nat) u,vs[i]? = some u→∃ cu,cc[i]? = some cu∧VRel sz φ L w u cu){x:XV}{cx:Value}
  (hx:∀ φ' w',φ' h.length = .at w.heap.size 0→w'.heap[w.heap.size]? = some (.cells cc ty (0,0))→VRel sz φ' L w' x cx) :
  ∃ φ',Sim sz φ L W h w x (kill h b++[⟨vs,ty,true⟩]) φ' { w with heap:=w.heap.push (.cells cc ty) } cx:=by
 obtain ⟨hE,hR⟩:=qo8 R hW hk
 obtain ⟨hE2,hR2⟩:=qng hR hW ty (vs:=vs) (cc:=cc) hs (fun i u hu=>by
  obtain ⟨cu,h1,h2⟩:=hl i u hu
  exact ⟨cu,h1,h2.ext hE hW⟩)
 rw [ye] at hE2 hR2
 refine ⟨_,⟨hE.trans hE2,hR2,hx _ _ (by simp [yz]) (by simp),fun x e=>?_,fun x hx e=>?_,by simp [ye]⟩⟩
 ·by_cases hb:x=h.length
  ·exact .inr (by omega)
  ·left
   intro e2
   apply e
   have hxb:x≠b:=fun e3=>hn (e3▸e2)
   simp [yz,xh,hb,hxb,e2]
 ·have hxb:x≠b:=by
   rintro rfl
   rcases e with e | e
   ·exact hn e
   ·rw [hWb] at e; cases e
  rw [a0a (by rw [ye]; exact hx),qbn,if_neg hxb]

theorem qa1 {b o:Nat}{vs:List XV}(e:setCells W h b o vs=some h')(hn:φ b ≠ .none) : (∀ b',b'<h.length→(φ b' = .none∨W b'=false)→h'[b']? = h[b']?)∧h.length≤h'.length:=by
 obtain ⟨k,_,hWb,_,_,rfl⟩:=qa3 e
 clear e
 refine ⟨fun b' hb' e=>?_,by simp⟩
 have hbb:b'≠b:=by
  rintro rfl
  rcases e with e | e
  ·exact hn e
  ·rw [hWb] at e; cases e
 rw [a1o (fun e=>hbb e.symm)]

theorem qj6 {b o:Nat}(e:setCells W h b o []=some h') : h'=h:=by
 obtain ⟨k,hk,_,hle,_,rfl⟩:=qa3 e
 have hs:jv k.cells o []=k.cells:=by simp [jv]
 rw [hs]
 apply List.ext_getElem?
 intro i
 rw [a2n]
 split
 ·rename_i hb
  subst hb
  have:=(qbm hk).1
  split
  ·exact this.symm
  ·rename_i hlt
   exact absurd (qbm hk).2.2 hlt
 ·rfl

theorem zau (R:Rel sz φ L h w)(hW:∀ b,W b=true→L≤b)(HT:∀ t ti,T t=some ti→TOk P T sz t ti){st xt e e2 ty:TypeId}{si xi ei:TI}(hst:T st=some si)(hks:si.k = .slice e)(hxt:T xt=some xi)(hkx:xi.k = .slice e2)(he:T e=some ei)(h1:0<ei.size)(h2:0<ei.bytes)(h3:ei.zero.length=ei.size)
  {s x:XO} {vs vx:Value} (hvs:VRel sz φ L w (ev s) vs) (hvx:VRel sz φ L w (ev x) vx) (hx:ze W ev h (.app e ei.size ei.bytes s x)=some (v,h')) :
  ∃ φ' w' cv,(Builtin.append_ #[st,xt] ty #[vs,vx]).run P w = .ok cv w'∧Sim sz φ L W h w v h' φ' w' cv:=by
 have HE:=HT e ei he
 obtain ⟨i,hi1,hi2,hi3,hir⟩:=HE.run_info
 obtain ⟨z,hz,hzr⟩:=HE.zeroRel (φ:=φ) (L:=L) (w:=w)
 have hzs:z.cells.size=ei.size:=by have:=hz.len; rw [h3] at this; simpa using this.symm
 have hus:∀ w,(underlying st).run P w = .ok (.slice e) w:=by
  obtain ⟨d,hd,hdo,hdr⟩:=(HT st si hst).run_under
  rw [hks] at hdo
  cases d <;> first | (simp [ka] at hdo; done) | (simp only [ka,decide_eq_true_eq] at hdo; subst hdo; exact hdr)
 have hux:∀ w,(underlying xt).run P w = .ok (.slice e2) w:=by
  obtain ⟨d,hd,hdo,hdr⟩:=(HT xt xi hxt).run_under
  rw [hkx] at hdo
  cases d <;> first | (simp [ka] at hdo; done) | (simp only [ka,decide_eq_true_eq] at hdo; subst hdo; exact hdr)
 simp only [ze] at hx
 generalize hes:ev s=es at hvs hx
 generalize hex:ev x=ex at hvx hx
 cases hfo:yd h ei.size ex with
 | none=>rw [hfo] at hx; cases hx
 | some mx =>
  obtain ⟨m,xs⟩:=mx
  rw [hfo] at hx
  dsimp only at hx
  obtain ⟨cxs,hfx,hlx,hxl,ax,cx,rfl⟩:=qii (P:=P) R hvx hfo
  have hfull:∀ {w:World} {cxs:Array Value} {vx:Value} {q:Nat},(∀ n,n≤q→(Builtin.firstCells ei.size n vx).run P w = .ok (cxs.extract 0 (n*ei.size)) w)→cxs.size=q*ei.size→(Builtin.firstCells ei.size q vx).run P w = .ok cxs w:=by
   intro w cxs vx q hf hs
   rw [hf q (a0d _),← hs]
   simp
  have hxm:=hfull hfx (by rw [←hxl]; simpa using hlx.len.symm)
  have hlen:∀ w,(Builtin.lenOf (.slice ax m cx)).run P w = .ok m w:=fun w=>rfl
  have hE1:=Ext.drawn L W φ w (w.drawn+1)
  have R1:=R.drawn (w.drawn+1)
  obtain ⟨cxs1,hfx1,hlx1,_,_,_,hax1⟩:=qii (P:=P) R1 (hvx.ext hE1 hW) hfo
  have hxm1:=hfull hfx1 (by rw [←hxl]; simpa using hlx1.len.symm)
  cases hvs with
  | nil =>
   dsimp only at hx
   split at hx
   ·rename_i hm
    cases hx
    subst hm
    refine ⟨φ,w,.slice none 0 0,?_,Sim.same R .nil⟩
    exact qff hus hux (fun w=>HE.run_size w) (hlen w) hxm (by omega) rfl
   ·rename_i hm
    split at hx
    ·rename_i hb
     cases hx
     obtain ⟨c,rest,hc1,hc2,hr⟩:=qjz (P:=P) (w:=w) (ty:=ty) hus hux (fun w=>HE.run_size w) hir hzr hlen hxm1 (old := #[]) (sLen:=0) (sCap:=0) (base:=none) (by simp [Builtin.firstCells]) (by omega) (by rw [hi2]; exact h2) (by rw [hi2,o8]; omega)
     simp only [o8] at hr hc1 hc2
     obtain ⟨g1,g2⟩:=qng R1 hW e (vs:=xs) (cc := #[]++cxs1++rest) (by have:=hlx1.len; simp at this ⊢; omega) (fun i u hu=>by
      obtain ⟨cu,k1,k2⟩:=hlx1.get hu
      refine ⟨cu,?_,k2⟩
      have hlt:i<cxs1.size:=by have:=hlx1.len; have:=(r9.1 hu).1; simp at *; omega
      simp only [Array.empty_append]
      rw [a3u hlt]
      simpa using k1)
     refine ⟨_,_,_,hr,⟨hE1.trans g1,g2,.row _ _ _ _ _ _ (a0d _) hc1 (fun _=>rfl) (by simp [yz]) (fun cb δ e3=>?_),fun x e=>?_,fun x hx _=>by rw [a0a hx],by simp⟩⟩
     ·simp only [yz,if_true,Loc.at.injEq] at e3
      obtain ⟨rfl,rfl⟩:=e3
      refine ⟨fun _=>rfl,#[]++cxs1++rest,e,(0,0),by simp,?_⟩
      rw [HE.size]
      have h5:cxs1.size=m*ei.size:=by rw [←hxl]; simpa using hlx1.len.symm
      simp only [Array.size_append,Array.size_empty,h5,hc2,hzs]
      have:c*ei.size=m*ei.size+(c - m)*ei.size:=by rw [←a2a]; congr 1; omega
      omega
     ·by_cases hb:x=h.length
      ·exact .inr (by omega)
      ·left
       intro e2
       exact e (by simp [yz,hb,e2])
    ·cases hx
  | row b off len cap a c hl hc ha hn hp =>
   dsimp only at hx
   split at hx
   ·rename_i hle
    split at hx
    ·rename_i h1' hg
     cases hx
     by_cases hm0:m=0
     ·subst hm0
      have hnil:xs=[]:=a2m (by simpa using hxl)
      subst hnil
      obtain rfl:=qj6 hg
      have hc0:cxs = #[]:=by
       have:=hlx.len
       simp at this
       exact Array.eq_empty_of_size_eq_zero this.symm
      subst hc0
      refine ⟨φ,w,.slice a (len+0) c,qff hus hux (fun w=>HE.run_size w) (hlen w) hxm (by omega) ?_,Sim.same R (.row b off len cap a c hl hc ha hn hp)⟩
      cases a <;> rfl
     ·obtain ⟨cb,δ,w',k1,k2,k3,k4⟩:=qfr (P:=P) R hW hn hg hlx
      have hca:=(hp cb δ k1).1 (by omega)
      subst hca
      refine ⟨φ,w',.slice (some ⟨cb,off+δ,none⟩) (len+m) c,?_,⟨k3,k4,?_,fun _ e => .inl e,?_,?_⟩⟩
      ·refine qff hus hux (fun w=>HE.run_size w) (hlen w) hxm (by omega) ?_
       dsimp only
       rw [qar,← k2]
       congr 3
       omega
      ·exact (VRel.row b off (len+m) cap _ c hle hc ha hn hp).ext k3 hW
      ·exact (qa1 hg hn).1
      ·exact (qa1 hg hn).2
    ·cases hx
   ·rename_i hgt
    split at hx
    ·rename_i k old hk hold
     split at hx
     ·rename_i hcond
      obtain ⟨hWb,hkt,hfit,hxone0⟩:=hcond
      cases hx
      obtain ⟨cb,δ,cc,k1,k2,k3,k4⟩:=qf4 R hn hk
      obtain ⟨k',hk',hole,hold1,hold2⟩:=ug hold
      rw [hk] at hk'
      cases hk'
      obtain ⟨q1,cc0,ty0,fz0,q2,q3⟩:=hp cb δ k1
      rw [k2] at q2
      injection q2 with q2
      injection q2 with q2 q2' q2''
      subst q2 q2' q2''
      rw [hkt,HE.size] at q3
      have hsz:cxs.size=m*ei.size:=by rw [←hxl]; simpa using hlx.len.symm
      by_cases hin:len+m≤c
      ·-- in place
       have hca:=q1 (by omega)
       subst hca
       have hmul:(len+m)*ei.size≤c*ei.size:=a1d _ hin
       rw [a2a] at hmul
       have hxone:∀ u∈cxs.toList,u.oneCell'=true:=hlx.one hxone0
       obtain ⟨w',hr,hput⟩:=qi0 (P:=P) cb (off+δ+len*ei.size) cxs.toList 0 w hxone ⟨cc,k.ty,k2,by simp; omega⟩
       obtain ⟨cc',p1,p2,p3⟩:=hput.self _ _ _ k2
       obtain ⟨S1,S2⟩:=q1w R hW hWb hk k1 hput (vs:=old++xs) (cc':=cc') (δ':=off+δ) p1 (by rw [p2]; simp only [t9,hold2,hxl]; omega) (fun j u hu=>by
        have hj:j<len*ei.size+m*ei.size:=by
         have:=(r9.1 hu).1
         simpa [hold2,hxl] using this
        rw [p3 _ (by omega)]
        by_cases hjo:j<len*ei.size
        ·rw [if_neg (by omega)]
         rw [a0a (by omega)] at hu
         rw [hold1,a2c,if_pos hjo,a1j] at hu
         obtain ⟨cu,r1,r2⟩:=k4 _ u hu
         exact ⟨cu,by rw [←r1]; congr 1; omega,r2⟩
        ·rw [if_pos (by simp; omega)]
         rw [a0i (by omega),hold2] at hu
         obtain ⟨cu,r1,r2⟩:=hlx.get hu
         exact ⟨cu,by rw [←r1]; congr 1; omega,r2⟩)
       refine ⟨_,w',.slice (some ⟨cb,off+δ,none⟩) (len+m) c,?_,⟨S1,by rw [←hkt]; exact S2,?_,fun x e=>?_,fun x hx e=>?_,by simp [ye]⟩⟩
       ·refine qff hus hux (fun w=>HE.run_size w) (hlen w) hxm (by omega) ?_
        dsimp only
        rw [qar]
        exact hr
       ·refine .row _ _ _ _ _ _ (a0d _) ⟨hin,hc.2⟩ (fun _=>rfl) (by simp [qa4]) (fun cb' δ' e3=>?_)
        simp only [qa4,if_true,Loc.at.injEq] at e3
        obtain ⟨rfl,rfl⟩:=e3
        refine ⟨fun _=>by congr 2; omega,cc',k.ty,(0,0),p1,?_⟩
        rw [p2,hkt,HE.size]
        omega
       ·by_cases hb:x=h.length
        ·exact .inr (by omega)
        ·left
         intro e2
         apply e
         have hxb:x≠b:=fun e3=>hn (e3▸e2)
         simp [qa4,hb,hxb,e2]
       ·have hxb:x≠b:=by
         rintro rfl
         rcases e with e | e
         ·exact hn e
         ·rw [hWb] at e; cases e
        rw [a0a (by rw [ye]; exact hx),qbn,if_neg hxb]
      ·-- a new block
       have hv1:VRel sz φ L { w with drawn:=w.drawn+1 } (.row b off len cap) (.slice a len c):=(VRel.row b off len cap a c hl hc ha hn hp).ext hE1 hW
       have hfo1:yd h ei.size (.row b off len cap)=some (len,old):=by simp only [yd,hold]
       obtain ⟨co,ho1,ho2,ho3,_⟩:=qii (P:=P) R1 hv1 hfo1
       have hos:co.size=len*ei.size:=by rw [←ho3]; simpa using ho2.len.symm
       obtain ⟨c',rest,hc1,hc2,hr⟩:=qjz (P:=P) (w:=w) (ty:=ty) hus hux (fun w=>HE.run_size w) hir hzr hlen hxm1 (hfull ho1 hos) (by omega) (by rw [hi2]; exact h2) (by rw [hi2]; omega)
       have hx1s:cxs1.size=m*ei.size:=by rw [←hxl]; simpa using hlx1.len.symm
       have hall:=ho2.append hlx1
       obtain ⟨φ',S⟩:=q06 (x := .row h.length 0 (len+m) (len+m)) (cx := .slice (some ⟨w.heap.size,0,none⟩) (len+m) c') R1 hW hk hWb hn e (vs:=old++xs) (cc:=co++cxs1++rest) (by simp [ho3,hxl,hos,hx1s]) (fun j u hu=>by
         obtain ⟨cu,r1,r2⟩:=hall.get hu
         refine ⟨cu,?_,r2⟩
         have hj:j<(co++cxs1).size:=by
          have:=(r9.1 hu).1
          simp only [t9,ho3,hxl] at this
          simp only [Array.size_append,hos,hx1s]
          exact this
         rw [a3u hj]
         rw [←a3z,a2e] at r1
         exact r1)
        (fun φ' w' e1 e2 => .row _ _ _ _ _ _ (a0d _) hc1 (fun _=>rfl) (by rw [e1]; exact fun e=>by cases e) (fun cb δ e3=>by
         rw [e1] at e3
         cases e3
         refine ⟨fun _=>rfl,_,e,(0,0),e2,?_⟩
         rw [HE.size]
         simp only [Array.size_append,hos,hx1s,hc2,hzs]
         have:c'*ei.size=len*ei.size+m*ei.size+(c' - (len+m))*ei.size:=by rw [←a2a,← a2a]; congr 1; omega
         omega))
       exact ⟨φ',_,_,hr,S.drawn R hW⟩
     ·cases hx
    ·cases hx
  | _=>cases hx
end
end Go.Proofs.Ytanblnjomhgphaa.X
namespace Go.Proofs.Ytanblnjomhgphaa.X
open Go
section
variable {P:Program}{T:Tab}{sz:TypeId→Nat}{φ φ':Phi}{L:Nat}{W:Nat→Bool}{w w':World}{h h':Heap}{ev:XO→XV}{ρ:Operand→Value}{v:XV}{t:Nat}{ti:TI}

theorem qko (HT:∀ t ti,T t=some ti→TOk P T sz t ti)(ht:T t=some ti){e:Nat}(hk:ti.k = .slice e) : ∀ w,(underlying t).run P w = .ok (.slice e) w:=by
 obtain ⟨d,hd,hdo,hdr⟩:=(HT t ti ht).run_under
 rw [hk] at hdo
 cases d <;> first | (simp [ka] at hdo; done) | (simp only [ka,decide_eq_true_eq] at hdo; subst hdo; exact hdr)

theorem zab (R:Rel sz φ L h w)(hW:∀ b,W b=true→L≤b)(HT:∀ t ti,T t=some ti→TOk P T sz t ti){dt st e ty:TypeId}{di ei:TI}(hdt:T dt=some di)(hkd:di.k = .slice e)(he:T e=some ei)
  {d s:XO} {vd vs:Value} (hvd:VRel sz φ L w (ev d) vd) (hvs:VRel sz φ L w (ev s) vs) (hx:ze W ev h (.cpy e ei.size d s)=some (v,h')) :
  ∃ φ' w' cv,(Builtin.copy_ #[dt,st] ty #[vd,vs]).run P w = .ok cv w'∧Sim sz φ L W h w v h' φ' w' cv:=by
 have hud:=qko HT hdt hkd
 have HE:=HT e ei he
 simp only [ze] at hx
 generalize hed:ev d=ed at hvd hx
 generalize hes:ev s=es at hvs hx
 cases hfo:yd h ei.size es with
 | none=>rw [hfo] at hx; cases hvd <;> cases hx
 | some mx =>
  obtain ⟨m,xs⟩:=mx
  rw [hfo] at hx
  obtain ⟨cxs,hfx,hlx,hxl,ax,cx,rfl⟩:=qii (P:=P) R hvs hfo
  have hcs:cxs.size=m*ei.size:=by rw [←hxl]; simpa using hlx.len.symm
  have hrun:∀ (a:Option Addr) (n c:Nat) (w':World),(match a with | some a=>(storeCells a (cxs.extract 0 (Nat.min m n*ei.size)).toList).run P w | none => .ok () w) = .ok () w' →
    (Builtin.copy_ #[dt,st] ty #[.slice a n c,.slice ax m cx]).run P w = .ok (.int .i64 (Nat.min m n:Nat)) w':=by
   intro a n c w' hs
   unfold Builtin.copy_
   simp only [a17,a1k,a1w,Sem.run_bind,hud,Result.andThen,Builtin.lenOf,Sem.run_pure,HE.run_size]
   rw [hfx _ (Nat.min_le_left _ _)]
   dsimp only
   cases a with
   | none=>cases hs; rfl
   | some a =>
    dsimp only at hs
    simp only [Sem.run_bind,hs]
    rfl
  cases hvd with
  | nil =>
   cases hx
   refine ⟨φ,w,_,hrun none 0 0 w rfl,?_⟩
   have:Nat.min m 0=0:=Nat.min_zero m
   rw [this]
   exact Sim.same R (.int _ _)
  | row b off len cap a c hl hc ha hn hp =>
   dsimp only at hx
   split at hx
   ·rename_i h1' hg
    cases hx
    have hlt:LRel sz φ L w (xs.take (min m len*ei.size)) (cxs.extract 0 (Nat.min m len*ei.size)).toList:=by
     have hle:min m len*ei.size≤m*ei.size:=a1d _ (Nat.min_le_left _ _)
     refine ⟨by simp only [List.length_take,hxl,a3x,Array.size_extract,hcs]; show min (min m len*ei.size) _=min (min m len*ei.size) _ - 0; omega,fun i a b h1 h2=>?_⟩
     rw [a2c] at h1
     split at h1
     ·rename_i hi
      refine hlx.at_ i a b h1 ?_
      rw [Array.toList_extract,List.extract_eq_take_drop,List.drop_zero,Nat.sub_zero,a2c] at h2
      split at h2
      ·exact h2
      ·rename_i hi2
       exact absurd hi hi2
     ·cases h1
    by_cases hc0:0<c
    ·obtain ⟨cb,δ,w',k1,k2,k3,k4⟩:=qfr (P:=P) R hW hn hg hlt
     have hca:=(hp cb δ k1).1 hc0
     subst hca
     exact ⟨φ,w',_,hrun _ _ _ w' k2,⟨k3,k4,.int _ _,fun _ e => .inl e,(qa1 hg hn).1,(qa1 hg hn).2⟩⟩
    ·have hl0:len=0:=by omega
     subst hl0
     simp only [Nat.min_zero,Nat.zero_mul,List.take_zero] at hg
     obtain rfl:=qj6 hg
     refine ⟨φ,w,_,hrun a 0 c w ?_,Sim.same R (.int _ _)⟩
     cases a with
     | none=>rfl
     | some a=>simp [storeCells]
   ·cases hx
  | _=>cases hx

theorem q95 (R:Rel sz φ L h w)(hW:∀ b,W b=true→L≤b)(HT:∀ t ti,T t=some ti→TOk P T sz t ti){e ty:TypeId}{ei:TI}(ht:T t=some ti)(hk:ti.k = .slice e)(he:T e=some ei)(hzl:ei.zero.length=ei.size)
  {x:XO} {vx:Value} (hv:VRel sz φ L w (ev x) vx) (hx:ze W ev h (.clr e ei.zero x)=some (v,h')) :
  ∃ φ' w' cv,(Builtin.clear_ #[t] ty #[vx]).run P w = .ok cv w'∧Sim sz φ L W h w v h' φ' w' cv:=by
 have hud:=qko HT ht hk
 have HE:=HT e ei he
 obtain ⟨z,hz,hzr⟩:=HE.zeroRel (φ:=φ) (L:=L) (w:=w)
 simp only [ze] at hx
 generalize hex:ev x=ex at hv hx
 have htup:VRel sz φ L w (.tup []) (.tuple #[]) := .tup [] #[] rfl (fun i a b h1 h2=>by simp at h1)
 cases hv with
 | nil =>
  cases hx
  refine ⟨φ,w,.tuple #[],?_,Sim.same R htup⟩
  unfold Builtin.clear_
  simp only [a17,a1k,Sem.run_bind,hud,Result.andThen]
  rfl
 | row b off len cap a c hl hc ha hn hp =>
  dsimp only at hx
  split at hx
  ·rename_i h0
   subst h0
   cases hx
   refine ⟨φ,w,.tuple #[],?_,Sim.same R htup⟩
   unfold Builtin.clear_
   simp only [a17,a1k,Sem.run_bind,hud,Result.andThen]
   cases a <;> rfl
  ·rename_i h0
   split at hx
   ·rename_i h1' hg
    cases hx
    have hzc:=qgx hz len
    obtain ⟨cb,δ,w',k1,k2,k3,k4⟩:=qfr (P:=P) R hW hn hg hzc
    have hca:=(hp cb δ k1).1 (by omega)
    subst hca
    refine ⟨φ,w',.tuple #[],?_,⟨k3,k4,htup.ext k3 hW,fun _ e => .inl e,(qa1 hg hn).1,(qa1 hg hn).2⟩⟩
    unfold Builtin.clear_
    obtain ⟨n,rfl⟩ : ∃ n,len=n+1:=⟨len - 1,by omega⟩
    simp only [a17,a1k,Sem.run_bind,hud,Result.andThen,hzr,Builtin.zeroCells]
    rw [k2]
    rfl
   ·cases hx
 | _=>cases hx

theorem qqi (hev:EvRel sz φ L w ev ρ){mx:Bool}{xs:List Operand}{as:List XO}(hc:qd1 xs=some as){ts:Array TypeId}{ty:TypeId}(hx:ze W ev h (.mnx mx as)=some (v,h')) :
  ∃ cv,((if mx then Builtin.max_ else Builtin.min_) ts ty (xs.map ρ).toArray).run P w = .ok cv w∧VRel sz φ L w v cv∧h'=h:=by
 have hl:=qmn hev hc
 simp only [ze] at hx
 generalize as.map ev=vs at hl hx
 generalize xs.map ρ=cvs at hl
 split at hx
 ·rename_i k a r
  split at hx
  ·rename_i u hu
   cases hx
   cases cvs with
   | nil=>have:=hl.len; simp at this
   | cons c0 cr =>
    have h0:=hl.at_ 0 _ _ rfl rfl
    cases h0
    have key:∀ (r:List XV) (cr:List Value) (a:Int) (u:XV),LRel sz φ L w r cr→qfj mx a k r=some u→∃ cv,(cr.foldlM (if mx then Builtin.max2 else Builtin.min2) (Value.int k a)).run P w = .ok cv w∧VRel sz φ L w u cv:=by
     intro r
     induction r with
     | nil =>
      intro cr a u hl hu
      cases cr with
      | nil=>simp only [qfj] at hu; cases hu; exact ⟨_,rfl,.int _ _⟩
      | cons _ _=>have:=hl.len; simp at this
     | cons x r ih =>
      intro cr a u hl hu
      cases cr with
      | nil=>have:=hl.len; simp at this
      | cons c1 cr =>
       have h1:=hl.at_ 0 _ _ rfl rfl
       have hr:LRel sz φ L w r cr:=⟨by simpa using hl.len,fun i a b g1 g2=>hl.at_ (i+1) a b (by simpa using g1) (by simpa using g2)⟩
       cases h1 <;> simp only [qfj] at hu <;> try (cases hu; done)
       rename_i k' b
       split at hu
       ·rename_i hkk
        subst hkk
        cases mx
        ·simp only [a06,if_false] at hu ⊢
         obtain ⟨cv,g1,g2⟩:=ih cr _ u hr hu
         refine ⟨cv,?_,g2⟩
         rw [List.foldlM_cons,Sem.run_bind]
         simpa [Builtin.min2,Result.andThen] using g1
        ·simp only [if_true] at hu ⊢
         obtain ⟨cv,g1,g2⟩:=ih cr _ u hr hu
         refine ⟨cv,?_,g2⟩
         rw [List.foldlM_cons,Sem.run_bind]
         simpa [Builtin.max2,Result.andThen] using g1
       ·cases hu
    have hr:LRel sz φ L w r cr:=⟨by simpa using hl.len,fun i a b g1 g2=>hl.at_ (i+1) a b (by simpa using g1) (by simpa using g2)⟩
    obtain ⟨cv,g1,g2⟩:=key r cr a _ hr hu
    refine ⟨cv,?_,g2,rfl⟩
    cases mx
    ·simpa [Builtin.min_] using g1
    ·simpa [Builtin.max_] using g1
  ·cases hx
 ·cases hx
end
end Go.Proofs.Ytanblnjomhgphaa.X
namespace Go.Proofs.Ytanblnjomhgphaa.X
open Go
section
variable {P:Program}{T:Tab}{sz:TypeId→Nat}{φ φ':Phi}{L:Nat}{W:Nat→Bool}{w w':World}{h h':Heap}{ev:XO→XV}{ρ:Operand→Value}{v:XV}{t:Nat}{ti:TI}{o:Oper}{xo:XOp}

theorem qjl (o:Oper)(s:Sem Value)(hs:execOp ρ o=(do pure (.value (← s)))){cv:Value}(hr:s.run P w = .ok cv w') : Runs P ρ o w cv w':=by
 left
 rw [hs,Sem.run_bind,hr]
 rfl

def Met (P:Program)(sz:TypeId→Nat)(φ:Phi)(L:Nat)(W:Nat→Bool)(h:Heap)(w:World)(ρ:Operand→Value)(o:Oper)(v:XV)(h':Heap) : Prop :=
 ∃ φ' w' cv,Runs P ρ o w cv w'∧Sim sz φ L W h w v h' φ' w' cv

theorem Met.same {s:Sem Value}(R:Rel sz φ L h w)(hs:execOp ρ o=(do pure (.value (← s))))(H:∃ cv,s.run P w = .ok cv w∧VRel sz φ L w v cv∧h'=h) : Met P sz φ L W h w ρ o v h':=by
 obtain ⟨cv,h1,h2,rfl⟩:=H
 exact ⟨φ,w,cv,qjl o s hs h1,Sim.same R h2⟩
theorem Met.made {s:Sem Value}(hs:execOp ρ o=(do pure (.value (← s))))(H:∃ φ' w' cv,s.run P w = .ok cv w'∧Sim sz φ L W h w v h' φ' w' cv) : Met P sz φ L W h w ρ o v h':=by
 obtain ⟨φ',w',cv,h1,h2⟩:=H
 exact ⟨φ',w',cv,qjl o s hs h1,h2⟩

def MetT (P:Program)(sz:TypeId→Nat)(φ:Phi)(L:Nat)(h:Heap)(w:World)(ρ:Operand→Value)(o:Oper)(v:XV)(h':Heap) : Prop :=
 ∃ w' cv,Runs P ρ o w cv w'∧Took sz φ L h w v h' cv w'
theorem MetT.made {s:Sem Value}(hs:execOp ρ o=(do pure (.value (← s))))(H:∃ w' cv,s.run P w = .ok cv w'∧Took sz φ L h w v h' cv w') : MetT P sz φ L h w ρ o v h':=by
 obtain ⟨w',cv,h1,h2⟩:=H
 exact ⟨w',cv,qjl o s hs h1,h2⟩
theorem MetT.met (R:Rel sz φ L h w)(hW:∀ b,W b=true→L≤b)(H:MetT P sz φ L h w ρ o v h') : Met P sz φ L W h w ρ o v h':=by
 obtain ⟨w',cv,h1,h2⟩:=H
 obtain ⟨φ',h3⟩:=h2.sim R hW
 exact ⟨φ',w',cv,h1,h3⟩

theorem qow (HT:∀ t ti,T t=some ti→TOk P T sz t ti)(R:Rel sz φ L h w)(hW:∀ b,W b=true→L≤b)(hev:EvRel sz φ L w ev ρ)(x:Operand)(ho:o.op = .move x)(hc:jk T (.move x)=some xo)(hx:ze W ev h xo=some (v,h')) : Met P sz φ L W h w ρ o v h':=by
 simp only [jk] at hc
 cases hx0:kp x with
 | none=>rw [hx0] at hc; cases hc
 | some a =>
  rw [hx0] at hc
  cases hc
  simp only [ze] at hx
  cases hx
  exact ⟨φ,w,ρ x,.inl (by unfold execOp; rw [ho]; rfl),Sim.same R (hev x a hx0)⟩

theorem q1p (HT:∀ t ti,T t=some ti→TOk P T sz t ti)(R:Rel sz φ L h w)(hW:∀ b,W b=true→L≤b)(hev:EvRel sz φ L w ev ρ)(c:Operand)(a:Operand)(b:Operand)(ho:o.op = .pick c a b)(hc:jk T (.pick c a b)=some xo)(hx:ze W ev h xo=some (v,h')) : Met P sz φ L W h w ρ o v h':=by
 simp only [jk] at hc
 split at hc
 ·rename_i c' a' b' h1 h2 h3
  cases hc
  have hcc:=hev c c' h1
  simp only [ze] at hx
  generalize hec:ev c'=ec at hcc hx
  generalize hrc:ρ c=rc at hcc
  cases hcc with
  | bool t =>
   cases hx
   refine ⟨φ,w,if t then ρ a else ρ b,.inl ?_,Sim.same R ?_⟩
   ·unfold execOp
    rw [ho]
    simp [asBool,hrc]
   ·cases t
    ·exact hev b b' h3
    ·exact hev a a' h2
  | _=>cases hx
 ·cases hc

theorem qmc (HT:∀ t ti,T t=some ti→TOk P T sz t ti)(hev:EvRel sz φ L w ev ρ)(e:TypeId)(ho:o.op = .alloc e)(hc:jk T (.alloc e)=some xo)(hx:ze W ev h xo=some (v,h')) : MetT P sz φ L h w ρ o v h':=by
 simp only [jk] at hc
 split at hc
 ·rename_i ti ht
  cases hc
  exact MetT.made (s:=Instr.alloc e true (.tuple #[])) (by unfold execOp; rw [ho]) (qp2 (HT _ _ ht) hx)
 ·cases hc

theorem qxd (HT:∀ t ti,T t=some ti→TOk P T sz t ti)(R:Rel sz φ L h w)(hW:∀ b,W b=true→L≤b)(hev:EvRel sz φ L w ev ρ)(e:TypeId)(ho:o.op = .alloc e)(hc:jk T (.alloc e)=some xo)(hx:ze W ev h xo=some (v,h')) : Met P sz φ L W h w ρ o v h' :=
 (qmc HT hev e ho hc hx).met R hW

theorem qpu (HT:∀ t ti,T t=some ti→TOk P T sz t ti)(hev:EvRel sz φ L w ev ρ)(e:TypeId)(x:Operand)(ho:o.op = .box e x)(hc:jk T (.box e x)=some xo)(hx:ze W ev h xo=some (v,h')) : MetT P sz φ L h w ρ o v h':=by
 simp only [jk] at hc
 split at hc
 ·rename_i ti a ht ha
  cases hc
  exact MetT.made (s:=Instr.box e (ρ x)) (by unfold execOp; rw [ho]) (q2g (hev x a ha) hx)
 ·cases hc

theorem za4 (HT:∀ t ti,T t=some ti→TOk P T sz t ti)(R:Rel sz φ L h w)(hW:∀ b,W b=true→L≤b)(hev:EvRel sz φ L w ev ρ)(e:TypeId)(x:Operand)(ho:o.op = .box e x)(hc:jk T (.box e x)=some xo)(hx:ze W ev h xo=some (v,h')) : Met P sz φ L W h w ρ o v h' :=
 (qpu HT hev e x ho hc hx).met R hW

theorem qtd (HT:∀ t ti,T t=some ti→TOk P T sz t ti)(R:Rel sz φ L h w)(hW:∀ b,W b=true→L≤b)(hev:EvRel sz φ L w ev ρ)(t:TypeId)(parts:Array (Nat × Operand))(ho:o.op = .build t parts)(hc:jk T (.build t parts)=some xo)(hx:ze W ev h xo=some (v,h')) : Met P sz φ L W h w ρ o v h':=by
 simp only [jk] at hc
 split at hc
 ·rename_i ti ht
  split at hc
  ·rename_i fs hk
   split at hc
   ·rename_i hall
    split at hc
    ·rename_i ps hps
     cases hc
     exact Met.same (s:=Instr.build t (parts.map fun (i,x)=>(i,ρ x))) R (by unfold execOp; rw [ho]) (qvt HT ht hev hk hall hps hx)
    ·cases hc
   ·cases hc
  ·rename_i n e hk
   split at hc
   ·rename_i ei he
    split at hc
    ·rename_i ps hps
     cases hc
     exact Met.same (s:=Instr.build t (parts.map fun (i,x)=>(i,ρ x))) R (by unfold execOp; rw [ho]) (qrk HT ht hev hk he hps hx)
    ·cases hc
   ·cases hc
  ·cases hc
 ·cases hc

theorem qh7 (HT:∀ t ti,T t=some ti→TOk P T sz t ti)(hev:EvRel sz φ L w ev ρ)(t:TypeId)(len:Nat)(parts:Array (Nat × Operand))(ho:o.op = .buildSlice t len parts)(hc:jk T (.buildSlice t len parts)=some xo)(hx:ze W ev h xo=some (v,h')) : MetT P sz φ L h w ρ o v h':=by
 simp only [jk] at hc
 split at hc
 ·rename_i ti ht
  split at hc
  ·rename_i e hk
   split at hc
   ·rename_i ei he
    split at hc
    ·rename_i ps hps
     split at hc
     ·rename_i hcond
      cases hc
      have S:=qpx (P:=P) HT ht hev hk he hcond.1 hcond.2.1 hcond.2.2 hps hx
      exact MetT.made (s:=Instr.buildSlice t len (qmz ρ parts)) (by unfold execOp; rw [ho]; rfl) S
     ·cases hc
    ·cases hc
   ·cases hc
  ·cases hc
 ·cases hc

theorem qmv (HT:∀ t ti,T t=some ti→TOk P T sz t ti)(R:Rel sz φ L h w)(hW:∀ b,W b=true→L≤b)(hev:EvRel sz φ L w ev ρ)(t:TypeId)(len:Nat)(parts:Array (Nat × Operand))(ho:o.op = .buildSlice t len parts)(hc:jk T (.buildSlice t len parts)=some xo)(hx:ze W ev h xo=some (v,h')) : Met P sz φ L W h w ρ o v h' :=
 (qh7 HT hev t len parts ho hc hx).met R hW

theorem q1s (HT:∀ t ti,T t=some ti→TOk P T sz t ti)(R:Rel sz φ L h w)(hW:∀ b,W b=true→L≤b)(hev:EvRel sz φ L w ev ρ)(t:TypeId)(a:Operand)(ho:o.op = .load t a)(hc:jk T (.load t a)=some xo)(hx:ze W ev h xo=some (v,h')) : Met P sz φ L W h w ρ o v h':=by
 simp only [jk] at hc
 split at hc
 ·rename_i ti a' ht ha
  cases hc
  exact Met.same (s:=Instr.loadAt t (ρ a)) R (by unfold execOp; rw [ho]) (qur (HT _ _ ht) R (hev a a' ha) hx)
 ·cases hc

theorem qyo (HT:∀ t ti,T t=some ti→TOk P T sz t ti)(R:Rel sz φ L h w)(hW:∀ b,W b=true→L≤b)(hev:EvRel sz φ L w ev ρ)(t:TypeId)(a:Operand)(x:Operand)(ho:o.op = .store t a x)(hc:jk T (.store t a x)=some xo)(hx:ze W ev h xo=some (v,h')) : Met P sz φ L W h w ρ o v h':=by
 simp only [jk] at hc
 split at hc
 ·rename_i ti a' x' ht ha hxx
  cases hc
  obtain ⟨w',h1,h2⟩:=zb6 (HT _ _ ht) R hW (hev a a' ha) (hev x x' hxx) hx
  refine ⟨φ,w',undef,.inr ⟨?_,rfl⟩,h2⟩
  unfold execOp
  rw [ho]
  simp only [Sem.run_bind,h1,Result.andThen]
  rfl
 ·cases hc

theorem qos (HT:∀ t ti,T t=some ti→TOk P T sz t ti)(R:Rel sz φ L h w)(hW:∀ b,W b=true→L≤b)(hev:EvRel sz φ L w ev ρ)(x:Operand)(ho:o.op = .nilCheck x)(hc:jk T (.nilCheck x)=some xo)(hx:ze W ev h xo=some (v,h')) : Met P sz φ L W h w ρ o v h':=by
 simp only [jk] at hc
 cases hx0:kp x with
 | none=>rw [hx0] at hc; cases hc
 | some a =>
  rw [hx0] at hc
  cases hc
  have hv:=hev x a hx0
  simp only [ze] at hx
  generalize hea:ev a=ea at hv hx
  generalize hrx:ρ x=rx at hv
  cases hv with
  | ptr b o' ad hn hp=>cases hx; exact ⟨φ,w,_,.inl (by unfold execOp; rw [ho]; simp only [hrx]; rfl),Sim.same R (.ptr b o' ad hn hp)⟩
  | ref cs off ad f hs hb hr hv=>cases hx; exact ⟨φ,w,_,.inl (by unfold execOp; rw [ho]; simp only [hrx]; rfl),Sim.same R (.ref cs off ad f hs hb hr hv)⟩
  | fn f cs cvs hl hv=>cases hx; exact ⟨φ,w,_,.inl (by unfold execOp; rw [ho]; simp only [hrx]; rfl),Sim.same R (.fn f cs cvs hl hv)⟩
  | _=>cases hx

theorem qu5 (HT:∀ t ti,T t=some ti→TOk P T sz t ti)(R:Rel sz φ L h w)(hW:∀ b,W b=true→L≤b)(hev:EvRel sz φ L w ev ρ)(op:BinOp)(xt:TypeId)(x:Operand)(y:Operand)(yt:TypeId)(ho:o.op = .binOp op xt x y yt)(hc:jk T (.binOp op xt x y yt)=some xo)(hx:ze W ev h xo=some (v,h')) : Met P sz φ L W h w ρ o v h':=by
 simp only [jk] at hc
 have hs:execOp ρ o=(do pure (.value (← (do eqGuard op xt x y (ρ x) (ρ y); binOp op xt (ρ x) (ρ y))))):=by
  unfold execOp
  rw [ho]
 split at hc
 ·rename_i ti a b ht ha hb
  split at hc
  ·rename_i fs hk
   split at hc
   ·rename_i ks hks
    split at hc
    ·cases hc
     exact Met.same R hs (qqx HT ht hk hks (neq:=false) rfl (hev x a ha) (hev y b hb) hx)
    ·cases hc
     exact Met.same R hs (qqx HT ht hk hks (neq:=true) rfl (hev x a ha) (hev y b hb) hx)
    ·cases hc
   ·cases hc
  ·cases hc
   exact Met.same R hs (qq2 (hev x a ha) (hev y b hb) hx)
  ·cases hc
   exact Met.same R hs (qq2 (hev x a ha) (hev y b hb) hx)
  ·rename_i hk
   split at hc
   ·cases hc
    exact Met.same R hs (qqt HT ht hk (neq:=false) rfl (hev x a ha) (hev y b hb) hx)
   ·cases hc
    exact Met.same R hs (qqt HT ht hk (neq:=true) rfl (hev x a ha) (hev y b hb) hx)
   ·cases hc
  ·cases hc
 ·cases hc

theorem q0o (HT:∀ t ti,T t=some ti→TOk P T sz t ti)(R:Rel sz φ L h w)(hW:∀ b,W b=true→L≤b)(hev:EvRel sz φ L w ev ρ)(op:UnOp)(xt:TypeId)(x:Operand)(ho:o.op = .unOp op xt x)(hc:jk T (.unOp op xt x)=some xo)(hx:ze W ev h xo=some (v,h')) : Met P sz φ L W h w ρ o v h':=by
 simp only [jk] at hc
 cases hx0:kp x with
 | none=>rw [hx0] at hc; cases hc
 | some a =>
  rw [hx0] at hc
  cases hc
  exact Met.same (s:=Op.unary op (ρ x)) R (by unfold execOp; rw [ho]) (zb3 (hev x a hx0) hx)

theorem qqf (HT:∀ t ti,T t=some ti→TOk P T sz t ti)(R:Rel sz φ L h w)(hW:∀ b,W b=true→L≤b)(hev:EvRel sz φ L w ev ρ)(s:TypeId)(d:TypeId)(x:Operand)(ho:o.op = .convert s d x)(hc:jk T (.convert s d x)=some xo)(hx:ze W ev h xo=some (v,h')) : Met P sz φ L W h w ρ o v h':=by
 simp only [jk] at hc
 split at hc
 ·rename_i si di a hs hd ha
  split at hc
  ·rename_i k0 k h1 h2
   cases hc
   exact Met.same (s:=convert s d (ρ x)) R (by unfold execOp; rw [ho]) (zal HT hd hs h1 h2 (hev x a ha) hx)
  ·cases hc
 ·cases hc

theorem qpk (HT:∀ t ti,T t=some ti→TOk P T sz t ti)(R:Rel sz φ L h w)(hW:∀ b,W b=true→L≤b)(hev:EvRel sz φ L w ev ρ)(f:Nat)(first:Array Operand)(caps:Array Operand)(ho:o.op = .makeFunc (.func f) first caps)(hc:jk T (.makeFunc (.func f) first caps)=some xo)(hx:ze W ev h xo=some (v,h')) : Met P sz φ L W h w ρ o v h':=by
 simp only [jk] at hc
 split at hc
 ·rename_i h0
  have hf:first = #[]:=Array.eq_empty_of_size_eq_zero h0
  subst hf
  cases hx0:qd1 caps.toList with
  | none=>rw [hx0] at hc; cases hc
  | some as =>
   rw [hx0] at hc
   cases hc
   exact Met.same (s:=Instr.makeFunc (.func f) #[] (caps.map ρ)) R (by unfold execOp; rw [ho]; simp) (zax hev hx0 hx)
 ·cases hc

theorem qi3 (HT:∀ t ti,T t=some ti→TOk P T sz t ti)(hev:EvRel sz φ L w ev ρ)(t:TypeId)(l:Operand)(c:Operand)(ho:o.op = .makeSlice t l c)(hc:jk T (.makeSlice t l c)=some xo)(hx:ze W ev h xo=some (v,h')) : MetT P sz φ L h w ρ o v h':=by
 simp only [jk] at hc
 split at hc
 ·rename_i ti a b ht ha hb
  split at hc
  ·rename_i e hk
   split at hc
   ·rename_i ei he
    split at hc
    ·rename_i hcond
     cases hc
     exact MetT.made (s:=Instr.makeSlice t (ρ l) (ρ c)) (by unfold execOp; rw [ho]) (q1b HT ht hk he hcond.2 (hev l a ha) (hev c b hb) hx)
    ·cases hc
   ·cases hc
  ·cases hc
 ·cases hc

theorem qn6 (HT:∀ t ti,T t=some ti→TOk P T sz t ti)(R:Rel sz φ L h w)(hW:∀ b,W b=true→L≤b)(hev:EvRel sz φ L w ev ρ)(t:TypeId)(l:Operand)(c:Operand)(ho:o.op = .makeSlice t l c)(hc:jk T (.makeSlice t l c)=some xo)(hx:ze W ev h xo=some (v,h')) : Met P sz φ L W h w ρ o v h' :=
 (qi3 HT hev t l c ho hc hx).met R hW

theorem qv6 (HT:∀ t ti,T t=some ti→TOk P T sz t ti)(R:Rel sz φ L h w)(hW:∀ b,W b=true→L≤b)(hev:EvRel sz φ L w ev ρ)(t:TypeId)(x:Operand)(lo:Option Operand)(hi:Option Operand)(mx:Option Operand)(ho:o.op = .slice t x lo hi mx)(hc:jk T (.slice t x lo hi mx)=some xo)(hx:ze W ev h xo=some (v,h')) : Met P sz φ L W h w ρ o v h':=by
 simp only [jk] at hc
 split at hc
 ·rename_i ti a l e m ht ha hl he hm
  split at hc
  ·rename_i el hk
   split at hc
   ·rename_i ei hei
    cases hc
    exact Met.same (s:=Instr.sliceAt t (ρ x) (lo.map ρ) (hi.map ρ) (mx.map ρ)) R (by unfold execOp; rw [ho]) (q96 R HT ht hev hk hei (hev x a ha) hl he hm hx)
   ·cases hc
  ·cases hc
 ·cases hc

theorem qn8 (HT:∀ t ti,T t=some ti→TOk P T sz t ti)(R:Rel sz φ L h w)(hW:∀ b,W b=true→L≤b)(hev:EvRel sz φ L w ev ρ)(s:TypeId)(x:Operand)(f:Nat)(ho:o.op = .fieldAddr s x f)(hc:jk T (.fieldAddr s x f)=some xo)(hx:ze W ev h xo=some (v,h')) : Met P sz φ L W h w ρ o v h':=by
 simp only [jk] at hc
 split at hc
 ·rename_i ti a ht ha
  split at hc
  ·rename_i fs hk
   split at hc
   ·rename_i off ft hf
    split at hc
    ·rename_i fi hfi
     split at hc
     ·cases hc
     ·rename_i hne
      cases hc
      exact Met.same (s:=Instr.fieldAt s (ρ x) f) R (by unfold execOp; rw [ho]) (zb1 HT ht hk hf hfi hne (hev x a ha) hx)
    ·cases hc
   ·cases hc
  ·cases hc
 ·cases hc

theorem qod (HT:∀ t ti,T t=some ti→TOk P T sz t ti)(R:Rel sz φ L h w)(hW:∀ b,W b=true→L≤b)(hev:EvRel sz φ L w ev ρ)(t:TypeId)(x:Operand)(i:Operand)(ho:o.op = .indexAddr t x i)(hc:jk T (.indexAddr t x i)=some xo)(hx:ze W ev h xo=some (v,h')) : Met P sz φ L W h w ρ o v h':=by
 simp only [jk] at hc
 split at hc
 ·rename_i ti a b ht ha hb
  split at hc
  ·rename_i e hk
   split at hc
   ·rename_i ei he
    cases hc
    exact Met.same (s:=Instr.indexAt t (ρ x) (ρ i)) R (by unfold execOp; rw [ho]) (zbk HT ht hk he (hev x a ha) (hev i b hb) hx)
   ·cases hc
  ·rename_i n e hk
   split at hc
   ·rename_i ei he
    cases hc
    exact Met.same (s:=Instr.indexAt t (ρ x) (ρ i)) R (by unfold execOp; rw [ho]) (zap HT ht hk he (hev x a ha) (hev i b hb) hx)
   ·cases hc
  ·cases hc
 ·cases hc

theorem qs5 (HT:∀ t ti,T t=some ti→TOk P T sz t ti)(R:Rel sz φ L h w)(hW:∀ b,W b=true→L≤b)(hev:EvRel sz φ L w ev ρ)(t:TypeId)(x:Operand)(i:Operand)(ho:o.op = .index t x i)(hc:jk T (.index t x i)=some xo)(hx:ze W ev h xo=some (v,h')) : Met P sz φ L W h w ρ o v h':=by
 simp only [jk] at hc
 split at hc
 ·rename_i ti a b ht ha hb
  split at hc
  ·rename_i hk
   cases hc
   exact Met.same (s:=Instr.index t (ρ x) (ρ i)) R (by unfold execOp; rw [ho]) (q0r HT ht hk (hev x a ha) (hev i b hb) hx)
  ·cases hc
 ·cases hc

theorem qp5 (HT:∀ t ti,T t=some ti→TOk P T sz t ti)(R:Rel sz φ L h w)(hW:∀ b,W b=true→L≤b)(hev:EvRel sz φ L w ev ρ)(x:Operand)(i:Nat)(ho:o.op = .extract x i)(hc:jk T (.extract x i)=some xo)(hx:ze W ev h xo=some (v,h')) : Met P sz φ L W h w ρ o v h':=by
 simp only [jk] at hc
 cases hx0:kp x with
 | none=>rw [hx0] at hc; cases hc
 | some a =>
  rw [hx0] at hc
  cases hc
  exact Met.same (s:=Instr.extract (ρ x) i) R (by unfold execOp; rw [ho]) (zad (hev x a hx0) hx)
end
end Go.Proofs.Ytanblnjomhgphaa.X
namespace Go.Proofs.Ytanblnjomhgphaa.X
open Go
section
variable {P:Program}{T:Tab}{sz:TypeId→Nat}{φ φ':Phi}{L:Nat}{W:Nat→Bool}{w w':World}{h h':Heap}{ev:XO→XV}{ρ:Operand→Value}{v:XV}{t:Nat}{ti:TI}{o:Oper}{xo:XOp}

theorem qqe {c:Call}{b:Builtin}(ho:o.op = .call c)(hb:c.callee = .builtin b) :
  (execOp ρ o).run P w=(builtin b c.argTypes o.type (c.args.map fun | .const _=>true | _=>false) (c.args.map ρ)).run P w:=by
 unfold execOp
 rw [ho]
 simp only [resolve,hb,Sem.run_bind,Sem.run_pure,invoke,Result.andThen]
 rfl

theorem Met.builtin {c:Call}{b:Builtin}(ho:o.op = .call c)(hb:c.callee = .builtin b){s:Sem Value}(hs:∀ consts,Go.builtin b c.argTypes o.type consts (c.args.map ρ)=(do pure (.value (← s))))
  (H:∃ φ' w' cv,s.run P w = .ok cv w'∧Sim sz φ L W h w v h' φ' w' cv) : Met P sz φ L W h w ρ o v h':=by
 obtain ⟨φ',w',cv,h1,h2⟩:=H
 refine ⟨φ',w',cv,.inl ?_,h2⟩
 rw [qqe ho hb,hs,Sem.run_bind,h1]
 rfl
theorem Met.builtinS {c:Call}{b:Builtin}(ho:o.op = .call c)(hb:c.callee = .builtin b)(R:Rel sz φ L h w){s:Sem Value}(hs:∀ consts,Go.builtin b c.argTypes o.type consts (c.args.map ρ)=(do pure (.value (← s))))
  (H:∃ cv,s.run P w = .ok cv w∧VRel sz φ L w v cv∧h'=h) : Met P sz φ L W h w ρ o v h':=by
 obtain ⟨cv,h1,h2,rfl⟩:=H
 exact Met.builtin ho hb hs ⟨φ,w,cv,h1,Sim.same R h2⟩

theorem q1y (ρ:Operand→Value)(x:Operand) : (#[x] : Array Operand).map ρ = #[ρ x]:=by simp
theorem zcu (ρ:Operand→Value)(x y:Operand) : (#[x,y] : Array Operand).map ρ = #[ρ x,ρ y]:=by simp
theorem qrh {α:Type}{a:Array α}{x:α}(h:a.toList=[x]) : a = #[x]:=by
 cases a
 simpa using h
theorem qre {α:Type}{a:Array α}{x y:α}(h:a.toList=[x,y]) : a = #[x,y]:=by
 cases a
 simpa using h

theorem qqb (HT:∀ t ti,T t=some ti→TOk P T sz t ti)(R:Rel sz φ L h w)(hW:∀ b,W b=true→L≤b)(hev:EvRel sz φ L w ev ρ){c:Call}{b:Builtin}(ho:o.op = .call c)(hb:c.callee = .builtin b)(hc:qbh T c=some xo)
  (hx:ze W ev h xo=some (v,h')) : Met P sz φ L W h w ρ o v h':=by
 unfold qbh at hc
 rw [hb] at hc
 dsimp only at hc
 split at hc
 ·rename_i x t ha ht
  have ha:=qrh ha
  have ht:=qrh ht
  split at hc
  ·rename_i ti a hti hax
   split at hc
   ·rename_i e hk
    cases hc
    exact Met.builtinS ho hb R (s:=Builtin.len_ #[t] o.type #[ρ x]) (fun _=>by rw [ha,ht,q1y]; rfl) (za3 HT hti hk (hev x a hax) hx)
   ·rename_i hk
    cases hc
    exact Met.builtinS ho hb R (s:=Builtin.len_ #[t] o.type #[ρ x]) (fun _=>by rw [ha,ht,q1y]; rfl) (q16 HT hti hk (hev x a hax) hx)
   ·cases hc
  ·cases hc
 ·rename_i s x t u ha ht
  have ha:=qre ha
  have ht:=qre ht
  split at hc
  ·rename_i ti ui a b hti hui hax hbx
   split at hc
   ·rename_i e e2 hk hk2
    split at hc
    ·rename_i ei hei
     split at hc
     ·rename_i hcond
      cases hc
      exact Met.builtin ho hb (s:=Builtin.append_ #[t,u] o.type #[ρ s,ρ x]) (fun _=>by rw [ha,ht,zcu]; rfl) (zau R hW HT hti hk hui hk2 hei hcond.1 hcond.2.1 hcond.2.2 (hev s a hax) (hev x b hbx) hx)
     ·cases hc
    ·cases hc
   ·cases hc
  ·cases hc
 ·rename_i d s t u ha ht
  have ha:=qre ha
  have ht:=qre ht
  split at hc
  ·rename_i ti ui a b hti hui hax hbx
   split at hc
   ·rename_i e e2 hk hk2
    split at hc
    ·rename_i ei hei
     cases hc
     exact Met.builtin ho hb (s:=Builtin.copy_ #[t,u] o.type #[ρ d,ρ s]) (fun _=>by rw [ha,ht,zcu]; rfl) (zab R hW HT hti hk hei (hev d a hax) (hev s b hbx) hx)
    ·cases hc
   ·cases hc
  ·cases hc
 ·rename_i x t ha ht
  have ha:=qrh ha
  have ht:=qrh ht
  split at hc
  ·rename_i ti a hti hax
   split at hc
   ·rename_i e hk
    split at hc
    ·rename_i ei hei
     split at hc
     ·rename_i hz
      cases hc
      exact Met.builtin ho hb (s:=Builtin.clear_ #[t] o.type #[ρ x]) (fun _=>by rw [ha,ht,q1y]; rfl) (q95 R hW HT hti hk hei hz (hev x a hax) hx)
     ·cases hc
    ·cases hc
   ·cases hc
  ·cases hc
 ·split at hc
  ·rename_i as has
   split at hc
   ·cases hc
    refine Met.builtinS ho hb R (s:=Builtin.max_ c.argTypes o.type (c.args.map ρ)) (fun _=>rfl) ?_
    have:=qqi (P:=P) hev has (ts:=c.argTypes) (ty:=o.type) hx
    have e:(List.map ρ c.args.toList).toArray=c.args.map ρ:=by rw [←a3j]
    rw [e] at this
    exact this
   ·cases hc
  ·cases hc
 ·split at hc
  ·rename_i as has
   split at hc
   ·cases hc
    refine Met.builtinS ho hb R (s:=Builtin.min_ c.argTypes o.type (c.args.map ρ)) (fun _=>rfl) ?_
    have:=qqi (P:=P) hev has (ts:=c.argTypes) (ty:=o.type) hx
    have e:(List.map ρ c.args.toList).toArray=c.args.map ρ:=by rw [←a3j]
    rw [e] at this
    exact this
   ·cases hc
  ·cases hc
 ·cases hc

theorem qyu (HT:∀ t ti,T t=some ti→TOk P T sz t ti)(hev:EvRel sz φ L w ev ρ)(hc:jk T o.op=some xo)(ht:xo.takes=true)
  (hx:ze W ev h xo=some (v,h')) : MetT P sz φ L h w ρ o v h':=by
 cases ho:o.op with
 | alloc e=>rw [ho] at hc; exact qmc HT hev e ho hc hx
 | box e x=>rw [ho] at hc; exact qpu HT hev e x ho hc hx
 | buildSlice t len parts=>rw [ho] at hc; exact qh7 HT hev t len parts ho hc hx
 | makeSlice t l c=>rw [ho] at hc; exact qi3 HT hev t l c ho hc hx
 | makeFunc fn first caps =>
  exfalso
  rw [ho] at hc
  cases fn with
  | func g =>
   simp only [jk] at hc
   split at hc
   ·simp only [Option.map_eq_some_iff] at hc
    obtain ⟨_,_,rfl⟩:=hc
    simp [XOp.takes] at ht
   ·cases hc
  | _=>simp only [jk] at hc; cases hc
 | _ =>
  exfalso
  rw [ho] at hc
  simp only [jk,qbh] at hc
  (repeat' split at hc) <;> first | (cases hc; done) | (cases hc; simp [XOp.takes] at ht; done) | (simp only [Option.map_eq_some_iff] at hc; obtain ⟨_,_,rfl⟩:=hc; simp [XOp.takes] at ht; done)

theorem q2c (HT:∀ t ti,T t=some ti→TOk P T sz t ti)(R:Rel sz φ L h w)(hW:∀ b,W b=true→L≤b)(hev:EvRel sz φ L w ev ρ)(hc:jk T o.op=some xo)
  (hx:ze W ev h xo=some (v,h')) : Met P sz φ L W h w ρ o v h':=by
 cases ho:o.op with
 | move x=>rw [ho] at hc; exact qow HT R hW hev x ho hc hx
 | assign x =>
  have h1:({ o with op := .move x } : Oper).op = .move x:=rfl
  rw [ho] at hc
  obtain ⟨φ',w',cv,h2,h3⟩:=qow (o:={ o with op := .move x }) HT R hW hev x h1 hc hx
  refine ⟨φ',w',cv,?_,h3⟩
  have e:execOp ρ o=execOp ρ { o with op := .move x }:=by unfold execOp; rw [ho]
  unfold Runs at h2 ⊢
  rw [e]
  exact h2
 | pick c a b=>rw [ho] at hc; exact q1p HT R hW hev c a b ho hc hx
 | alloc e=>rw [ho] at hc; exact qxd HT R hW hev e ho hc hx
 | box e x=>rw [ho] at hc; exact za4 HT R hW hev e x ho hc hx
 | build t parts=>rw [ho] at hc; exact qtd HT R hW hev t parts ho hc hx
 | buildSlice t len parts=>rw [ho] at hc; exact qmv HT R hW hev t len parts ho hc hx
 | load t a=>rw [ho] at hc; exact q1s HT R hW hev t a ho hc hx
 | store t a x=>rw [ho] at hc; exact qyo HT R hW hev t a x ho hc hx
 | nilCheck x=>rw [ho] at hc; exact qos HT R hW hev x ho hc hx
 | binOp op xt x y yt=>rw [ho] at hc; exact qu5 HT R hW hev op xt x y yt ho hc hx
 | unOp op xt x=>rw [ho] at hc; exact q0o HT R hW hev op xt x ho hc hx
 | convert s d x=>rw [ho] at hc; exact qqf HT R hW hev s d x ho hc hx
 | makeFunc fn first caps =>
  rw [ho] at hc
  cases fn with
  | func f=>exact qpk HT R hW hev f first caps ho hc hx
  | _=>simp only [jk] at hc; cases hc
 | makeSlice t l c=>rw [ho] at hc; exact qn6 HT R hW hev t l c ho hc hx
 | slice t x lo hi mx=>rw [ho] at hc; exact qv6 HT R hW hev t x lo hi mx ho hc hx
 | fieldAddr s x f=>rw [ho] at hc; exact qn8 HT R hW hev s x f ho hc hx
 | indexAddr t x i=>rw [ho] at hc; exact qod HT R hW hev t x i ho hc hx
 | index t x i=>rw [ho] at hc; exact qs5 HT R hW hev t x i ho hc hx
 | extract x i=>rw [ho] at hc; exact qp5 HT R hW hev x i ho hc hx
 | call c =>
  rw [ho] at hc
  have hc':qbh T c=some xo:=hc
  cases hb:c.callee with
  | builtin b=>exact qqb HT R hW hev ho hb hc' hx
  | value f =>
   unfold qbh at hc'
   rw [hb] at hc'
   dsimp only at hc'
   split at hc'
   ·cases hc'
    simp only [ze] at hx
    cases hx
   ·cases hc'
  | invoke r m =>
   unfold qbh at hc'
   rw [hb] at hc'
   cases hc'
 | makeInterface a b=>rw [ho] at hc; cases hc; simp [ze] at hx
 | panic a=>rw [ho] at hc; cases hc; simp [ze] at hx
 | _=>rw [ho] at hc; simp only [jk] at hc; cases hc
end
end Go.Proofs.Ytanblnjomhgphaa.X
namespace Go.Proofs.Ytanblnjomhgphaa.X
open Go
section
variable {P:Program}{T:Tab}{sz:TypeId→Nat}{φ φ':Phi}{L L':Nat}{W:Nat→Bool}{w w':World}{h h':Heap}{ev:XO→XV}{ρ:Operand→Value}{v:XV}{t:Nat}{ti:TI}{o:Oper}{xo:XOp}

theorem VRel.shut (hL:∀ cb,Wr φ L' cb→Wr φ L cb){v:XV}{cv:Value}(hv:VRel sz φ L w v cv) : VRel sz φ L' w v cv:=by
 induction hv with
 | undef v=>exact .undef v
 | int k n=>exact .int k n
 | bool b=>exact .bool b
 | str s=>exact .str s
 | nil=>exact .nil
 | list es a c e f hc he ha hr hv ih =>
  refine .list es a c e f hc he (fun h0=>?_) hr (fun i cs j v h1 h2=>ih i cs j v h1 h2)
  obtain ⟨ad,h1,h2,h3,h4⟩:=ha h0
  exact ⟨ad,h1,h2,h3,fun h5=>h4 (hL _ h5)⟩
 | ref cs off ad f hs hb hr hv ih=>exact .ref cs off ad f hs ⟨hb.1,fun h5=>hb.2 (hL _ h5)⟩ hr (fun j v h1=>ih j v h1)
 | row b off len cap a c hl hc ha hn hp=>exact .row b off len cap a c hl hc ha hn hp
 | ptr b o a hn hp=>exact .ptr b o a hn hp
 | nilptr=>exact .nilptr
 | agg cs cvs hl hv ih=>exact .agg cs cvs hl fun i v cv h1 h2=>ih i v cv h1 h2
 | tup cs cvs hl hv ih=>exact .tup cs cvs hl fun i v cv h1 h2=>ih i v cv h1 h2
 | fn f cs cvs hl hv ih=>exact .fn f cs cvs hl fun i v cv h1 h2=>ih i v cv h1 h2
 | nilfn=>exact .nilfn

theorem ql2 (R:Rel sz φ L h w)(cb:Nat) : ¬ Wr φ h.length cb:=by
 rintro ⟨b,δ,h1,h2⟩
 rw [R.new b h1] at h2
 cases h2

theorem Rel.top (R:Rel sz φ L h w) : Rel sz φ h.length h w:=by
 refine ⟨fun b cb δ e=>?_,R.inj,R.dead,R.new⟩
 obtain ⟨k,cc,h1,h2,h3,h4,h5⟩:=R.live b cb δ e
 refine ⟨k,cc,h1,h2,h3,h4,fun i v hv=>?_⟩
 obtain ⟨cv,h6,h7⟩:=h5 i v hv
 exact ⟨cv,h6,h7.shut (fun cb hcb=>absurd hcb (ql2 R cb))⟩

theorem x5 {α β:Type}{f:α→Option β} : ∀ {l:List α} {r:List β},l.mapM f=some r→r.length=l.length∧∀ (i:Nat) x,l[i]? = some x→∃ y,r[i]? = some y∧f x=some y:=by
 intro l
 induction l with
 | nil=>intro r e; simp at e; subst e; exact ⟨rfl,fun i x hx=>by simp at hx⟩
 | cons a l ih =>
  intro r e
  rw [a29] at e
  cases hf:f a with
  | none=>simp [hf] at e
  | some b =>
   cases hl:l.mapM f with
   | none=>simp [hf,hl] at e
   | some r' =>
    simp [hf,hl] at e
    subst e
    obtain ⟨h1,h2⟩:=ih hl
    refine ⟨by simp [h1],fun i x hx=>?_⟩
    cases i with
    | zero=>simp at hx; subst hx; exact ⟨b,rfl,hf⟩
    | succ i=>exact h2 i x (by simpa using hx)

theorem xj {α β:Type}{f:α→Option β}{l:List α}{r:List β}(e:l.mapM f=some r){i:Nat}{y:β}(hy:r[i]? = some y) : ∃ x,l[i]? = some x∧f x=some y:=by
 obtain ⟨h1,h2⟩:=x5 e
 have hi:i<l.length:=by rw [←h1]; exact (r9.1 hy).1
 obtain ⟨y',h3,h4⟩:=h2 i l[i] (s8 hi)
 rw [hy] at h3
 cases h3
 exact ⟨_,s8 hi,h4⟩

theorem q1q (R:Rel sz φ L h w) : ∀ (d:Nat) {v u:XV} {cv:Value},VRel sz φ L w v cv→snap h sz d v=some u→VRel sz φ h.length w u cv:=by
 intro d
 induction d with
 | zero=>intro v u cv _ e; simp only [snap] at e; cases e
 | succ d ih =>
  intro v u cv hv e
  have plain:∀ {x:XV},VRel sz φ L w x cv→VRel sz φ h.length w x cv:=fun hx=>hx.shut (fun cb hcb=>absurd hcb (ql2 R cb))
  cases hv with
  | row b off len cap a c hl hc ha hn hp =>
   simp only [snap] at e
   split at e
   ·rename_i k hk
    split at e
    ·rename_i es hes
     cases e
     obtain ⟨hlen,hget⟩:=x5 hes
     simp only [List.length_range] at hlen
     obtain ⟨cb,δ,cc,k1,k2,k3,k4⟩:=qf4 R hn hk
     have hcell:∀ i cs,es[i]? = some cs→∃ us,kw h b (off+i*sz k.ty) (sz k.ty)=some us∧us.mapM (snap h sz d)=some cs:=by
      intro i cs hi
      obtain ⟨x,hx1,hx2⟩:=xj hes hi
      have hil:i<len:=by rw [←hlen]; exact (r9.1 hi).1
      have:x=i:=by
       rw [a30 hil] at hx1
       cases hx1
       rfl
      subst this
      split at hx2
      ·rename_i us hus
       exact ⟨us,hus,hx2⟩
      ·cases hx2
     rw [←hlen]
     refine .list es a c (sz k.ty) (fun i j=>(cc[δ+(off+i*sz k.ty+j)]?).getD undef) (by omega) (fun i cs hi=>?_) (fun h0=>?_) (fun ad i j e1 hi hj=>?_) (fun i cs j x hi hj=>?_)
     ·obtain ⟨us,h1,h2⟩:=hcell i cs hi
      obtain ⟨_,_,_,_,h3⟩:=ug h1
      rw [(x5 h2).1,h3]
     ·have hca:=(hp cb δ k1).1 (by omega)
      subst hca
      exact ⟨_,rfl,rfl,(a07.1 k2).1,ql2 R _⟩
     ·have hca:=(hp cb δ k1).1 (by omega)
      rw [hca] at e1
      cases e1
      obtain ⟨us,h1,h2⟩:=hcell i _ (s8 hi)
      obtain ⟨k',h3,h4,_⟩:=ug h1
      rw [hk] at h3
      cases h3
      rw [qar]
      have hlt:δ+(off+i*sz k.ty+j)<cc.size:=by omega
      have e2:off+δ+(i*sz k.ty+j)=δ+(off+i*sz k.ty+j):=by omega
      simp [World.cell?,k2,e2,hlt]
     ·obtain ⟨us,h1,h2⟩:=hcell i cs hi
      obtain ⟨k',h3,h4,h5,h6⟩:=ug h1
      rw [hk] at h3
      cases h3
      obtain ⟨y,hy1,hy2⟩:=xj h2 hj
      rw [h5,a2c] at hy1
      split at hy1
      ·rw [a1j] at hy1
       obtain ⟨cu,h7,h8⟩:=k4 _ y hy1
       show VRel sz φ h.length w x ((cc[δ+(off+i*sz k.ty+j)]?).getD undef)
       rw [h7]
       exact ih h8 hy2
      ·cases hy1
    ·cases e; exact .undef _
   ·cases e; exact .undef _
  | agg cs cvs hl hvv =>
   simp only [snap] at e
   split at e
   ·rename_i us hus
    cases e
    refine .agg us cvs (by rw [(x5 hus).1]; exact hl) (fun i x cx h1 h2=>?_)
    obtain ⟨y,h3,h4⟩:=xj hus h1
    exact ih (hvv i y cx h3 h2) h4
   ·cases e
  | undef=>simp only [snap] at e; cases e; exact .undef _
  | int=>simp only [snap] at e; cases e; exact .int _ _
  | bool=>simp only [snap] at e; cases e; exact .bool _
  | str=>simp only [snap] at e; cases e; exact .str _
  | nil=>simp only [snap] at e; cases e; exact .list [] none 0 0 (fun _ _=>undef) (a0d _) (fun i cs h=>by simp at h) (fun h=>by simp at h) (fun ad i j h=>by cases h) (fun i cs j v h=>by simp at h)
  | list es a c el f hcc hel hal hrr hvv=>simp only [snap] at e; cases e; exact plain (.list es a c el f hcc hel hal hrr hvv)
  | ref cs off ad f hs hb hr hvv=>simp only [snap] at e; cases e; exact plain (.ref cs off ad f hs hb hr hvv)
  | ptr b o a hn hp=>simp only [snap] at e; cases e; exact .ptr b o a hn hp
  | nilptr=>simp only [snap] at e; cases e; exact .nilptr
  | tup cs cvs hl hvv=>simp only [snap] at e; cases e; exact plain (.tup cs cvs hl hvv)
  | fn f cs cvs hl hvv=>simp only [snap] at e; cases e; exact plain (.fn f cs cvs hl hvv)
  | nilfn=>simp only [snap] at e; cases e; exact .nilfn

theorem qen {φ1:Phi}{L1:Nat}{w1:World}{c:Nat}{a:Option Addr} : VRel sz φ1 L1 w1 (.list []) (.slice a 0 c) :=
 .list [] a c 0 (fun _ _=>undef) (Nat.zero_le _) (fun i cs h=>by simp at h) (fun h=>by simp at h) (fun ad i j _ h=>by simp at h) (fun i cs j v h=>by simp at h)

theorem q99 {φ2:Phi}{L2 n0:Nat}{keep:Bool}(R:Rel sz φ L h w)(hnew:∀ b cb δ,n0≤b→φ b = .at cb δ→¬ Wr φ2 L2 cb)(hkeep:keep=true→∀ cb,Wr φ2 L2 cb→Wr φ L cb) :
  ∀ (d:Nat) {v u:XV} {cv:Value},VRel sz φ L w v cv→cut n0 h sz keep d v=some u→VRel sz φ2 L2 w u cv:=by
 intro d
 induction d with
 | zero=>intro v u cv _ e; simp only [cut] at e; cases e
 | succ d ih =>
  intro v u cv hv e
  cases hv with
  | row b off len cap a c hl hc ha hn hp =>
   simp only [cut] at e
   split at e
   ·rename_i hb
    split at e
    ·rename_i k hk
     split at e
     ·rename_i es hes
      cases e
      obtain ⟨hlen,hget⟩:=x5 hes
      simp only [List.length_range] at hlen
      obtain ⟨cb,δ,cc,k1,k2,k3,k4⟩:=qf4 R hn hk
      have hcell:∀ i cs,es[i]? = some cs→∃ us,kw h b (off+i*sz k.ty) (sz k.ty)=some us∧us.mapM (cut n0 h sz keep d)=some cs:=by
       intro i cs hi
       obtain ⟨x,hx1,hx2⟩:=xj hes hi
       have hil:i<len:=by rw [←hlen]; exact (r9.1 hi).1
       have:x=i:=by
        rw [a30 hil] at hx1
        cases hx1
        rfl
       subst this
       split at hx2
       ·rename_i us hus
        exact ⟨us,hus,hx2⟩
       ·cases hx2
      rw [←hlen]
      refine .list es a c (sz k.ty) (fun i j=>(cc[δ+(off+i*sz k.ty+j)]?).getD undef) (by omega) (fun i cs hi=>?_) (fun h0=>?_) (fun ad i j e1 hi hj=>?_) (fun i cs j x hi hj=>?_)
      ·obtain ⟨us,h1,h2⟩:=hcell i cs hi
       obtain ⟨_,_,_,_,h3⟩:=ug h1
       rw [(x5 h2).1,h3]
      ·have hca:=(hp cb δ k1).1 (by omega)
       subst hca
       exact ⟨_,rfl,rfl,(a07.1 k2).1,hnew b cb δ hb k1⟩
      ·have hca:=(hp cb δ k1).1 (by omega)
       rw [hca] at e1
       cases e1
       obtain ⟨us,h1,h2⟩:=hcell i _ (s8 hi)
       obtain ⟨k',h3,h4,_⟩:=ug h1
       rw [hk] at h3
       cases h3
       rw [qar]
       have hlt:δ+(off+i*sz k.ty+j)<cc.size:=by omega
       have e2:off+δ+(i*sz k.ty+j)=δ+(off+i*sz k.ty+j):=by omega
       simp [World.cell?,k2,e2,hlt]
      ·obtain ⟨us,h1,h2⟩:=hcell i cs hi
       obtain ⟨k',h3,h4,h5,h6⟩:=ug h1
       rw [hk] at h3
       cases h3
       obtain ⟨y,hy1,hy2⟩:=xj h2 hj
       rw [h5,a2c] at hy1
       split at hy1
       ·rw [a1j] at hy1
        obtain ⟨cu,h7,h8⟩:=k4 _ y hy1
        show VRel sz φ2 L2 w x ((cc[δ+(off+i*sz k.ty+j)]?).getD undef)
        rw [h7]
        exact ih h8 hy2
       ·cases hy1
     ·cases e
    ·cases e
   ·cases e
  | agg cs cvs hl hvv =>
   simp only [cut] at e
   split at e
   ·rename_i us hus
    cases e
    refine .agg us cvs (by rw [(x5 hus).1]; exact hl) (fun i x cx h1 h2=>?_)
    obtain ⟨y,h3,h4⟩:=xj hus h1
    exact ih (hvv i y cx h3 h2) h4
   ·cases e
  | tup cs cvs hl hvv =>
   simp only [cut] at e
   split at e
   ·rename_i us hus
    cases e
    refine .tup us cvs (by rw [(x5 hus).1]; exact hl) (fun i x cx h1 h2=>?_)
    obtain ⟨y,h3,h4⟩:=xj hus h1
    exact ih (hvv i y cx h3 h2) h4
   ·cases e
  | fn f cs cvs hl hvv =>
   simp only [cut] at e
   split at e
   ·rename_i us hus
    cases e
    refine .fn f us cvs (by rw [(x5 hus).1]; exact hl) (fun i x cx h1 h2=>?_)
    obtain ⟨y,h3,h4⟩:=xj hus h1
    exact ih (hvv i y cx h3 h2) h4
   ·cases e
  | list es a c el f hcc hel hal hrr hvv =>
   cases es with
   | nil=>simp only [cut] at e; cases e; exact qen
   | cons e0 es =>
    simp only [cut] at e
    cases keep with
    | false=>simp at e
    | true =>
     simp only [if_true] at e
     split at e
     ·rename_i es' hes
      cases e
      obtain ⟨hlen,hget⟩:=x5 hes
      rw [←hlen]
      refine .list es' a c el f (by rw [hlen]; exact hcc) (fun i cs hi=>?_) (fun h0=>?_) (fun ad i j e1 hi hj=>?_) (fun i cs j x hi hj=>?_)
      ·obtain ⟨cs0,h1,h2⟩:=xj hes hi
       rw [(x5 h2).1]
       exact hel i cs0 h1
      ·obtain ⟨ad,h1,h2,h3,h4⟩:=hal (by simp)
       exact ⟨ad,h1,h2,h3,fun h5=>h4 (hkeep rfl _ h5)⟩
      ·exact hrr ad i j e1 (by rw [←hlen]; exact hi) hj
      ·obtain ⟨cs0,h1,h2⟩:=xj hes hi
       obtain ⟨y,h3,h4⟩:=xj h2 hj
       exact ih (hvv i cs0 j y h1 h3) h4
     ·cases e
  | ref cs off ad f hs hb hr hvv =>
   simp only [cut] at e
   cases keep with
   | false=>simp at e
   | true =>
    simp only [if_true] at e
    split at e
    ·rename_i us hus
     cases e
     refine .ref us off ad f hs ⟨hb.1,fun h5=>hb.2 (hkeep rfl _ h5)⟩ (fun j hj=>hr j (by rw [←(x5 hus).1]; exact hj)) (fun j x h1=>?_)
     obtain ⟨y,h3,h4⟩:=xj hus h1
     exact ih (hvv j y h3) h4
    ·cases e
  | undef=>simp only [cut] at e; cases e; exact .undef _
  | int=>simp only [cut] at e; cases e; exact .int _ _
  | bool=>simp only [cut] at e; cases e; exact .bool _
  | str=>simp only [cut] at e; cases e; exact .str _
  | nil=>simp only [cut] at e; cases e; exact qen
  | ptr b o a hn hp=>simp only [cut] at e; cases e
  | nilptr=>simp only [cut] at e; cases e; exact .nilptr
  | nilfn=>simp only [cut] at e; cases e; exact .nilfn

theorem qjo {φ2:Phi}{L2:Nat}(hn2:∀ b,φ b ≠ .none→φ2 b ≠ .none)(hat:∀ b cb δ,φ2 b = .at cb δ→φ b = .at cb δ){v:XV}{cv:Value}(hf:v.free1=true)(hv:VRel sz φ L w v cv) : VRel sz φ2 L2 w v cv:=by
 cases hv with
 | int=>exact .int _ _
 | bool=>exact .bool _
 | str=>exact .str _
 | nil=>exact .nil
 | nilptr=>exact .nilptr
 | nilfn=>exact .nilfn
 | row b off len cap a c hl hc ha hn hp=>exact .row b off len cap a c hl hc ha (hn2 _ hn) (fun cb δ e=>hp cb δ (hat _ _ _ e))
 | ptr b o a hn hp=>exact .ptr b o a (hn2 _ hn) (fun cb δ e=>hp cb δ (hat _ _ _ e))
 | list es a c el f =>
  cases es with
  | nil=>exact qen
  | cons=>simp [XV.free1] at hf
 | fn f cs cvs hl hv =>
  cases cs with
  | nil=>exact .fn f [] cvs hl (fun i v cv h=>by simp at h)
  | cons=>simp [XV.free1] at hf
 | _=>simp [XV.free1] at hf

theorem qlt {φ2:Phi}{L2:Nat}(hn2:∀ b,φ b ≠ .none→φ2 b ≠ .none)(hat:∀ b cb δ,φ2 b = .at cb δ→φ b = .at cb δ){v:XV}{cv:Value}(hf:v.free2=true)(hv:VRel sz φ L w v cv) : VRel sz φ2 L2 w v cv:=by
 cases v
 case agg vs =>
  cases hv with
  | agg cs cvs hl hvv =>
   simp only [XV.free2,a0x] at hf
   exact .agg vs cvs hl (fun i x cx h1 h2=>qjo hn2 hat (hf x (a0o h1)) (hvv i x cx h1 h2))
 all_goals exact qjo hn2 hat (by simpa [XV.free2] using hf) hv

theorem VRel.free {φ2:Phi}{L2:Nat}(hn2:∀ b,φ b ≠ .none→φ2 b ≠ .none)(hat:∀ b cb δ,φ2 b = .at cb δ→φ b = .at cb δ){v:XV}{cv:Value}(hf:v.free=true)(hv:VRel sz φ L w v cv) : VRel sz φ2 L2 w v cv:=by
 cases v
 case tup vs =>
  cases hv with
  | tup cs cvs hl hvv =>
   simp only [XV.free,a0x] at hf
   exact .tup vs cvs hl (fun i x cx h1 h2=>qlt hn2 hat (hf x (a0o h1)) (hvv i x cx h1 h2))
 all_goals exact qlt hn2 hat (by simpa [XV.free] using hf) hv

theorem qdz {n b:Nat}{h:Heap}(hb:b<n) : (purge n h)[b]? = h[b]? := by
 unfold purge
 rcases a0z b h.length with h1 | h1
 ·rw [a0a (by simp; omega),a2c,if_pos hb]
 ·rw [a0i (by simp; omega),a00 (by simp; omega),a00 h1]
theorem qi8 {n b:Nat}{h:Heap}(hb:n≤b) : (purge n h)[b]? = (h[b]?).map qe9:=by
 unfold purge
 rcases a0z b h.length with h1 | h1
 ·rw [a0i (by simp; omega),a2i,a1j]
  congr 2
  simp
  omega
 ·rw [a0i (by simp; omega),a00 (by simp; omega),a00 h1]
  rfl
theorem qdy {n:Nat}{h:Heap} : (purge n h).length=h.length:=by
 unfold purge
 simp
 omega
theorem qp1 {k:Blk}(h:(qe9 k).live=true) : k.live=true∧k.cells.all XV.free1=true∧qe9 k=k:=by
 unfold qe9 at h ⊢
 split at h
 ·rename_i hc; rw [if_pos hc]; exact ⟨h,hc,rfl⟩
 ·cases h

def CallOk (P:Program)(sz:TypeId→Nat)(C:CallF) : Prop:=∀ W f args h v h',C W f args h=some (v,h')→∀ (φ:Phi) (L:Nat) (w:World) (cargs:Array Value),(∀ b,W b=true→L≤b)→Rel sz φ L h w→LRel sz φ L w args cargs.toList →
 (∃ fn,P.funcs[f]? = some fn∧fn.name ≠ "runtime.NumGoroutine" ∧ fn.body.isSome=true)∧Calls P f cargs w (fun e w'=>∃ cv φ',e = .returned cv∧Sim sz φ L W h w v h' φ' w' cv)

theorem qno (R:Rel sz φ L h w)(hW:∀ b,W b=true→L≤b){W':Nat→Bool}{L':Nat}(hW':∀ b,W' b=true→h.length≤b){cv:Value}(S:Sim sz φ L' W' h w v h' φ' w' cv) :
  Ext L W φ φ w w'∧Rel sz φ L h w'∧(∀ b cb δ,φ b = .at cb δ→φ' b = .at cb δ)∧(∀ b cb δ,h.length≤b→φ' b = .at cb δ→w.heap.size≤cb)∧(∀ b,b<h.length→φ' b=φ b):=by
 have hno:∀ b,W' b=true→∀ cb δ,φ b ≠ .at cb δ:=fun b hb cb δ e=>by rw [R.new b (hW' b hb)] at e; cases e
 have hE:Ext L W φ φ w w':=by
  refine ⟨S.ext.os,S.ext.tape,S.ext.output,S.ext.size,fun _ _ _ e => .inl e,fun _ e=>e,fun _ _ _ e => .inl e,fun cb hcb _=>S.ext.unch cb hcb (fun b δ hb e=>hno b hb _ _ e),S.ext.shape⟩
 have hat:∀ b cb δ,φ b = .at cb δ→φ' b = .at cb δ:=by
  intro b cb δ e
  rcases S.ext.keep b cb δ e with h1 | h1
  ·exact h1
  ·obtain ⟨k,cc,g1,g2,_⟩:=R.live b cb δ e
   have hlt:b<h.length:=(r9.1 g1).1
   have h2:=S.rel.dead b h1
   have h3:=S.hold b hlt (.inr (by cases hb:W' b with | false=>rfl | true=>exact absurd e (hno b hb cb δ)))
   rw [g1] at h3
   simp [z9,h3,g2] at h2
 refine ⟨hE,⟨fun b cb δ e=>?_,R.inj,R.dead,R.new⟩,hat,fun b cb δ hb e=>?_,fun b hb=>?_⟩
 ·obtain ⟨k,cc,g1,g2,g3,g4,g5⟩:=R.live b cb δ e
  refine ⟨k,cc,g1,g2,?_,g4,fun i x hx=>?_⟩
  ·rw [S.ext.unch cb (a07.1 g3).1 (fun b δ hb e=>hno b hb _ _ e)]
   exact g3
  ·obtain ⟨cu,g6,g7⟩:=g5 i x hx
   exact ⟨cu,g6,g7.ext hE hW⟩
 ·rcases S.ext.fresh b cb δ e with h1 | h1 | ⟨b0,δ0,h1,h2⟩
  ·rw [R.new b hb] at h1; cases h1
  ·exact h1
  ·exact absurd h2 (hno b0 h1 cb δ0)
 ·cases hφ:φ b with
  | none =>
   cases hφ':φ' b with
   | none=>rfl
   | _ =>
    rcases S.born b (by rw [hφ']; exact fun e=>by cases e) with h1 | h1
    ·exact absurd hφ h1
    ·omega
  | dead=>exact S.ext.dead b hφ
  | «at» cb δ=>exact hat b cb δ hφ

theorem zcz (R:Rel sz φ L h w){cb:Nat}(h1:Wr φ L cb) : cb<w.heap.size:=by
 obtain ⟨b,δ,_,e⟩:=h1
 obtain ⟨k,cc,_,_,g3,_⟩:=R.live b cb δ e
 exact (a07.1 g3).1

theorem qqo (R:Rel sz φ L h w)(hW:∀ b,W b=true→L≤b){W':Nat→Bool}{L':Nat}(hW':∀ b,W' b=true→h.length≤b){cv:Value}(S:Sim sz φ L' W' h w v h' φ' w' cv){keep:Bool}(hL:keep=true→L'=L){u:XV}
  (hc:cut h.length h' sz keep 9 v=some u) : Sim sz φ L W h w u h φ w' cv:=by
 obtain ⟨hE,hR,hat,hnew,_⟩:=qno R hW hW' S
 refine ⟨hE,hR,q99 S.rel (fun b cb δ hb e hw=>?_) (fun hk cb hw=>?_) 9 S.val hc,fun _ e => .inl e,fun _ _ _=>rfl,a0d _⟩
 ·have h1:=hnew b cb δ hb e
  have h2:=zcz R hw
  omega
 ·obtain ⟨b,δ,h1,h2⟩:=hw
  exact ⟨b,δ,by rw [hL hk]; exact h1,hat b cb δ h2⟩

def qhe (h:Heap)(b:Nat) : Bool :=
 match h[b]? with
 | some k => !(qe9 k).live
 | none=>true
def qgd (φ:Phi)(n:Nat)(h:Heap) : Phi:=fun b=>if n≤b∧qhe h b=true then (match φ b with | .none => .none | _ => .dead) else φ b

theorem quv (R:Rel sz φ L h w)(hW:∀ b,W b=true→L≤b){W':Nat→Bool}{L':Nat}(hW':∀ b,W' b=true→h.length≤b){cv:Value}(S:Sim sz φ L' W' h w v h' φ' w' cv)(hf:v.free=true) :
  ∃ φ2,Sim sz φ L W h w v (purge h.length h') φ2 w' cv:=by
 obtain ⟨hE,hR,hat,hnew,hlow⟩:=qno R hW hW' S
 generalize hφ2:qgd φ' h.length h'=φ2
 have e1:∀ b cb δ,φ2 b = .at cb δ→φ' b = .at cb δ∧(h.length≤b→qhe h' b=false):=by
  intro b cb δ e
  rw [←hφ2] at e
  unfold qgd at e
  split at e
  ·split at e <;> cases e
  ·rename_i hc
   exact ⟨e,fun hb=>by cases hp:qhe h' b with | false=>rfl | true=>exact absurd ⟨hb,hp⟩ hc⟩
 have e2:∀ b,φ' b ≠ .none→φ2 b ≠ .none:=by
  intro b e
  rw [←hφ2]
  unfold qgd
  split
  ·split
   ·rename_i h0; exact absurd h0 e
   ·exact fun e=>by cases e
  ·exact e
 have e3:∀ b,b<h.length→φ2 b=φ b:=by
  intro b hb
  rw [←hlow b hb,← hφ2]
  unfold qgd
  rw [if_neg (by omega)]
 have e4:∀ b,φ' b = .none→φ2 b = .none:=by
  intro b e
  rw [←hφ2]
  unfold qgd
  rw [e]
  split <;> rfl
 have e5:∀ b,h.length≤b→φ2 b = .dead→φ' b = .dead∨qhe h' b=true:=by
  intro b hb e
  rw [←hφ2] at e
  unfold qgd at e
  split at e
  ·rename_i hc; exact .inr hc.2
  ·exact .inl e
 have hE2:Ext L W φ φ2 w w':=by
  refine ⟨hE.os,hE.tape,hE.output,hE.size,fun b cb δ e => .inl ?_,fun b e=>?_,fun b cb δ e=>?_,hE.unch,hE.shape⟩
  ·obtain ⟨k,cc,g1,_⟩:=R.live b cb δ e
   rw [e3 b (r9.1 g1).1]
   exact e
  ·rcases a0z b h.length with hb | hb
   ·rw [e3 b hb]; exact e
   ·rw [R.new b hb] at e; cases e
  ·rcases a0z b h.length with hb | hb
   ·left; rw [←e3 b hb]; exact e
   ·right; left; exact hnew b cb δ hb (e1 b cb δ e).1
 have hlen:=S.grow
 refine ⟨φ2,hE2,⟨fun b cb δ e=>?_,fun b b' cb δ δ' h1 h2=>S.rel.inj b b' cb δ δ' (e1 _ _ _ h1).1 (e1 _ _ _ h2).1,fun b e=>?_,fun b hb=>?_⟩,S.val.free e2 (fun b cb δ e=>(e1 b cb δ e).1) hf,fun b e=>?_,fun b hb e=>?_,by rw [qdy]; exact hlen⟩
 ·rcases a0z b h.length with hb | hb
  ·rw [e3 b hb] at e
   obtain ⟨k,cc,g1,g2,g3,g4,g5⟩:=R.live b cb δ e
   obtain ⟨k',cc',q1,q2,q3,q4,q5⟩:=hR.live b cb δ e
   rw [g1] at q1
   cases q1
   refine ⟨k,cc',?_,g2,q3,q4,fun i x hx=>?_⟩
   ·rw [qdz hb]
    rw [S.hold b hb (.inr (by cases hb':W' b with | false=>rfl | true=>have:=hW' b hb'; omega))]
    exact g1
   ·obtain ⟨cu,g6,g7⟩:=g5 i x hx
    obtain ⟨cu',q6,q7⟩:=q5 i x hx
    have h3:cb<w.heap.size:=(a07.1 g3).1
    have h4:=S.ext.unch cb h3 (fun b δ hb' e=>by rw [R.new b (hW' b hb')] at e; cases e)
    rw [h4,g3] at q3
    cases q3
    exact ⟨cu,g6,g7.ext hE2 hW⟩
  ·obtain ⟨h1,h2⟩:=e1 b cb δ e
   have h2:=h2 hb
   obtain ⟨k,cc,g1,g2,g3,g4,g5⟩:=S.rel.live b cb δ h1
   unfold qhe at h2
   rw [g1] at h2
   obtain ⟨_,h3,h4⟩:=qp1 (k:=k) (by simpa using h2)
   refine ⟨k,cc,by rw [qi8 hb,g1,a0q,h4],g2,g3,g4,fun i x hx=>?_⟩
   obtain ⟨cu,g6,g7⟩:=g5 i x hx
   exact ⟨cu,g6,qjo e2 (fun b cb δ e=>(e1 b cb δ e).1) (a0x.1 h3 x (a0o hx)) g7⟩
 ·rcases a0z b h.length with hb | hb
  ·have hd:φ' b = .dead:=by rw [hlow b hb,← e3 b hb]; exact e
   have:=S.rel.dead b hd
   unfold z9 at this ⊢
   rw [qdz hb]
   exact this
  ·unfold z9
   rw [qi8 hb]
   rcases e5 b hb e with h1 | h1
   ·have:=S.rel.dead b h1
    unfold z9 at this
    cases hk:h'[b]? with
    | none=>rfl
    | some k =>
     rw [hk] at this
     dsimp only at this
     cases hl:k.live with
     | true=>rw [hl] at this; simp at this
     | false =>
      simp only [a0q]
      have:(qe9 k).live=false:=by unfold qe9; split <;> simp [hl]
      simp [this]
   ·unfold qhe at h1
    cases hk:h'[b]? with
    | none=>rfl
    | some k =>
     rw [hk] at h1
     simp at h1
     simp [h1]
 ·exact e4 b (S.rel.new b (by rw [qdy] at hb; exact hb))
 ·rcases S.born b (fun e'=>e (e4 b e')) with h1 | h1
  ·exact .inl h1
  ·exact .inr h1
 ·rw [qdz hb]
  exact S.hold b hb (.inr (by cases hb':W' b with | false=>rfl | true=>have:=hW' b hb'; omega))

theorem qqa {E:Env}{C:CallF}(hsz:E.sz=sz)(HC:CallOk P sz C)(R:Rel sz φ L h w)(hW:∀ b,W b=true→L≤b){f:XV}{cf:Value}(hf:VRel sz φ L w f cf){args:List XV}{cargs:List Value}(ha:LRel sz φ L w args cargs)(hx:qgb E C W f args h=some (v,h')) :
  ∃ fid,∃ caps:Array Value,cf = .func (.func fid) #[] caps∧(∃ fn,P.funcs[fid]? = some fn∧fn.name ≠ "runtime.NumGoroutine" ∧ fn.body.isSome=true) ∧
   Calls P fid (cargs.toArray++caps) w (fun e w'=>∃ cv φ',e = .returned cv∧Sim sz φ L W h w v h' φ' w' cv):=by
 unfold qgb at hx
 cases hf with
 | fn fid caps ccaps hl hv =>
  dsimp only at hx
  refine ⟨fid,ccaps,rfl,?_⟩
  have hcaps:LRel sz φ L w caps ccaps.toList:=⟨by simpa using hl,fun i a b h1 h2=>hv i a b h1 (by simpa using h2)⟩
  subst hsz
  have hargs:∀ {as:List XV},args.mapM (snap h E.sz 9)=some as→LRel E.sz φ h.length w (as++caps) (cargs.toArray++ccaps).toList:=by
   intro as has
   obtain ⟨hlen,hget⟩:=x5 has
   rw [a3z]
   refine LRel.append ⟨by rw [hlen]; exact ha.len,fun i a b h1 h2=>?_⟩ ⟨hcaps.len,fun i a b h1 h2=>(hcaps.at_ i a b h1 h2).shut (fun cb hcb=>absurd hcb (ql2 R cb))⟩
   obtain ⟨x,h3,h4⟩:=xj has h1
   exact q1q R 9 (ha.at_ i x b h3 (by simpa using h2)) h4
  split at hx
  ·-- by readings,told by readings
   split at hx
   ·rename_i as has
    split at hx
    ·rename_i u hu0 hcall
     split at hx
     ·rename_i u' hcut
      cases hx
      obtain ⟨h1,h2⟩:=HC _ _ _ _ _ _ hcall φ h.length w (cargs.toArray++ccaps) (fun b hb=>of_decide_eq_true hb) R.top (hargs has)
      refine ⟨h1,h2.mono ?_⟩
      rintro e w' ⟨cv,φ',rfl,S⟩
      exact ⟨cv,φ,rfl,qqo R hW (fun b hb=>of_decide_eq_true hb) S (fun h=>by cases h) hcut⟩
     ·cases hx
    ·cases hx
   ·cases hx
  ·-- by readings,what is told is new
   split at hx
   ·rename_i as has
    split at hx
    ·rename_i u hu0 hcall
     split at hx
     ·rename_i hfree
      cases hx
      obtain ⟨h1,h2⟩:=HC _ _ _ _ _ _ hcall φ h.length w (cargs.toArray++ccaps) (fun b hb=>of_decide_eq_true hb) R.top (hargs has)
      refine ⟨h1,h2.mono ?_⟩
      rintro e w' ⟨cv,φ',rfl,S⟩
      obtain ⟨φ2,S2⟩:=quv R hW (fun b hb=>of_decide_eq_true hb) S hfree
      exact ⟨cv,φ2,rfl,S2⟩
     ·cases hx
    ·cases hx
   ·cases hx
  ·-- as it stands,told by readings
   split at hx
   ·rename_i u hu0 hcall
    split at hx
    ·rename_i u' hcut
     cases hx
     obtain ⟨h1,h2⟩:=HC _ _ _ _ _ _ hcall φ L w (cargs.toArray++ccaps) (fun b hb=>hW b (by simp at hb; exact hb.1)) R (by rw [a3z]; exact LRel.append (by simpa using ha) hcaps)
     refine ⟨h1,h2.mono ?_⟩
     rintro e w' ⟨cv,φ',rfl,S⟩
     exact ⟨cv,φ,rfl,qqo R hW (fun b hb=>by simp at hb; exact hb.2) S (fun _=>rfl) hcut⟩
    ·cases hx
   ·cases hx
  ·obtain ⟨h1,h2⟩:=HC _ _ _ _ _ _ hx φ L w (cargs.toArray++ccaps) hW R (by rw [a3z]; exact LRel.append (by simpa using ha) hcaps)
   exact ⟨h1,h2⟩
 | _=>cases hx

theorem qp0 {c:Call}{f:Operand}(ho:o.op = .call c)(hb:c.callee = .value f){fid:Nat}{caps:Array Value}(hf:ρ f = .func (.func fid) #[] caps){fn:Func}(h1:P.funcs[fid]? = some fn)(h2:fn.name ≠ "runtime.NumGoroutine")(h3:fn.body.isSome=true)(w:World) :
  (execOp ρ o).run P w = .ok (.enter fid (c.args.map ρ++caps)) w:=by
 unfold execOp
 rw [ho]
 have h3':fn.body.isNone=false:=by cases hbb:fn.body <;> rw [hbb] at h3 <;> simp at h3 ⊢
 simp only [resolve,hb,hf,Deferred.ofValue,Sem.run_bind,Sem.run_pure,invoke,Result.andThen,callFunc,program,Sem.run,h1]
 simp [h2,h3',Sem.run]
end
end Go.Proofs.Ytanblnjomhgphaa.X
