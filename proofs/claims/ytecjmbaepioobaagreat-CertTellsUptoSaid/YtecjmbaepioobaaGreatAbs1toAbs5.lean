import Derived.WalkKit
import Derived.Below
import Derived.RangeFuncSeq
import Derived.Deep.MidRow
import Derived.RangeFuncMany
set_option linter.unusedSimpArgs false
set_option linter.unusedVariables false
namespace Go.Abs
def bindO {α β : Type} (x : Option α) (f : α → Option β) : Option β :=
 match x with
 | some a => f a
 | none => none
def iteO {α : Type} (b : Bool) (x y : Option α) : Option α :=
 match b with
 | true => x
 | false => y
theorem bindO_some {α β : Type} (a : α) (f : α → Option β) : bindO (some a) f = f a := rfl
theorem iteO_true {α : Type} (x y : Option α) : iteO true x y = x := rfl
theorem iteO_false {α : Type} (x y : Option α) : iteO false x y = y := rfl
@[congr] theorem bindO_congr {α β : Type} {x x' : Option α} {f : α → Option β} (h : x = x') : bindO x f = bindO x' f := by rw [h]
@[congr] theorem iteO_congr {α : Type} {b b' : Bool} {x y : Option α} (h : b = b') : iteO b x y = iteO b' x y := by rw [h]
theorem bindO_eq {α β : Type} {x : Option α} {f : α → Option β} {r : β} (h : bindO x f = some r) : ∃ a, x = some a ∧ f a = some r := by
 cases x with
 | none => simp [bindO] at h
 | some a => exact ⟨a, rfl, h⟩
theorem iteO_eq {α : Type} {b : Bool} {x y : Option α} {r : α} (h : iteO b x y = some r) : (b = true ∧ x = some r) ∨ (b = false ∧ y = some r) := by
 cases b <;> simp_all [iteO]
theorem iteO_none {α : Type} {b : Bool} {x : Option α} {r : α} (h : iteO b x none = some r) : b = true ∧ x = some r := by
 cases b <;> simp_all [iteO]
inductive AV where
 | bool (b : Bool)
 | int (k : IntKind) (n : Int)
 | str (s : ByteArray)
 | agg (cs : List AV)
 | tuple (vs : List AV)
 | sl (full : Bool) (sz : Nat) (es : List (List AV))
 | top
 | ptr (id off : Nat)
 | cref (cs : List AV)
 | rs (id ver : Nat)
 | rptr (id ver sz i off : Nat)
 | map (id : Nat)
 | fn (f : Nat) (cap : List AV)
 | nilfn
 | fnc (f : Nat)
 | nilp
 | nilmap
 | nilif
 | yfn (P : Program)
 deriving Inhabited
inductive MKey where
 | i (n : Int)
 | s (b : ByteArray)
 | b (b : Bool)
inductive TK where
 | int (k : IntKind)
 | bool
 | string
 | struct (fs : List (Nat × Nat))
 | array (n e : Nat)
 | slice (e : Nat)
 | map (k e : Nat)
 | other
inductive AObj where
 | var (cs : List AV)
 | row (sz ver : Nat) (es : List (List AV))
 | frz (sz ver : Nat) (es : List (List AV))
 | app (sz ver : Nat) (es : List (List AV))
 | map (kk : TK) (m : MKey → Option AV)
 | dead
 | guest (T : List (List AV × Bool))
abbrev Fr := List AV
abbrev Store := List AObj
def AV.leaf : AV → Bool
 | .bool _ => true
 | .int _ _ => true
 | .str _ => true
 | .agg _ => false
 | .tuple _ => false
 | .sl _ _ _ => true
 | .top => false
 | .ptr _ _ => true
 | .cref _ => true
 | .rs _ _ => true
 | .rptr _ _ _ _ _ => true
 | .map _ => true
 | .fn _ _ => true
 | .nilfn => true
 | .fnc _ => true
 | .nilp => true
 | .nilmap => true
 | .nilif => true
 | .yfn _ => false
def allLeaf : List AV → Bool
 | [] => true
 | c :: cs => c.leaf && allLeaf cs
def cellsOf : AV → Option (List AV)
 | .agg cs => iteO (allLeaf cs) (some cs) none
 | .bool b => some [.bool b]
 | .int k n => some [.int k n]
 | .str s => some [.str s]
 | .sl f sz es => some [.sl f sz es]
 | .ptr id off => some [.ptr id off]
 | .cref cs => some [.cref cs]
 | .rs id ver => some [.rs id ver]
 | .rptr id ver sz i off => some [.rptr id ver sz i off]
 | .map id => some [.map id]
 | .fn f cap => some [.fn f cap]
 | .nilfn => some [.nilfn]
 | .fnc f => some [.fnc f]
 | .nilp => some [.nilp]
 | .nilmap => some [.nilmap]
 | .nilif => some [.nilif]
 | .tuple _ => none
 | .top => none
 | .yfn _ => none
structure TInfo where
 size : Nat
 bytes : Nat
 zero : List AV
 k : TK
def TK.agg : TK → Bool
 | .struct _ => true
 | .array _ _ => true
 | _ => false
structure Env where
 P : Program
 n0 : Nat
 ty : Nat → Option TInfo
 eqt : Nat → Option (List TK)
 tab : Nat → List AV → Store → Option (AV × Store)
 seq : AV → Option (List (List AV))
 ali : Nat → List (Nat × Nat)
def noAli (_ : Nat) : List (Nat × Nat) := []
open Classical in
noncomputable def decYes (p : Prop) : Bool := decide p
theorem decYes_true {p : Prop} (h : p) : decYes p = true := by simp [decYes, h]
theorem decYes_of {p : Prop} (h : decYes p = true) : p := by simpa [decYes] using h
def ofLeaf : Value → AV
 | .bool b => .bool b
 | .int k n => .int k n
 | .string s => .str s
 | .slice none 0 0 => .sl true 0 []
 | .nilFunc => .nilfn
 | .pointer none => .nilp
 | .map none => .nilmap
 | .nilIface => .nilif
 | _ => .top
def ofValue : Value → AV
 | .agg cs => .agg (cs.toList.map ofLeaf)
 | v => ofLeaf v
def evalO (fr : Fr) : Operand → AV
 | .tmp t => fr.getD t .top
 | .const v => ofValue v
 | .global _ => .top
 | .func f => .fnc f
def evalOs (fr : Fr) : List Operand → List AV
 | [] => []
 | o :: os => evalO fr o :: evalOs fr os
def evalPs (fr : Fr) : List (Nat × Operand) → List (Nat × AV)
 | [] => []
 | (i, o) :: os => (i, evalO fr o) :: evalPs fr os
def partK (agg : Bool) (size : Nat) (cs : List AV) (off : Nat) : Option AV :=
 match agg with
 | true => iteO (decide (off + size ≤ cs.length)) (some (.agg ((cs.drop off).take size))) none
 | false => cs[off]?
def partOf (ti : TInfo) (cs : List AV) (off : Nat) : Option AV := partK ti.k.agg ti.size cs off
def putAt (cs : List AV) (off : Nat) (vs : List AV) : Option (List AV) :=
 iteO (decide (off + vs.length ≤ cs.length)) (some (cs.take off ++ (vs ++ cs.drop (off + vs.length)))) none
def objVar : Option AObj → Option (List AV)
 | some (.var cs) => some cs
 | _ => none
def objMap : Option AObj → Option (TK × (MKey → Option AV))
 | some (.map kk m) => some (kk, m)
 | _ => none
def objRow (ver : Nat) : Option AObj → Option (Nat × List (List AV))
 | some (.row sz v es) => iteO (decide (v = ver)) (some (sz, es)) none
 | _ => none
def cur (σ : Store) (id ver : Nat) : Option (Nat × List (List AV)) := objRow ver σ[id]?
def objRowA (ver : Nat) : Option AObj → Option (Nat × List (List AV))
 | some (.row sz v es) => iteO (decide (v = ver)) (some (sz, es)) none
 | some (.app sz v es) => iteO (decide (v = ver)) (some (sz, es)) none
 | _ => none
def curA (σ : Store) (id ver : Nat) : Option (Nat × List (List AV)) := objRowA ver σ[id]?
def reAp (σ : Store) (id ver sz : Nat) (es xs : List (List AV)) : Option AObj → AV × Store
 | some (.app _ _ _) => match xs with
   | [] => (.rs id ver, σ)
   | x :: xs => (.rs id (ver + 1), σ.set id (.app sz (ver + 1) (es ++ (x :: xs))))
 | _ => (.rs id (ver + 1), σ.set id (.row sz (ver + 1) (es ++ xs)))
def objRowR (ver : Nat) : Option AObj → Option (Nat × List (List AV))
 | some (.row sz v es) => iteO (decide (v = ver)) (some (sz, es)) none
 | some (.frz sz v es) => iteO (decide (v = ver)) (some (sz, es)) none
 | some (.app sz v es) => iteO (decide (v = ver)) (some (sz, es)) none
 | _ => none
def curR (σ : Store) (id ver : Nat) : Option (Nat × List (List AV)) := objRowR ver σ[id]?
def objFrz (σ : Store) (id ver : Nat) : Option AObj → Option (AV × Store)
 | some (.row sz v es) => iteO (decide (v = ver)) (some (.sl false sz es, σ.set id (.frz sz v es))) none
 | some (.frz sz v es) => iteO (decide (v = ver)) (some (.sl false sz es, σ)) none
 | some (.app sz v es) => iteO (decide (v = ver)) (some (.sl false sz es, σ.set id (.frz sz v es))) none
 | _ => none
def freezeL (σ : Store) : AV → Option (AV × Store)
 | .rs id ver => objFrz σ id ver σ[id]?
 | .bool b => some (.bool b, σ)
 | .int k n => some (.int k n, σ)
 | .str s => some (.str s, σ)
 | .sl _ sz es => some (.sl false sz es, σ)
 | .cref cs => some (.cref cs, σ)
 | .nilfn => some (.nilfn, σ)
 | .fnc f => some (.fnc f, σ)
 | .nilp => some (.nilp, σ)
 | .nilmap => some (.nilmap, σ)
 | .nilif => some (.nilif, σ)
 | _ => none
def freezeLs (σ : Store) : List AV → Option (List AV × Store)
 | [] => some ([], σ)
 | c :: cs => bindO (freezeL σ c) fun p => bindO (freezeLs p.2 cs) fun q => some (p.1 :: q.1, q.2)
def freeze (σ : Store) : AV → Option (AV × Store)
 | .agg cs => bindO (freezeLs σ cs) fun p => some (.agg p.1, p.2)
 | .rs id ver => freezeL σ (.rs id ver)
 | .bool b => some (.bool b, σ)
 | .int k n => some (.int k n, σ)
 | .str s => some (.str s, σ)
 | .sl _ sz es => some (.sl false sz es, σ)
 | .cref cs => some (.cref cs, σ)
 | .nilfn => some (.nilfn, σ)
 | .fnc f => some (.fnc f, σ)
 | .nilp => some (.nilp, σ)
 | .nilmap => some (.nilmap, σ)
 | .nilif => some (.nilif, σ)
 | _ => none
def freezes (σ : Store) : List AV → Option (List AV × Store)
 | [] => some ([], σ)
 | c :: cs => bindO (freeze σ c) fun p => bindO (freezes p.2 cs) fun q => some (p.1 :: q.1, q.2)
def AV.dataL : AV → Bool
 | .bool _ => true
 | .int _ _ => true
 | .str _ => true
 | .sl _ _ _ => true
 | .cref _ => true
 | .nilfn => true
 | .fnc _ => true
 | .nilp => true
 | .nilmap => true
 | .nilif => true
 | _ => false
def allDataL : List AV → Bool
 | [] => true
 | c :: cs => c.dataL && allDataL cs
def AV.data : AV → Bool
 | .agg cs => allDataL cs
 | .tuple cs => allDataL cs
 | .bool _ => true
 | .int _ _ => true
 | .str _ => true
 | .sl _ _ _ => true
 | .cref _ => true
 | .nilfn => true
 | .fnc _ => true
 | .nilp => true
 | .nilmap => true
 | .nilif => true
 | _ => false
def allData : List AV → Bool
 | [] => true
 | c :: cs => c.data && allData cs
def sealVar (σ : Store) (id off : Nat) : Option AObj → Option (AV × Store)
 | some (.var cs) => iteO (decide (off = 0) && allDataL cs) (some (.cref cs, σ.set id .dead)) none
 | _ => none
def sealL (σ : Store) : AV → Option (AV × Store)
 | .ptr id off => sealVar σ id off σ[id]?
 | v => freezeL σ v
def sealLs (σ : Store) : List AV → Option (List AV × Store)
 | [] => some ([], σ)
 | c :: cs => bindO (sealL σ c) fun p => bindO (sealLs p.2 cs) fun q => some (p.1 :: q.1, q.2)
def sealV (σ : Store) : AV → Option (AV × Store)
 | .fn f cap => bindO (sealLs σ cap) fun p => some (.fn f p.1, p.2)
 | v => freeze σ v
def sealVs (σ : Store) : List AV → Option (List AV × Store)
 | [] => some ([], σ)
 | c :: cs => bindO (sealV σ c) fun p => bindO (sealVs p.2 cs) fun q => some (p.1 :: q.1, q.2)
def bt (s : ByteArray) (i : Int) : Int := ((s.data.toList.getD i.toNat 0).toNat : Int)
def inB (i : Int) (n : Nat) : Bool := decide (0 ≤ i ∧ i < (n : Int))
def inS (l h : Int) (n : Nat) : Bool := decide (0 ≤ l ∧ l ≤ h ∧ h ≤ (n : Int))
def aArith : BinOp → IntKind → Int → Int → Option AV
 | .add, k, x, y => some (.int k (k.wrap (x + y)))
 | .sub, k, x, y => some (.int k (k.wrap (x - y)))
 | .mul, k, x, y => some (.int k (k.wrap (x * y)))
 | .quo, k, x, y => iteO (decide (y = 0)) none (some (.int k (k.wrap (x.tdiv y))))
 | .rem, k, x, y => iteO (decide (y = 0)) none (some (.int k (x.tmod y)))
 | .and, k, x, y => some (.int k (k.wrap (BitVec.ofInt k.bits x &&& BitVec.ofInt k.bits y).toNat))
 | .or, k, x, y => some (.int k (k.wrap (BitVec.ofInt k.bits x ||| BitVec.ofInt k.bits y).toNat))
 | .xor, k, x, y => some (.int k (k.wrap (BitVec.ofInt k.bits x ^^^ BitVec.ofInt k.bits y).toNat))
 | .andNot, k, x, y => some (.int k (k.wrap (BitVec.ofInt k.bits x &&& ~~~ BitVec.ofInt k.bits y).toNat))
 | .shl, k, x, y => iteO (decide (y < 0)) none (some (.int k (k.wrap (x * 2 ^ (min y.toNat k.bits)))))
 | .shr, k, x, y => iteO (decide (y < 0)) none (some (.int k (x.fdiv (2 ^ (min y.toNat k.bits)))))
 | .eql, _, x, y => some (.bool (x == y))
 | .neq, _, x, y => some (.bool (x != y))
 | .lss, _, x, y => some (.bool (decide (x < y)))
 | .leq, _, x, y => some (.bool (decide (x ≤ y)))
 | .gtr, _, x, y => some (.bool (decide (x > y)))
 | .geq, _, x, y => some (.bool (decide (x ≥ y)))
def aStr : BinOp → ByteArray → ByteArray → Option AV
 | .add, x, y => iteO (decide (x.size + y.size ≤ 9223372036854775807)) (some (.str (x ++ y))) none
 | .eql, x, y => some (.bool (x.toList == y.toList))
 | .neq, x, y => some (.bool (!(x.toList == y.toList)))
 | .lss, x, y => some (.bool (Op.bytesLess x.toList y.toList))
 | .leq, x, y => some (.bool (Op.bytesLess x.toList y.toList || x.toList == y.toList))
 | .gtr, x, y => some (.bool (!(Op.bytesLess x.toList y.toList || x.toList == y.toList)))
 | .geq, x, y => some (.bool (!Op.bytesLess x.toList y.toList))
 | _, _, _ => none
def BinOp.shifts : BinOp → Bool
 | .shl => true
 | .shr => true
 | _ => false
def eqCells : List TK → List AV → List AV → Option Bool
 | [], [], [] => some true
 | .int k :: ss, .int k1 a :: xs, .int k2 b :: ys => iteO (decide (k = k1) && decide (k = k2)) (bindO (eqCells ss xs ys) fun r => some ((a == b) && r)) none
 | .string :: ss, .str a :: xs, .str b :: ys => bindO (eqCells ss xs ys) fun r => some ((a.toList == b.toList) && r)
 | .bool :: ss, .bool a :: xs, .bool b :: ys => bindO (eqCells ss xs ys) fun r => some ((a == b) && r)
 | _, _, _ => none
def tkBool : TK → Option Unit
 | .bool => some ()
 | _ => none
def eqResult : BinOp → Bool → Option AV
 | .eql, r => some (.bool r)
 | .neq, r => some (.bool (!r))
 | _, _ => none
def aBin (E : Env) (op : BinOp) (t : Nat) : AV → AV → Option AV
 | .int k a, .int k' b => iteO (BinOp.shifts op || decide (k = k')) (aArith op k a b) none
 | .str a, .str b => aStr op a b
 | .bool a, .bool b => bindO (E.ty t) fun ti => bindO (tkBool ti.k) fun _ => eqResult op (a == b)
 | .agg xs, .agg ys => bindO (E.eqt t) fun ss => bindO (eqCells ss xs ys) fun r => eqResult op r
 | _, _ => none
def aUn : UnOp → AV → Option AV
 | .not, .bool b => some (.bool (!b))
 | .neg, .int k n => some (.int k (k.wrap (0 - n)))
 | _, _ => none
def asI : AV → Option Int
 | .int _ n => some n
 | _ => none
def aLoadV (ti : TInfo) (σ : Store) : AV → Option AV
 | .ptr id off => bindO (objVar σ[id]?) fun cs => partOf ti cs off
 | .cref cs => partOf ti cs 0
 | .rptr id ver sz i off => bindO (curR σ id ver) fun p => iteO (decide (p.1 = sz)) (bindO (p.2[i]?) fun cs => partOf ti cs off) none
 | _ => none
def aLoad (E : Env) (σ : Store) (t : Nat) (a : AV) : Option AV := bindO (E.ty t) fun ti => aLoadV ti σ a
def aStoreV (σ : Store) (size : Nat) (v : AV) : AV → Option Store
 | .ptr id off => bindO (cellsOf v) fun us => iteO (decide (us.length = size)) (bindO (objVar σ[id]?) fun cs => bindO (putAt cs off us) fun cs' => some (σ.set id (.var cs'))) none
 | .rptr id ver sz i off =>
   bindO (freeze σ v) fun q => bindO (cellsOf q.1) fun us => iteO (decide (us.length = size)) (bindO (cur q.2 id ver) fun p => iteO (decide (p.1 = sz))
     (bindO (p.2[i]?) fun cs => bindO (putAt cs off us) fun cs' => some (q.2.set id (.row sz ver (p.2.set i cs')))) none) none
 | _ => none
def aStore (E : Env) (σ : Store) (t : Nat) (a v : AV) : Option Store :=
 bindO (E.ty t) fun ti => aStoreV σ ti.size v a
def tkStruct : TK → Option (List (Nat × Nat))
 | .struct fs => some fs
 | _ => none
def tkSlice : TK → Option Nat
 | .slice e => some e
 | _ => none
def aFieldAt (o : Nat) : AV → Option AV
 | .ptr id off => some (.ptr id (off + o))
 | .cref cs => some (.cref (cs.drop o))
 | .rptr id ver sz i off => some (.rptr id ver sz i (off + o))
 | _ => none
def aFieldAddr (E : Env) (s : Nat) (a : AV) (f : Nat) : Option AV :=
 bindO (E.ty s) fun ti => bindO (tkStruct ti.k) fun fs => bindO (fs[f]?) fun fo => bindO (E.ty fo.1) fun fi =>
 iteO (decide (fi.size = 0)) none (aFieldAt fo.2 a)
def aFieldV (fi : TInfo) (o : Nat) : AV → Option AV
 | .agg cs => partOf fi cs o
 | _ => none
def aField (E : Env) (t : Nat) (x : AV) (f : Nat) : Option AV :=
 bindO (E.ty t) fun ti => bindO (tkStruct ti.k) fun fs => bindO (fs[f]?) fun fo => bindO (E.ty fo.1) fun fi => aFieldV fi fo.2 x
def aAtSlice (σ : Store) (size : Nat) (i : Int) : AV → Option AV
 | .sl _ sz es => iteO (decide (sz = size)) (iteO (inB i es.length) (some (.cref (es.getD i.toNat []))) none) none
 | .rs id ver => bindO (curA σ id ver) fun p => iteO (decide (p.1 = size)) (iteO (inB i p.2.length) (some (.rptr id ver p.1 i.toNat 0)) none) none
 | _ => none
def aAtArray (n size : Nat) (i : Int) : AV → Option AV
 | .ptr id off => iteO (inB i n) (some (.ptr id (off + i.toNat * size))) none
 | _ => none
def aIndexAddrK (E : Env) (σ : Store) (x : AV) (i : Int) : TK → Option AV
 | .slice e => bindO (E.ty e) fun ei => aAtSlice σ ei.size i x
 | .array n e => bindO (E.ty e) fun ei => aAtArray n ei.size i x
 | _ => none
def aIndexAddr (E : Env) (σ : Store) (t : Nat) (x i : AV) : Option AV :=
 bindO (E.ty t) fun ti => bindO (asI i) fun i => aIndexAddrK E σ x i ti.k
def aIndexK (E : Env) (i : Int) : TK → AV → Option AV
 | .string, .str s => iteO (inB i s.size) (some (.int .u8 (bt s i))) none
 | .array n e, .agg cs => bindO (E.ty e) fun ei => iteO (inB i n) (partOf ei cs (i.toNat * ei.size)) none
 | _, _ => none
def aIndex (E : Env) (t : Nat) (x i : AV) : Option AV :=
 bindO (E.ty t) fun ti => bindO (asI i) fun i => aIndexK E i ti.k x
def optI (fr : Fr) : Option Operand → Option (Option Int)
 | none => some none
 | some o => bindO (asI (evalO fr o)) fun i => some (some i)
def aCut (es : List (List AV)) (l h : Int) : List (List AV) := (es.drop l.toNat).take (h - l).toNat
def slOf : AV → Option (Nat × List (List AV))
 | .sl _ sz es => some (sz, es)
 | _ => none
def aSliceK (E : Env) (σ : Store) (lo hi mx : Option Int) : TK → AV → Option (AV × Store)
 | .string, .str s => iteO (mx.isNone && inS (lo.getD 0) (hi.getD s.size) s.size) (some (.str (s.extract (lo.getD 0).toNat (hi.getD s.size).toNat), σ)) none
 | .slice e, .sl full sz es => bindO (E.ty e) fun ei =>
   iteO ((decide (sz = ei.size) || es.isEmpty) && inS (lo.getD 0) (hi.getD es.length) es.length)
     (match mx with
      | some m => iteO (decide (m = hi.getD es.length) && hi.isSome) (some (.sl true sz (aCut es (lo.getD 0) (hi.getD es.length)), σ)) none
      | none => some (.sl (full && hi.isNone) sz (aCut es (lo.getD 0) (hi.getD es.length)), σ)) none
 | .slice e, .rs id ver =>
   match lo, hi, mx with
   | none, some h, none => bindO (E.ty e) fun _ => bindO (cur σ id ver) fun p => iteO (inS 0 h p.2.length) (some (.rs id (ver + 1), σ.set id (.row p.1 (ver + 1) (p.2.take h.toNat)))) none
   | none, some h, some m => bindO (E.ty e) fun ei => bindO (objFrz σ id ver σ[id]?) fun q => bindO (slOf q.1) fun s => iteO (decide (m = h) && ((decide (s.1 = ei.size) || s.2.isEmpty) && inS 0 h s.2.length)) (some (.sl true s.1 (aCut s.2 0 h), q.2)) none
   | some l, none, none => bindO (E.ty e) fun _ => bindO (cur σ id ver) fun p => iteO (inS l p.2.length p.2.length) (some (.top, σ)) none
   | _, _, _ => none
 | _, _ => none
def aSlice (E : Env) (σ : Store) (t : Nat) (x : AV) (lo hi mx : Option Int) : Option (AV × Store) :=
 bindO (E.ty t) fun ti => aSliceK E σ lo hi mx ti.k x
def aPlace (E : Env) : TK → Nat → Option (Nat × Nat)
 | .struct fs, i => bindO (fs[i]?) fun fo => bindO (E.ty fo.1) fun fi => some (fo.2, fi.size)
 | .array _ e, i => bindO (E.ty e) fun ei => some (i * ei.size, ei.size)
 | _, _ => none
def aggOk (E : Env) : TK → Option Unit
 | .struct _ => some ()
 | .array _ e => bindO (E.ty e) fun _ => some ()
 | _ => none
def aBuildCells (E : Env) (k : TK) : List (Nat × AV) → List AV → Option (List AV)
 | [], cs => some cs
 | (i, v) :: ps, cs => bindO (aPlace E k i) fun q => bindO (cellsOf v) fun us => iteO (decide (us.length = q.2)) (bindO (putAt cs q.1 us) (aBuildCells E k ps)) none
def aBuildElems (σ : Store) (sz : Nat) : List (Nat × AV) → List (List AV) → Option (List (List AV) × Store)
 | [], es => some (es, σ)
 | (i, v) :: ps, es => bindO (freeze σ v) fun q => bindO (cellsOf q.1) fun us => iteO (decide (us.length = sz) && decide (i < es.length)) (aBuildElems q.2 sz ps (es.set i us)) none
def toKey : TK → AV → Option MKey
 | .int k, .int k' n => iteO (decide (k = k')) (some (.i n)) none
 | .string, .str s => some (.s s)
 | .bool, .bool b => some (.b b)
 | _, _ => none
def keyEq : MKey → MKey → Bool
 | .i a, .i b => a == b
 | .s a, .s b => a == b
 | .b a, .b b => a == b
 | _, _ => false
def tkSame : TK → TK → Bool
 | .int j, .int k => decide (j = k)
 | .string, .string => true
 | .bool, .bool => true
 | _, _ => false
def ofCellsK : Bool → List AV → Option AV
 | true, cs => some (.agg cs)
 | false, [c] => some c
 | _, _ => none
def mapOf (σ : Store) : AV → Option (TK × (MKey → Option AV))
 | .map id => objMap σ[id]?
 | _ => none
def lookedUp (ok b : Bool) (v : AV) : AV :=
 match ok with
 | true => .tuple [v, .bool b]
 | false => v
def foundOr (ok : Bool) (ei : TInfo) : Option AV → Option AV
 | some v => some (lookedUp ok true v)
 | none => bindO (ofCellsK ei.k.agg ei.zero) fun v => some (lookedUp ok false v)
def tkMap : TK → Option (Nat × Nat)
 | .map k e => some (k, e)
 | _ => none
def aLookup (E : Env) (σ : Store) (t : Nat) (m k : AV) (ok : Bool) : Option AV :=
 bindO (E.ty t) fun ti => bindO (tkMap ti.k) fun ke => bindO (E.ty ke.1) fun ki => bindO (E.ty ke.2) fun ei => bindO (mapOf σ m) fun f => iteO (tkSame f.1 ki.k) (bindO (toKey ki.k k) fun key => foundOr ok ei (f.2 key)) none
def mapPut (f : MKey → Option AV) (key : MKey) (v : AV) : MKey → Option AV :=
 fun k' => match keyEq k' key with
   | true => some v
   | false => f k'
def aMapUpdateV (σ : Store) (kk : TK) (k v : AV) : AV → Option Store
 | .map id => bindO (toKey kk k) fun key => bindO (freeze σ v) fun q => bindO (objMap q.2[id]?) fun f => iteO (tkSame f.1 kk) (some (q.2.set id (.map f.1 (mapPut f.2 key q.1)))) none
 | _ => none
def aMapUpdate (E : Env) (σ : Store) (t : Nat) (m k v : AV) : Option Store :=
 bindO (E.ty t) fun ti => bindO (tkMap ti.k) fun ke => bindO (E.ty ke.1) fun ki => aMapUpdateV σ ki.k k v m
def roomMax : Nat := 140737488355328
def fits (n bytes : Nat) : Bool := decide (n * bytes ≤ roomMax ∧ n ≤ roomMax)
def grown (σ : Store) (size : Nat) (es : List (List AV)) : List (List AV) → Option (AV × Store)
 | [] => some (.sl true size es, σ)
 | x :: xs => some (.rs σ.length 0, σ ++ [.row size 0 (es ++ (x :: xs))])
def aAppendV (σ : Store) (size bytes : Nat) (xs : List (List AV)) : AV → Option (AV × Store)
 | .rs id ver => bindO (curA σ id ver) fun p => iteO (decide (p.1 = size) && fits (p.2.length + xs.length) bytes) (some (reAp σ id ver p.1 p.2 xs σ[id]?)) none
 | .sl true sz es => iteO ((decide (sz = size) || es.isEmpty) && fits (es.length + xs.length) bytes) (grown σ size es xs) none
 | _ => none
def aAppend (E : Env) (σ : Store) (t : Nat) (s x : AV) : Option (AV × Store) :=
 bindO (E.ty t) fun ti => bindO (tkSlice ti.k) fun e => bindO (E.ty e) fun ei => bindO (slOf x) fun q => iteO (decide (q.1 = ei.size)) (aAppendV σ ei.size ei.bytes q.2 s) none
def aLenK (σ : Store) : TK → AV → Option AV
 | .string, .str s => some (.int .i64 s.size)
 | .slice _, .sl _ _ es => some (.int .i64 es.length)
 | .slice _, .rs id ver => bindO (curA σ id ver) fun p => some (.int .i64 p.2.length)
 | _, _ => none
def oneType : List TypeId → Option TypeId
 | [t] => some t
 | _ => none
def aLen (E : Env) (σ : Store) (ts : List TypeId) (x : AV) : Option AV := bindO (oneType ts) fun t => bindO (E.ty t) fun ti => aLenK σ ti.k x
def aConvertK : TK → TK → AV → Option AV
 | .int _, .int k, .int _ n => some (.int k (k.wrap n))
 | .string, .string, .str s => some (.str s)
 | _, _, _ => none
def aConvert (E : Env) (src dst : Nat) (x : AV) : Option AV :=
 bindO (E.ty src) fun si => bindO (E.ty dst) fun di => aConvertK si.k di.k x
def aMinMax (mx : Bool) : AV → AV → Option (AV)
 | .int k a, .int _ b => some (.int k (match mx with | true => max a b | false => min a b))
 | _, _ => none
def keepS (σ : Store) (v : Option AV) : Option (AV × Store) := bindO v fun v => some (v, σ)
def sameTypes : List TypeId → Option TypeId
 | [t, u] => iteO (decide (t = u)) (some t) none
 | _ => none
def aBuiltin (E : Env) (σ : Store) (ts : Array TypeId) : Builtin → List AV → Option (AV × Store)
 | .len, [x] => keepS σ (aLen E σ ts.toList x)
 | .append, [s, x] => bindO (sameTypes ts.toList) fun t => aAppend E σ t s x
 | .min, [x, y] => keepS σ (aMinMax false x y)
 | .max, [x, y] => keepS σ (aMinMax true x y)
 | _, _ => none
def asB : AV → Option Bool
 | .bool b => some b
 | _ => none
def aNilCheck : AV → Option AV
 | .ptr id off => some (.ptr id off)
 | .cref cs => some (.cref cs)
 | .rptr a b c d e => some (.rptr a b c d e)
 | .fn f c => some (.fn f c)
 | .fnc f => some (.fn f [])
 | _ => none
noncomputable def aYield (E : Env) (P : Program) (args : List AV) : Store → Option (AV × Store)
 | .guest (q :: T) :: rest => iteO (decYes (P = E.P ∧ args = q.1) && allData args) (some (.bool q.2, .guest T :: rest)) none
 | _ => none
noncomputable def aCallV (E : Env) (σ : Store) (args : List AV) : AV → Option (AV × Store)
 | .fn f cap => E.tab f (args ++ cap) σ
 | .fnc f => E.tab f args σ
 | .yfn P => aYield E P args σ
 | _ => none
def tupleOf : AV → Option (List AV)
 | .tuple vs => some vs
 | _ => none
def newObj (σ : Store) (o : AObj) (v : AV) : Option (AV × Store) := some (v, σ ++ [o])
def isNilSlice : Operand → Bool
 | .const (.slice none 0 0) => true
 | _ => false
noncomputable def aCallee (E : Env) (fr : Fr) (σ : Store) (args : Array Operand) (ts : Array TypeId) : Callee → Option (AV × Store)
 | .builtin b => aBuiltin E σ ts b (evalOs fr args.toList)
 | .value f => aCallV E σ (evalOs fr args.toList) (evalO fr f)
 | _ => none
def aMakeSlice (E : Env) (fr : Fr) (σ : Store) (t : Nat) (l c : Operand) : Option (AV × Store) :=
 bindO (E.ty t) fun ti => bindO (tkSlice ti.k) fun e => bindO (E.ty e) fun ei => bindO (asI (evalO fr l)) fun l => bindO (asI (evalO fr c)) fun c =>
 iteO (decide (0 ≤ l ∧ l ≤ c ∧ c * ei.bytes ≤ 140737488355328 ∧ c ≤ 9223372036854775807)) (newObj σ (.row ei.size 0 (List.replicate l.toNat ei.zero)) (.rs σ.length 0)) none
def aBuildSlice (E : Env) (fr : Fr) (σ : Store) (t n : Nat) (ps : Array (Nat × Operand)) : Option (AV × Store) :=
 bindO (E.ty t) fun ti => bindO (tkSlice ti.k) fun e => bindO (E.ty e) fun ei =>
 iteO (decide (n * ei.size ≤ 16777216 ∧ ei.size ≠ 0)) (bindO (aBuildElems σ ei.size (evalPs fr ps.toList) (List.replicate n ei.zero)) fun q => some (.sl true ei.size q.1, q.2)) none
def aAssign (E : Env) (fr : Fr) (σ : Store) (t : Nat) (x : Operand) : Option (AV × Store) :=
 match isNilSlice x with
 | true => bindO (E.ty t) fun ti => bindO (tkSlice ti.k) fun e => bindO (E.ty e) fun ei => newObj σ (.row ei.size 0 []) (.rs σ.length 0)
 | false => some (evalO fr x, σ)
def fnFirst : Fn → Array Operand → Option Nat
 | .func f, ⟨[]⟩ => some f
 | _, _ => none
noncomputable def aOp (E : Env) (fr : Fr) (σ : Store) (ty : Nat) : Op → Option (AV × Store)
 | .move x => some (evalO fr x, σ)
 | .assign x => aAssign E fr σ ty x
 | .pick c a b => bindO (asB (evalO fr c)) fun c => iteO c (some (evalO fr a, σ)) (some (evalO fr b, σ))
 | .alloc t => bindO (E.ty t) fun ti => newObj σ (.var ti.zero) (.ptr σ.length 0)
 | .box _ x => bindO (cellsOf (evalO fr x)) fun us => newObj σ (.var us) (.ptr σ.length 0)
 | .build t ps => bindO (E.ty t) fun ti => bindO (aggOk E ti.k) fun _ => bindO (aBuildCells E ti.k (evalPs fr ps.toList) ti.zero) fun cs => some (.agg cs, σ)
 | .buildSlice t n ps => aBuildSlice E fr σ t n ps
 | .load t a => keepS σ (aLoad E σ t (evalO fr a))
 | .store t a x => bindO (aStore E σ t (evalO fr a) (evalO fr x)) fun σ' => some (.top, σ')
 | .nilCheck x => keepS σ (aNilCheck (evalO fr x))
 | .binOp op t x y _ => keepS σ (aBin E op t (evalO fr x) (evalO fr y))
 | .unOp op _ x => keepS σ (aUn op (evalO fr x))
 | .convert s d x => keepS σ (aConvert E s d (evalO fr x))
 | .makeFunc f first cap => bindO (fnFirst f first) fun f => some (.fn f (evalOs fr cap.toList), σ)
 | .makeMap t none => bindO (E.ty t) fun ti => bindO (tkMap ti.k) fun ke => bindO (E.ty ke.1) fun ki => newObj σ (.map ki.k fun _ => none) (.map σ.length)
 | .makeSlice t l c => aMakeSlice E fr σ t l c
 | .slice t x lo hi mx => bindO (optI fr lo) fun lo => bindO (optI fr hi) fun hi => bindO (optI fr mx) fun mx => aSlice E σ t (evalO fr x) lo hi mx
 | .fieldAddr s x f => keepS σ (aFieldAddr E s (evalO fr x) f)
 | .field t x f => keepS σ (aField E t (evalO fr x) f)
 | .indexAddr t x i => keepS σ (aIndexAddr E σ t (evalO fr x) (evalO fr i))
 | .index t x i => keepS σ (aIndex E t (evalO fr x) (evalO fr i))
 | .lookup t m k ok => keepS σ (aLookup E σ t (evalO fr m) (evalO fr k) ok)
 | .mapUpdate t m k v => bindO (aMapUpdate E σ t (evalO fr m) (evalO fr k) (evalO fr v)) fun σ' => some (.top, σ')
 | .extract x i => bindO (tupleOf (evalO fr x)) fun vs => bindO (vs[i]?) fun v => some (v, σ)
 | .call c => aCallee E fr σ c.args c.argTypes c.callee
 | _ => none
inductive AExit where
 | normal
 | exit (id : Nat)
 | ret
structure ARes where
 e : AExit
 fr : Fr
 σ : Store
def setT (fr : Fr) : Option Nat → AV → Fr
 | none, _ => fr
 | some t, v => fr.set t v
def asG (w : Bool) : AV → Option Bool
 | .bool b => some (b == w)
 | .tuple [] => some false
 | _ => none
def wants (ops : Array Oper) (fr : Fr) : Option (Nat × Bool) → Option Bool
 | none => some true
 | some q => bindO ((ops[q.1]?).bind (·.dst)) fun t => asG q.2 (fr.getD t .top)
noncomputable def aOps (E : Env) (ops : Array Oper) : List Oper → Fr → Store → Option ARes
 | [], fr, σ => some ⟨.normal, fr, σ⟩
 | o :: os, fr, σ => bindO (wants ops fr o.guard) fun b =>
   iteO b (bindO (aOp E fr σ o.type o.op) fun p => aOps E ops os (setT fr o.dst p.1) p.2) (aOps E ops os (setT fr o.dst (.tuple [])) σ)
def rowVer (n0 ver id : Nat) : Option AObj → AV
 | some (.row _ v _) => match decide (n0 ≤ id) && decide (v = ver) with
   | true => .rs id 0
   | false => .top
 | some (.app _ v _) => match decide (n0 ≤ id) && decide (v = ver) with
   | true => .rs id 1
   | false => .top
 | _ => .top
def AV.keepL (n0 n : Nat) (σ : Store) : AV → AV
 | .ptr id off => match decide (id < n) with
   | true => .ptr id off
   | false => .top
 | .rs id ver => match decide (id < n) with
   | true => match decide (id < n0) with
     | true => .rs id ver
     | false => rowVer n0 ver id σ[id]?
   | false => .top
 | .map id => match decide (id < n) with
   | true => .map id
   | false => .top
 | .bool b => .bool b
 | .int k i => .int k i
 | .str s => .str s
 | .sl f sz es => .sl f sz es
 | .cref cs => .cref cs
 | .nilfn => .nilfn
 | .fnc f => .fnc f
 | .nilp => .nilp
 | .nilmap => .nilmap
 | .nilif => .nilif
 | .yfn P => match decide (0 < n) with
   | true => .yfn P
   | false => .top
 | _ => .top
def AV.keep (n0 n : Nat) (σ : Store) : AV → AV
 | .agg cs => .agg (cs.map (AV.keepL n0 n σ))
 | .fn f cap => .fn f (cap.map (AV.keepL n0 n σ))
 | .tuple cap => .tuple (cap.map (AV.keepL n0 n σ))
 | v => v.keepL n0 n σ
def AObj.keep (n0 n : Nat) (σ : Store) (id : Nat) : AObj → AObj
 | .var cs => .var (cs.map (AV.keepL n0 n σ))
 | .row sz ver es => match decide (id < n0) with
   | true => .row sz ver es
   | false => .row sz 0 es
 | .app sz ver es => match decide (id < n0) with
   | true => .app sz ver es
   | false => .app sz 1 es
 | .map kk m => .map kk m
 | .guest T => .guest T
 | _ => .dead
def keepFr0 (n0 n : Nat) (σ : Store) (ks : List Nat) : Nat → Fr → Fr
 | _, [] => []
 | i, v :: fr => (match ks.contains i with | true => v.keep n0 n σ | false => .top) :: keepFr0 n0 n σ ks (i + 1) fr
def AV.looseL : AV → AV
 | .sl _ sz es => .sl false sz es
 | v => v
def looseLs : List AV → List AV
 | [] => []
 | c :: cs => c.looseL :: looseLs cs
def AV.loose : AV → AV
 | .sl _ sz es => .sl false sz es
 | .agg cs => .agg (looseLs cs)
 | v => v
def looseFr : List Nat → Fr → Fr
 | [], fr => fr
 | k :: ks, fr => match decide (4096 ≤ k) && decide (k < 1000000) with
   | true => looseFr ks (fr.set (k - 4096) (fr.getD (k - 4096) .top).loose)
   | false => looseFr ks fr
def keepFr (n0 n : Nat) (σ : Store) (ks : List Nat) (i : Nat) (fr : Fr) : Fr := looseFr ks (keepFr0 n0 n σ ks i fr)
def keepObjs (n0 n : Nat) (σ : Store) : Nat → Store → Store
 | _, [] => []
 | id, o :: os => o.keep n0 n σ id :: keepObjs n0 n σ (id + 1) os
def keepSt (n0 n : Nat) (σ : Store) : Store := keepObjs n0 n σ 0 (σ.take n)
def looseObj (id off : Nat) (σ : Store) : Option AObj → Store
 | some (.var cs) => σ.set id (.var (cs.set off (cs.getD off .top).looseL))
 | _ => σ
def looseSt : List Nat → Store → Store
 | [], σ => σ
 | k :: ks, σ => match decide (1000000 ≤ k) with
   | true => looseSt ks (looseObj ((k - 1000000) / 1000) ((k - 1000000) % 1000) σ σ[(k - 1000000) / 1000]?)
   | false => looseSt ks σ
def keepSl (n0 n : Nat) (ks : List Nat) (σ : Store) : Store := looseSt ks (keepSt n0 n σ)
def dropFr (ks : List Nat) : Nat → Fr → Fr
 | _, [] => []
 | i, v :: fr => (match ks.contains i with | true => v | false => .top) :: dropFr ks (i + 1) fr
def thenO (r : ARes) (f : Fr → Store → Option ARes) : Option ARes :=
 match r.e with
 | .normal => f r.fr r.σ
 | .exit _ => some r
 | .ret => some r
def caught (ks : List Nat) (id : Nat) (r : ARes) : Option ARes :=
 match r.e with
 | .normal => some ⟨.normal, dropFr ks 0 r.fr, r.σ⟩
 | .exit j => iteO (decide (j = id)) (some ⟨.normal, dropFr ks 0 r.fr, r.σ⟩) (some r)
 | .ret => some r
def aLoop (n0 : Nat) (body : Fr → Store → Option ARes) (ks : List Nat) (n : Nat) : Nat → Fr → Store → Option ARes
 | 0, _, _ => none
 | N + 1, fr, σ => bindO (body fr σ) fun r => thenO r fun fr' σ' => aLoop n0 body ks n N (keepFr n0 n σ' ks 0 fr') (keepSl n0 n ks σ')
def AV.noRowL : AV → AV
 | .rs _ _ => .top
 | .rptr _ _ _ _ _ => .top
 | .agg _ => .top
 | .tuple _ => .top
 | .fn _ _ => .top
 | v => v
def AV.noRow : AV → AV
 | .agg cs => .agg (cs.map AV.noRowL)
 | .fn f cap => .fn f (cap.map AV.noRowL)
 | .tuple cs => .tuple (cs.map AV.noRowL)
 | v => v.noRowL
def setPs : List Nat → List AV → Fr → Fr
 | p :: ps, v :: vs, fr => setPs ps vs (fr.set p v)
 | _, _, fr => fr
def thenR (r : ARes) (f : Fr → Store → Option (AExit × Store)) : Option (AExit × Store) :=
 match r.e with
 | .normal => f r.fr r.σ
 | .exit _ => none
 | .ret => none
def aRound (n0 : Nat) (fa fb : Fr → Store → Option ARes) (ps : List Nat) (fr : Fr) (m : Nat) (x : List AV) (σ : Store) : Option (AExit × Store) :=
 iteO (decide (x.length = ps.length)) (bindO (fa (setPs ps x fr) σ) fun r => thenR r fun fr' σ' => bindO (fb fr' σ') fun r2 => some (r2.e, keepSt n0 m r2.σ)) none
def contR (q : AExit × Store) (f : Store → Option (AExit × Store)) : Option (AExit × Store) :=
 match q.1 with
 | .normal => f q.2
 | .exit _ => some q
 | .ret => some q
def aRange (round : List AV → Store → Option (AExit × Store)) : List (List AV) → Store → Option (AExit × Store)
 | [], σ => some (.normal, σ)
 | x :: xs, σ => bindO (round x σ) fun q => contR q (aRange round xs)
def todo (round : List AV → Store → Option (AExit × Store)) : List (List AV) → Store → List (List AV × Bool)
 | [], _ => []
 | x :: xs, σ => match round x σ with
   | none => []
   | some q => match q.1 with
     | .normal => (x, true) :: todo round xs q.2
     | .exit _ => [(x, false)]
     | .ret => [(x, false)]
inductive Fix where
 | own (t sz : Nat)
 | ownS (id off sz : Nat)
 | frz (t : Nat)
 | frzS (id off : Nat)
 | app (t sz : Nat)
 | appS (id off sz : Nat)
def apOf (σ : Store) (id ver sz : Nat) (es : List (List AV)) : Option AObj → AV × Store
 | some (.app _ _ _) => (.rs id ver, σ)
 | _ => (.rs id (ver + 1), σ.set id (.app sz (ver + 1) es))
def toApp (σ : Store) (sz : Nat) : AV → Option (AV × Store)
 | .sl true s es => iteO (decide (s = sz) || es.isEmpty) (some (.rs σ.length 1, σ ++ [.app sz 1 es])) none
 | .rs id ver => bindO (curA σ id ver) fun p => iteO (decide (p.1 = sz)) (some (apOf σ id ver sz p.2 σ[id]?)) none
 | _ => none
def nilSl : AV → Option Unit
 | .sl true _ [] => some ()
 | _ => none
def aFix1 (fr : Fr) (σ : Store) : Fix → Option (Fr × Store)
 | .own t sz => bindO (nilSl (fr.getD t .top)) fun _ => some (fr.set t (.rs σ.length 0), σ ++ [.row sz 0 []])
 | .ownS id off sz => bindO (objVar σ[id]?) fun cs => bindO (nilSl (cs.getD off .top)) fun _ => some (fr, σ.set id (.var (cs.set off (.rs σ.length 0))) ++ [.row sz 0 []])
 | .frz t => bindO (freeze σ (fr.getD t .top)) fun p => some (fr.set t p.1, p.2)
 | .frzS id off => bindO (objVar σ[id]?) fun cs => bindO (freezeL σ (cs.getD off .top)) fun p => bindO (objVar p.2[id]?) fun cs2 => some (fr, p.2.set id (.var (cs2.set off p.1)))
 | .app t sz => bindO (toApp σ sz (fr.getD t .top)) fun p => some (fr.set t p.1, p.2)
 | .appS id off sz => bindO (objVar σ[id]?) fun cs => bindO (toApp σ sz (cs.getD off .top)) fun p => bindO (objVar p.2[id]?) fun cs2 => some (fr, p.2.set id (.var (cs2.set off p.1)))
def aFix : List Fix → Fr → Store → Option (Fr × Store)
 | [], fr, σ => some (fr, σ)
 | x :: l, fr, σ => bindO (aFix1 fr σ x) fun p => aFix l p.1 p.2
structure Hint where
 head : List Nat
 behind : List Nat
 fix : List Fix
abbrev Slots := List (Option (List AV))
inductive SlotAct where
 | al (j d t : Nat)
 | st (j d t : Nat) (v : Operand)
 | no
def slotIx (t : Nat) : List Nat → Nat → Option Nat
 | [], _ => none
 | d :: ds, j => match decide (d = t) with
   | true => some j
   | false => slotIx t ds (j + 1)
def actAl (d t : Nat) : Option Nat → SlotAct
 | some j => .al j d t
 | none => .no
def actSt (d t : Nat) (v : Operand) : Option Nat → SlotAct
 | some j => .st j d t v
 | none => .no
def slotAct (D : List Nat) : Option Tmp → Op → SlotAct
 | some d, .alloc t => actAl d t (slotIx d D 0)
 | none, .store t (.tmp d) v => actSt d t v (slotIx d D 0)
 | _, _ => .no
def newIn (sl : Slots) (j : Nat) (z : List AV) : Option (Option (List AV)) → Option Slots
 | some none => some (sl.set j (some z))
 | _ => none
def slotNew (E : Env) (fr : Fr) (sl : Slots) (j d t : Nat) : Option Slots := bindO (E.ty t) fun ti => bindO fr[d]? fun _ => newIn sl j ti.zero sl[j]?
def putIn (sl : Slots) (j sz : Nat) (us : List AV) : Option (Option (List AV)) → Option Slots
 | some (some cs) => iteO (decide (us.length = sz) && decide (us.length = cs.length)) (some (sl.set j (some us))) none
 | _ => none
def slotPut (E : Env) (fr : Fr) (sl : Slots) (j d t : Nat) (v : AV) : Option Slots := bindO (E.ty t) fun ti => bindO (cellsOf v) fun us => bindO fr[d]? fun _ => putIn sl j ti.size us sl[j]?
noncomputable def stepSl (E : Env) (ops : Array Oper) (o : Oper) (fr : Fr) (σ : Store) (sl : Slots) : SlotAct → Option (Fr × Store × Slots)
 | .al j d t => bindO (slotNew E fr sl j d t) fun s => some (fr, σ, s)
 | .st j d t v => bindO (slotPut E fr sl j d t (evalO fr v)) fun s => some (fr, σ, s)
 | .no => bindO (wants ops fr o.guard) fun b => iteO b (bindO (aOp E fr σ o.type o.op) fun p => some (setT fr o.dst p.1, p.2, sl)) (some (setT fr o.dst (.tuple []), σ, sl))
noncomputable def opsSl (E : Env) (ops : Array Oper) (D : List Nat) : List Oper → Fr → Store → Slots → Option (Fr × Store × Slots)
 | [], fr, σ, sl => some (fr, σ, sl)
 | o :: os, fr, σ, sl => bindO (stepSl E ops o fr σ sl (slotAct D o.dst o.op)) fun q => opsSl E ops D os q.1 q.2.1 q.2.2
def slotsAll : Slots → Option Store
 | [] => some []
 | some cs :: r => bindO (slotsAll r) fun s => some (.var cs :: s)
 | none :: _ => none
def clearD : List Nat → Fr → Fr
 | [], fr => fr
 | d :: D, fr => clearD D (fr.set d .top)
def setD : List Nat → Nat → Fr → Fr
 | [], _, fr => fr
 | d :: D, n, fr => setD D (n + 1) (fr.set d (.ptr n 0))
noncomputable def aSlots (E : Env) (ops : Array Oper) (D : List Nat) (fr : Fr) (σ : Store) : Option ARes :=
 bindO (opsSl E ops D ops.toList (clearD D fr) σ (List.replicate D.length none)) fun q => bindO (slotsAll q.2.2) fun os => some ⟨.normal, setD D q.2.1.length q.1, q.2.1 ++ os⟩
def slotsOf : List (Nat × Nat) → List Nat
 | [] => []
 | q :: l => match decide (1000000 ≤ q.2) with
   | true => q.1 :: slotsOf l
   | false => slotsOf l
def pairsOf : List (Nat × Nat) → List (Nat × Nat)
 | [] => []
 | q :: l => match decide (1000000 ≤ q.2) with
   | true => pairsOf l
   | false => q :: pairsOf l
noncomputable def aevRange (E : Env) (fa fb : Fr → Store → Option ARes) (f : Operand) (ps : List Nat) (fr : Fr) (σ : Store) : Option ARes :=
 bindO (E.seq (evalO fr f)) fun xs =>
   bindO (aRange (aRound E.n0 fa fb ps (fr.map AV.noRow) σ.length) xs (keepSt E.n0 σ.length σ)) fun q => some ⟨q.1, fr.map AV.noRow, q.2⟩
def aliV : AV → AV → Bool
 | .ptr i _, .ptr j _ => !(i == j)
 | .cref _, .ptr _ _ => true
 | .rptr .., .ptr _ _ => true
 | _, _ => false
def isRd : AV → Bool
 | .ptr _ _ => true
 | v => v.data
def aliP (q : Nat × Nat) (fr : Fr) : Bool := match decide (q.1 = q.2) with
 | true => isRd (fr.getD q.1 .top)
 | false => aliV (fr.getD q.1 .top) (fr.getD q.2 .top)
def aliF (l : List (Nat × Nat)) (fr : Fr) : Bool := l.all fun q => aliP q fr
def aliB (l : List (Nat × Nat)) (x : Option ARes) : Option ARes := bindO x fun r => iteO (aliF l r.fr) (some r) none
noncomputable def aRegS (E : Env) (l : List (Nat × Nat)) (ops : Array Oper) (fr : Fr) (σ : Store) : List Nat → Option ARes
 | [] => aliB l (aOps E ops ops.toList fr σ)
 | d :: D => aliB (pairsOf l) (aSlots E ops (d :: D) fr σ)
noncomputable def aReg (E : Env) (l : List (Nat × Nat)) (ops : Array Oper) (fr : Fr) (σ : Store) : Bool → Option ARes
 | true => aRegS E l ops fr σ (slotsOf l)
 | false => aliB l (aOps E ops ops.toList fr σ)
noncomputable def aev (E : Env) (H : Nat → Hint) (N : Nat) (c : Nat) : Code → Fr → Store → Option ARes
 | .skip, fr, σ => some ⟨.normal, fr, σ⟩
 | .region id ops d, fr, σ => aReg E (E.ali id) ops fr σ d
 | .seq a b, fr, σ => bindO (aev E H N c a fr σ) fun r => thenO r fun fr' σ' => aev E H N c b fr' σ'
 | .cond x a b, fr, σ => bindO (asB (evalO fr x)) fun t => iteO t (aev E H N c a fr σ) (aev E H N c b fr σ)
 | .block id b, fr, σ => bindO (aev E H N id b fr σ) (caught (H id).behind id)
 | .loop b, fr, σ => bindO (aFix (H c).fix fr σ) fun q => aLoop E.n0 (aev E H N c b) (H c).head q.2.length N (keepFr E.n0 q.2.length q.2 (H c).head 0 q.1) (keepSl E.n0 q.2.length (H c).head q.2)
 | .exit id, fr, σ => some ⟨.exit id, fr, σ⟩
 | .ret, fr, σ => some ⟨.ret, fr, σ⟩
 | .rangeFunc f ps asg body, fr, σ => bindO (aFix (H c).fix fr σ) fun q => aevRange E (aev E H N c asg) (aev E H N c body) f ps.toList q.1 q.2
 | _, _, _ => none
def aResult (E : Env) (fr : Fr) (σ : Store) : ResultVar → Option AV
 | .tmp t => some (fr.getD t .top)
 | .cell a t => aLoad E σ t (fr.getD a .top)
def aResults (E : Env) (fr : Fr) (σ : Store) : List ResultVar → Option (List AV)
 | [] => some []
 | r :: rs => bindO (aResult E fr σ r) fun v => bindO (aResults E fr σ rs) fun vs => some (v :: vs)
def packed : List AV → AV
 | [v] => v
 | vs => .tuple vs
def ended (E : Env) (rs : List ResultVar) (r : ARes) : Option (List AV × Store) :=
 match r.e with
 | .exit _ => none
 | .normal => bindO (aResults E r.fr r.σ rs) fun vs => some (vs, r.σ)
 | .ret => bindO (aResults E r.fr r.σ rs) fun vs => some (vs, r.σ)
noncomputable def aFn (E : Env) (fn : Func) (H : Nat → Hint) (N : Nat) (args : List AV) (σ : Store) : Option (List AV × Store) :=
 bindO fn.body fun c => bindO (aev E H N 0 c (args ++ List.replicate (fn.ntmps - args.length) .top) σ) (ended E fn.results.toList)
noncomputable def aPure (E : Env) (fn : Func) (H : Nat → Hint) (N : Nat) (args : List AV) : Option AV :=
 bindO (aFn E fn H N args []) fun q => bindO (sealVs q.2 q.1) fun p => some (packed p.1)
end Go.Abs
namespace Go.Abs
open Go.RowKit
def wideR (r : Option Nat) : Fence := { Fence.wide with round := r }
structure Guest where
 l : Nat
 P : Program
 rel : List (List AV × Bool) → (Nat → Prop) → (Nat → Nat → Option Value) → World → Prop
 comm : ∀ T F C w, rel T F C w → ∀ b o v, C b o = some v → w.cell? ⟨b, o, none⟩ = some v
 lt : ∀ T F C w, rel T F C w → ∀ k, F k → k < w.heap.size
 step : ∀ T F C C2 A B, rel T F C A → (∀ b o v, C b o = some v → C2 b o = some v) → (∀ b o v, C2 b o = some v → B.cell? ⟨b, o, none⟩ = some v) →
   (∀ b o v, C2 b o = some v → C b o = some v ∨ F b ∨ A.heap.size ≤ b) → (∀ k, k < A.heap.size → ¬ F k → B.heap[k]? = A.heap[k]?) → Below 0 A B → rel T (fun k => F k ∨ (A.heap.size ≤ k ∧ k < B.heap.size)) C2 B
def Guest.dummy (P : Program) : Guest := ⟨0, P, fun _ _ _ _ => False, fun _ _ _ _ h => h.elim, fun _ _ _ _ h => h.elim, fun _ _ _ _ _ _ h => h.elim⟩
structure W0 where
 w : World
 C : Nat → Nat → Option Value
 G : Guest
structure Ghost where
 C : Nat → Nat → Option Value
 blk : Nat → Nat
 hd : Nat → Nat → Option Value
 fixed : Nat → Prop
 w0 : W0
structure Tie (f : Nat → Prop) (a : W0) (f' : Nat → Prop) (a' : W0) : Prop where
 fix : ∀ k, f k → f' k
 same : ∀ k, f k → a'.w.heap[k]? = a.w.heap[k]?
 str : Below 0 a.w a'.w
 low : ∀ b o v, a'.C b o = some v → f b → a.C b o = some v
 G : a'.G = a.G
theorem Tie.refl (f : Nat → Prop) (a : W0) : Tie f a f a := ⟨fun _ h => h, fun _ _ => rfl, Below.refl _ _, fun _ _ _ h _ => h, rfl⟩
theorem Tie.trans {f f' f'' : Nat → Prop} {a a' a'' : W0} (h : Tie f a f' a') (h' : Tie f' a' f'' a'') : Tie f a f'' a'' :=
 ⟨fun k hk => h'.fix k (h.fix k hk), fun k hk => (h'.same k (h.fix k hk)).trans (h.same k hk), h.str.trans h'.str, fun b o v hv hf => h.low b o v (h'.low b o v hv (h.fix b hf)) hf, h'.G.trans h.G⟩
def ElemOk (sz : Nat) (e : List AV) : Prop := e.length = sz ∧ allLeaf e = true
mutual
def Rep (g : Ghost) : AV → Nat → Value → Prop
  | .bool b, _, v => v = .bool b
  | .int k i, _, v => v = .int k i
  | .str s, _, v => v = .string s
  | .agg cs, n, v => ∃ vs : List Value, v = .agg vs.toArray ∧ Reps g cs n vs
  | .tuple cs, n, v => ∃ vs : List Value, v = .tuple vs.toArray ∧ Reps g cs n vs
  | .sl full sz es, _, v => ∃ a cap, v = .slice a es.length cap ∧ es.length ≤ cap ∧ (full = true → cap = es.length) ∧ (es = [] ∨ ∃ b o, a = some ⟨b, o, none⟩ ∧ RepE g es sz b o)
  | .top, _, _ => True
  | .ptr id off, n, v => id < n ∧ v = .pointer (some ⟨g.blk id, off, none⟩)
  | .cref cs, _, v => ∃ b o, v = .pointer (some ⟨b, o, none⟩) ∧ RepC g cs b o
  | .rs id ver, n, v => id < n ∧ g.hd id ver = some v ∧ v.oneCell' = true
  | .rptr id ver sz i off, n, v => id < n ∧ ∃ b o len c, g.hd id ver = some (.slice (some ⟨b, o, none⟩) len c) ∧ v = .pointer (some ⟨b, o + (i * sz + off), none⟩)
  | .map id, n, v => id < n ∧ v = .map (some (g.blk id))
  | .fn f cap, n, v => ∃ vs : List Value, v = .func (.func f) #[] vs.toArray ∧ Reps g cap n vs
  | .nilfn, _, v => v = .nilFunc
  | .fnc f, _, v => v = .func (.func f) #[] #[]
  | .nilp, _, v => v = .pointer none
  | .nilmap, _, v => v = .map none
  | .nilif, _, v => v = .nilIface
  | .yfn P, n, v => 0 < n ∧ g.w0.G.P = P ∧ v = .func (.yield g.w0.G.l) #[] #[]
def Reps (g : Ghost) : List AV → Nat → List Value → Prop
  | [], _, vs => vs = []
  | c :: cs, n, vs => ∃ v vs', vs = v :: vs' ∧ Rep g c n v ∧ Reps g cs n vs'
def RepC (g : Ghost) : List AV → Nat → Nat → Prop
  | [], _, _ => True
  | c :: cs, b, o => (∃ v, g.C b o = some v ∧ Rep g c 0 v) ∧ RepC g cs b (o + 1)
def RepE (g : Ghost) : List (List AV) → Nat → Nat → Nat → Prop
  | [], _, _, _ => True
  | e :: es, sz, b, o => RepC g e b o ∧ ElemOk sz e ∧ RepE g es sz b (o + sz)
end
structure Ext (g g' : Ghost) (n : Nat) : Prop where
 C : ∀ b o v, g.C b o = some v → g'.C b o = some v
 blk : ∀ id, id < n → g'.blk id = g.blk id
 hd : ∀ id, id < n → ∀ ver v, g.hd id ver = some v → g'.hd id ver = some v
 tie : Tie g.fixed g.w0 g'.fixed g'.w0
theorem Ext.refl (g : Ghost) (n : Nat) : Ext g g n := ⟨fun _ _ _ h => h, fun _ _ => rfl, fun _ _ _ _ h => h, Tie.refl _ _⟩
theorem Ext.trans {g g' g'' : Ghost} {n n' : Nat} (h : Ext g g' n) (h' : Ext g' g'' n') (hn : n ≤ n') : Ext g g'' n :=
 ⟨fun b o v hv => h'.C b o v (h.C b o v hv), fun id hi => (h'.blk id (Nat.lt_of_lt_of_le hi hn)).trans (h.blk id hi),
  fun id hi ver v hv => h'.hd id (Nat.lt_of_lt_of_le hi hn) ver v (h.hd id hi ver v hv), h.tie.trans h'.tie⟩
theorem Ext.le {g g' : Ghost} {n n' : Nat} (h : Ext g g' n) (hn : n' ≤ n) : Ext g g' n' :=
 ⟨h.C, fun id hi => h.blk id (by omega), fun id hi => h.hd id (by omega), h.tie⟩
structure Up (g g' : Ghost) (n : Nat) : Prop where
 C : ∀ b o v, g.C b o = some v → g'.C b o = some v
 blk : ∀ id, id < n → g'.blk id = g.blk id
 hd : ∀ id, id < n → ∀ ver v, g.hd id ver = some v → g'.hd id ver = some v
 G : g'.w0.G = g.w0.G
theorem Ext.up {g g' : Ghost} {n : Nat} (h : Ext g g' n) : Up g g' n := ⟨h.C, h.blk, h.hd, h.tie.G⟩
mutual
theorem Rep.up {g g' : Ghost} {m : Nat} (h : Up g g' m) : ∀ (x : AV) (n n' : Nat) (v : Value), n ≤ m → n ≤ n' → Rep g x n v → Rep g' x n' v
  | .bool _, _, _, _, _, _, hr => hr
  | .int _ _, _, _, _, _, _, hr => hr
  | .str _, _, _, _, _, _, hr => hr
  | .agg cs, n, n', _, hm, hn, ⟨vs, e, hr⟩ => ⟨vs, e, Reps.up h cs n n' vs hm hn hr⟩
  | .tuple cs, n, n', _, hm, hn, ⟨vs, e, hr⟩ => ⟨vs, e, Reps.up h cs n n' vs hm hn hr⟩
  | .sl _ sz es, _, _, _, _, _, ⟨a, cap, e, h1, h2, h3⟩ => ⟨a, cap, e, h1, h2, h3.imp id fun ⟨b, o, ea, hr⟩ => ⟨b, o, ea, RepE.up h es sz b o hr⟩⟩
  | .top, _, _, _, _, _, _ => trivial
  | .ptr id _, _, _, _, hm, hn, ⟨h1, e⟩ => ⟨Nat.lt_of_lt_of_le h1 hn, by rw [h.blk id (by omega)]; exact e⟩
  | .cref cs, _, _, _, _, _, ⟨b, o, e, hr⟩ => ⟨b, o, e, RepC.up h cs b o hr⟩
  | .rs id ver, _, _, _, hm, hn, ⟨h1, e, e1⟩ => ⟨Nat.lt_of_lt_of_le h1 hn, h.hd id (by omega) ver _ e, e1⟩
  | .rptr id ver _ _ _, _, _, _, hm, hn, ⟨h1, b, o, len, c, e, e'⟩ => ⟨Nat.lt_of_lt_of_le h1 hn, b, o, len, c, h.hd id (by omega) ver _ e, e'⟩
  | .map id, _, _, _, hm, hn, ⟨h1, e⟩ => ⟨Nat.lt_of_lt_of_le h1 hn, by rw [h.blk id (by omega)]; exact e⟩
  | .fn _ cap, n, n', _, hm, hn, ⟨vs, e, hr⟩ => ⟨vs, e, Reps.up h cap n n' vs hm hn hr⟩
  | .nilfn, _, _, _, _, _, hr => hr
  | .fnc _, _, _, _, _, _, hr => hr
  | .nilp, _, _, _, _, _, hr => hr
  | .nilmap, _, _, _, _, _, hr => hr
  | .nilif, _, _, _, _, _, hr => hr
  | .yfn P, n, n', v, hm, hn, hr => ⟨Nat.lt_of_lt_of_le hr.1 hn, by rw [h.G]; exact hr.2⟩
theorem Reps.up {g g' : Ghost} {m : Nat} (h : Up g g' m) : ∀ (cs : List AV) (n n' : Nat) (vs : List Value), n ≤ m → n ≤ n' → Reps g cs n vs → Reps g' cs n' vs
  | [], _, _, _, _, _, hr => hr
  | c :: cs, n, n', _, hm, hn, ⟨v, vs', e, h1, h2⟩ => ⟨v, vs', e, Rep.up h c n n' v hm hn h1, Reps.up h cs n n' vs' hm hn h2⟩
theorem RepC.up {g g' : Ghost} {m : Nat} (h : Up g g' m) : ∀ (cs : List AV) (b o : Nat), RepC g cs b o → RepC g' cs b o
  | [], _, _, _ => trivial
  | c :: cs, b, o, ⟨⟨v, e, h1⟩, h2⟩ => ⟨⟨v, h.C b o v e, Rep.up h c 0 0 v (Nat.zero_le _) (Nat.le_refl _) h1⟩, RepC.up h cs b (o + 1) h2⟩
theorem RepE.up {g g' : Ghost} {m : Nat} (h : Up g g' m) : ∀ (es : List (List AV)) (sz b o : Nat), RepE g es sz b o → RepE g' es sz b o
  | [], _, _, _, _ => trivial
  | e :: es, sz, b, o, ⟨h1, h2, h3⟩ => ⟨RepC.up h e b o h1, h2, RepE.up h es sz b (o + sz) h3⟩
end
theorem Rep.mono {g g' : Ghost} {m : Nat} (h : Ext g g' m) (x : AV) (n n' : Nat) (v : Value) (hm : n ≤ m) (hn : n ≤ n') (hr : Rep g x n v) : Rep g' x n' v := Rep.up h.up x n n' v hm hn hr
theorem Reps.mono {g g' : Ghost} {m : Nat} (h : Ext g g' m) (cs : List AV) (n n' : Nat) (vs : List Value) (hm : n ≤ m) (hn : n ≤ n') (hr : Reps g cs n vs) : Reps g' cs n' vs := Reps.up h.up cs n n' vs hm hn hr
theorem RepC.mono {g g' : Ghost} {m : Nat} (h : Ext g g' m) (cs : List AV) (b o : Nat) (hr : RepC g cs b o) : RepC g' cs b o := RepC.up h.up cs b o hr
theorem RepE.mono {g g' : Ghost} {m : Nat} (h : Ext g g' m) (es : List (List AV)) (sz b o : Nat) (hr : RepE g es sz b o) : RepE g' es sz b o := RepE.up h.up es sz b o hr
theorem Reps.length {g : Ghost} {n : Nat} : ∀ {cs : List AV} {vs : List Value}, Reps g cs n vs → vs.length = cs.length
 | [], _, h => by simp [Reps] at h; simp [h]
 | c :: cs, _, ⟨v, vs', e, _, h⟩ => by rw [e, List.length_cons, List.length_cons, Reps.length h]
theorem Reps.get {g : Ghost} {n : Nat} : ∀ {cs : List AV} {vs : List Value} {i : Nat} {c : AV}, Reps g cs n vs → cs[i]? = some c → ∃ v, vs[i]? = some v ∧ Rep g c n v
 | [], _, _, _, _, h => by simp at h
 | c :: cs, _, 0, _, ⟨v, vs', e, h1, _⟩, h => by
   simp at h; subst h; subst e; exact ⟨v, rfl, h1⟩
 | c :: cs, _, i + 1, _, ⟨v, vs', e, _, h2⟩, h => by
   subst e
   obtain ⟨v', e', hr⟩ := Reps.get h2 (by simpa using h)
   exact ⟨v', by simpa using e', hr⟩
theorem Reps.append {g : Ghost} {n : Nat} : ∀ {cs ds : List AV} {vs us : List Value}, Reps g cs n vs → Reps g ds n us → Reps g (cs ++ ds) n (vs ++ us)
 | [], _, _, _, h, h' => by simp [Reps] at h; subst h; simpa using h'
 | c :: cs, _, _, _, ⟨v, vs', e, h1, h2⟩, h' => by
   subst e; exact ⟨v, vs' ++ _, rfl, h1, Reps.append h2 h'⟩
theorem Reps.take {g : Ghost} {n : Nat} : ∀ {cs : List AV} {vs : List Value} (k : Nat), Reps g cs n vs → Reps g (cs.take k) n (vs.take k)
 | [], _, k, h => by simp [Reps] at h; subst h; simp [Reps]
 | c :: cs, _, 0, _ => by simp [Reps]
 | c :: cs, _, k + 1, ⟨v, vs', e, h1, h2⟩ => by subst e; exact ⟨v, vs'.take k, by simp, h1, Reps.take k h2⟩
theorem Reps.drop {g : Ghost} {n : Nat} : ∀ {cs : List AV} {vs : List Value} (k : Nat), Reps g cs n vs → Reps g (cs.drop k) n (vs.drop k)
 | [], _, k, h => by simp [Reps] at h; subst h; simp [Reps]
 | c :: cs, _, 0, h => by simpa using h
 | c :: cs, _, k + 1, ⟨v, vs', e, h1, h2⟩ => by subst e; simpa using Reps.drop k h2
theorem RepC.get {g : Ghost} : ∀ {cs : List AV} {b o i : Nat} {c : AV}, RepC g cs b o → cs[i]? = some c → ∃ v, g.C b (o + i) = some v ∧ Rep g c 0 v
 | [], _, _, _, _, _, h => by simp at h
 | c :: cs, b, o, 0, _, ⟨⟨v, e, h1⟩, _⟩, h => by simp at h; subst h; exact ⟨v, e, h1⟩
 | c :: cs, b, o, i + 1, _, ⟨_, h2⟩, h => by
   obtain ⟨v, e, hr⟩ := RepC.get h2 (by simpa using h)
   exact ⟨v, by rw [← e]; congr 1; omega, hr⟩
theorem RepC.drop {g : Ghost} : ∀ {cs : List AV} {b o : Nat} (k : Nat), RepC g cs b o → RepC g (cs.drop k) b (o + k)
 | [], _, _, k, _ => by simp [RepC]
 | c :: cs, b, o, 0, h => by simpa using h
 | c :: cs, b, o, k + 1, ⟨_, h2⟩ => by
   have := RepC.drop k h2
   rw [show o + (k + 1) = o + 1 + k by omega]; simpa using this
theorem RepC.reps {g : Ghost} : ∀ {cs : List AV} {b o : Nat}, RepC g cs b o → ∃ vs, Reps g cs 0 vs ∧ ∀ j v, vs[j]? = some v → g.C b (o + j) = some v
 | [], _, _, _ => ⟨[], rfl, fun _ _ h => by simp at h⟩
 | c :: cs, b, o, ⟨⟨v, e, h1⟩, h2⟩ => by
   obtain ⟨vs, hr, hv⟩ := RepC.reps h2
   refine ⟨v :: vs, ⟨v, vs, rfl, h1, hr⟩, fun j u hj => ?_⟩
   cases j with
   | zero => simp at hj; subst hj; exact e
   | succ j => rw [← hv j u (by simpa using hj)]; congr 1; omega
theorem RepC.of_reps {g : Ghost} : ∀ {cs : List AV} {vs : List Value} {b o : Nat}, Reps g cs 0 vs → (∀ j v, vs[j]? = some v → g.C b (o + j) = some v) → RepC g cs b o
 | [], _, _, _, _, _ => trivial
 | c :: cs, _, b, o, ⟨v, vs', e, h1, h2⟩, hv => by
   subst e
   exact ⟨⟨v, hv 0 v rfl, h1⟩, RepC.of_reps h2 fun j u hj => by rw [← hv (j + 1) u (by simpa using hj)]; congr 1; omega⟩
theorem RepE.get {g : Ghost} {sz : Nat} : ∀ {es : List (List AV)} {b o i : Nat} {e : List AV}, RepE g es sz b o → es[i]? = some e → RepC g e b (o + i * sz) ∧ ElemOk sz e
 | [], _, _, _, _, _, h => by simp at h
 | e :: es, b, o, 0, _, ⟨h1, h2, _⟩, h => by simp at h; subst h; exact ⟨by simpa using h1, h2⟩
 | e :: es, b, o, i + 1, _, ⟨_, _, h3⟩, h => by
   have := RepE.get h3 (by simpa using h)
   rw [show o + (i + 1) * sz = o + sz + i * sz by rw [Nat.add_mul]; omega]
   exact this
theorem RepE.drop {g : Ghost} {sz : Nat} : ∀ {es : List (List AV)} {b o : Nat} (k : Nat), k ≤ es.length → RepE g es sz b o → RepE g (es.drop k) sz b (o + k * sz)
 | [], _, _, k, hk, _ => by simp at hk; subst hk; simp [RepE]
 | e :: es, b, o, 0, _, h => by simpa using h
 | e :: es, b, o, k + 1, hk, ⟨_, _, h3⟩ => by
   have := RepE.drop k (by simpa using hk) h3
   rw [show o + (k + 1) * sz = o + sz + k * sz by rw [Nat.add_mul]; omega]
   simpa using this
theorem RepE.take {g : Ghost} {sz : Nat} : ∀ {es : List (List AV)} {b o : Nat} (k : Nat), RepE g es sz b o → RepE g (es.take k) sz b o
 | [], _, _, k, _ => by simp [RepE]
 | e :: es, b, o, 0, _ => by simp [RepE]
 | e :: es, b, o, k + 1, ⟨h1, h2, h3⟩ => by simpa [RepE] using ⟨h1, h2, RepE.take k h3⟩
theorem RepE.size {g : Ghost} {sz : Nat} : ∀ {es : List (List AV)} {b o : Nat}, RepE g es sz b o → ∀ e ∈ es, ElemOk sz e
 | [], _, _, _, _, h => by simp at h
 | e :: es, b, o, ⟨_, h2, h3⟩, e', h => by
   rcases List.mem_cons.1 h with rfl | h
   · exact h2
   · exact RepE.size h3 e' h
theorem RepE.reps {g : Ghost} {sz : Nat} : ∀ {es : List (List AV)} {b o : Nat}, RepE g es sz b o → RepC g es.flatten b o
 | [], _, _, _ => trivial
 | e :: es, b, o, ⟨h1, h2, h3⟩ => by
   have ih := RepE.reps h3
   obtain ⟨vs, hr, hv⟩ := RepC.reps h1
   obtain ⟨us, hr', hu⟩ := RepC.reps ih
   have hl := Reps.length hr
   refine RepC.of_reps (vs := vs ++ us) (by simpa using Reps.append hr hr') fun j v hj => ?_
   rcases Nat.lt_or_ge j vs.length with h | h
   · rw [List.getElem?_append_left h] at hj; exact hv j v hj
   · rw [List.getElem?_append_right h] at hj
     rw [← hu _ v hj]; congr 1; have := h2.1; omega
theorem RepE.of_reps {g : Ghost} {sz : Nat} : ∀ {es : List (List AV)} {b o : Nat}, (∀ e ∈ es, ElemOk sz e) → RepC g es.flatten b o → RepE g es sz b o
 | [], _, _, _, _ => trivial
 | e :: es, b, o, hs, h => by
   obtain ⟨vs, hr, hv⟩ := RepC.reps h
   have he := hs e (by simp)
   rw [List.flatten_cons] at hr
   refine ⟨RepC.of_reps (vs := vs.take e.length) (by simpa using Reps.take e.length hr) fun j v hj => hv j v ?_, he, RepE.of_reps (fun e' h' => hs e' (by simp [h'])) ?_⟩
   · rw [List.getElem?_take] at hj; split at hj <;> simp_all
   · refine RepC.of_reps (vs := vs.drop e.length) (by simpa using Reps.drop e.length hr) fun j v hj => ?_
     rw [List.getElem?_drop] at hj
     rw [← hv _ v hj, he.1]; congr 1; omega
theorem lengths {sz : Nat} {es : List (List AV)} (h : ∀ e ∈ es, ElemOk sz e) : ∀ e ∈ es, e.length = sz := fun e he => (h e he).1
theorem allLeaf_iff : ∀ {cs : List AV}, allLeaf cs = true ↔ ∀ c ∈ cs, c.leaf = true
 | [] => by simp [allLeaf]
 | c :: cs => by simp [allLeaf, allLeaf_iff (cs := cs)]
def keyVal : TK → MKey → Value → Prop
 | .int k, .i n, v => v = .int k n
 | .string, .s s, v => v = .string s
 | .bool, .b b, v => v = .bool b
 | _, _, _ => False
def MapOk (g : Ghost) (kk : TK) (m : MKey → Option AV) : List MapEntry → Prop
 | [] => ∀ k, m k = none
 | e :: es => ∃ key, keyVal kk key e.key ∧ (∃ v, m key = some v ∧ Rep g v 0 e.val) ∧ ∃ m', MapOk g kk m' es ∧ ∀ k, keyEq k key = false → m k = m' k
def rowBlock (g : Ghost) (id ver : Nat) : Option Nat :=
 match g.hd id ver with
 | some (.slice (some a) _ cap) => if cap = 0 then none else some a.block
 | _ => none
def foreign (g : Ghost) (id : Nat) : Nat → Bool
 | 0 => false
 | k + 1 => match g.hd id k with
   | some (.bool false) => true
   | _ => false
def owned (g : Ghost) (id : Nat) : AObj → Option Nat
 | .var _ => some (g.blk id)
 | .map _ _ => some (g.blk id)
 | .row _ ver _ => rowBlock g id ver
 | .frz _ _ _ => none
 | .app _ ver _ => match foreign g id ver with
   | true => none
   | false => rowBlock g id ver
 | .dead => none
 | .guest _ => none
def RowOk (g : Ghost) (w : World) (sz : Nat) (es : List (List AV)) (a : Option Addr) (cap : Nat) : Prop :=
 (es = [] ∧ cap = 0) ∨ ((0 < cap ∧ cap ≤ 9223372036854775807) ∧ es.length ≤ cap ∧ ∃ b vs t, a = some ⟨b, 0, none⟩ ∧ w.heap[b]? = some (.cells vs t (0, 0)) ∧ cap * sz ≤ vs.size ∧ Reps g es.flatten 0 (vs.toList.take (es.length * sz)))
def FullOk (g : Ghost) (sz : Nat) (es : List (List AV)) (a : Option Addr) (cap : Nat) : Prop := cap = es.length ∧ (es = [] ∨ ∃ b o, a = some ⟨b, o, none⟩ ∧ RepE g es sz b o)
def AppOk (g : Ghost) (w : World) (sz : Nat) (es : List (List AV)) (a : Option Addr) (cap : Nat) : Bool → Prop
 | true => FullOk g sz es a cap
 | false => RowOk g w sz es a cap
def ObjOk (g : Ghost) (n : Nat) (w : World) (id : Nat) : AObj → Prop
 | .var cs => ∃ vs t, w.heap[g.blk id]? = some (.cells vs t (0, 0)) ∧ Reps g cs n vs.toList
 | .row sz ver es => (∃ a cap, g.hd id ver = some (.slice a es.length cap) ∧ RowOk g w sz es a cap) ∧ (∀ e ∈ es, ElemOk sz e) ∧ ∀ ver', ver < ver' → g.hd id ver' = none
 | .frz sz ver es => ∃ v, g.hd id ver = some v ∧ Rep g (.sl false sz es) 0 v
 | .app sz ver es => (∃ a cap, g.hd id ver = some (.slice a es.length cap) ∧ AppOk g w sz es a cap (foreign g id ver)) ∧ (∀ e ∈ es, ElemOk sz e) ∧ ∀ ver', ver < ver' → g.hd id ver' = none
 | .map kk m => ∃ ents clock, w.heap[g.blk id]? = some (.map ents clock) ∧ MapOk g kk m ents.toList
 | .dead => True
 | .guest _ => True
def YieldRule (G : Guest) : Prop :=
 ∀ x b T F C W vals, G.rel ((x, b) :: T) F C W → (∃ g0 : Ghost, g0.C = C ∧ Reps g0 x 0 vals) → ∀ n r, YieldAt (wideR r) n G.P G.l vals.toArray W fun e W' =>
   e = .returned (.bool b) ∧ ∃ C', G.rel T F C' W' ∧ (∀ b o v, C b o = some v → C' b o = some v) ∧ (∀ b o v, C' b o = some v → F b → C b o = some v) ∧ (∀ k, F k → W'.heap[k]? = W.heap[k]?) ∧ Below 0 W W'
structure Inv (g : Ghost) (σ : Store) (w : World) : Prop where
 comm : ∀ b o v, g.C b o = some v → w.cell? ⟨b, o, none⟩ = some v
 objs : ∀ id o, σ[id]? = some o → ObjOk g σ.length w id o
 sep : ∀ id o b, σ[id]? = some o → owned g id o = some b → ¬ g.fixed b ∧ b < w.heap.size ∧ ∀ off, g.C b off = none
 inj : ∀ id id' o o' b, σ[id]? = some o → σ[id']? = some o' → owned g id o = some b → owned g id' o' = some b → id = id'
 below : ∀ k, g.fixed k → w.heap[k]? = g.w0.w.heap[k]?
 str : Below 0 g.w0.w w
 base : ∀ k, g.fixed k → k < w.heap.size
 low : ∀ b o v, g.C b o = some v → g.fixed b → g.w0.C b o = some v
 guest : ∀ (id : Nat) (T : List (List AV × Bool)), σ[id]? = some (AObj.guest T) → id = 0 ∧ YieldRule g.w0.G ∧ ∃ F, g.w0.G.rel T F g.C w ∧ (∀ id' o' b, σ[id']? = some o' → owned g id' o' = some b → F b) ∧ ∀ k, g.fixed k → F k
theorem MapOk.up {g g' : Ghost} {m : Nat} (h : Up g g' m) {kk : TK} : ∀ {es : List MapEntry} {f : MKey → Option AV}, MapOk g kk f es → MapOk g' kk f es
 | [], _, hm => hm
 | _ :: _, _, ⟨key, hk, ⟨v, hv, hr⟩, m', hm, he⟩ => ⟨key, hk, ⟨v, hv, Rep.up h v 0 0 _ (Nat.zero_le _) (Nat.le_refl _) hr⟩, m', MapOk.up h hm, he⟩
theorem MapOk.mono {g g' : Ghost} {m : Nat} (h : Ext g g' m) {kk : TK} {es : List MapEntry} {f : MKey → Option AV} (hm : MapOk g kk f es) : MapOk g' kk f es := MapOk.up h.up hm
variable {g : Ghost}
theorem dataL_rep {c : AV} {n : Nat} {u : Value} (h : Rep g c n u) (hd : c.dataL = true) : Rep g c 0 u := by
 cases c <;> first | exact h | (exact absurd hd (by simp [AV.dataL]))
theorem dataLs_rep {n : Nat} : ∀ {cs : List AV} {us : List Value}, Reps g cs n us → allDataL cs = true → Reps g cs 0 us
 | [], _, h, _ => h
 | c :: cs, _, ⟨v, vs, e, h1, h2⟩, hd => by
   simp only [allDataL, Bool.and_eq_true] at hd
   exact ⟨v, vs, e, dataL_rep h1 hd.1, dataLs_rep h2 hd.2⟩
theorem data_rep {c : AV} {n : Nat} {u : Value} (h : Rep g c n u) (hd : c.data = true) : Rep g c 0 u := by
 cases c with
 | agg cs => obtain ⟨vs, e, hr⟩ := h; exact ⟨vs, e, dataLs_rep hr hd⟩
 | tuple cs => obtain ⟨vs, e, hr⟩ := h; exact ⟨vs, e, dataLs_rep hr hd⟩
 | _ => first | exact h | (exact absurd hd (by simp [AV.data]))
theorem datas_rep {n : Nat} : ∀ {cs : List AV} {us : List Value}, Reps g cs n us → allData cs = true → Reps g cs 0 us
 | [], _, h, _ => h
 | c :: cs, _, ⟨v, vs, e, h1, h2⟩, hd => by
   simp only [allData, Bool.and_eq_true] at hd
   exact ⟨v, vs, e, data_rep h1 hd.1, datas_rep h2 hd.2⟩
end Go.Abs
namespace Go.Abs
open Go.RowKit
theorem foreign_hd {g g' : Ghost} {j : Nat} (h : g'.hd j = g.hd j) (v : Nat) : foreign g' j v = foreign g j v := by
 cases v <;> simp only [foreign, h]
theorem RowOk.up {g g' : Ghost} {n : Nat} {w w' : World} {sz : Nat} {es : List (List AV)} {a : Option Addr} {cap : Nat} (he : Up g g' n) (hw : ∀ b, a = some b → 0 < cap → w'.heap[b.block]? = w.heap[b.block]?) (h : RowOk g w sz es a cap) : RowOk g' w' sz es a cap := by
 rcases h with h2 | ⟨hc, hl, b, vs, t, ha, hh, hs, hr⟩
 · exact .inl h2
 · refine .inr ⟨hc, hl, b, vs, t, ha, ?_, hs, Reps.up he _ 0 0 _ (Nat.zero_le _) (Nat.le_refl _) hr⟩
   rw [hw _ ha hc.1]; exact hh
theorem FullOk.up {g g' : Ghost} {n sz : Nat} {es : List (List AV)} {a : Option Addr} {cap : Nat} (he : Up g g' n) (h : FullOk g sz es a cap) : FullOk g' sz es a cap :=
 ⟨h.1, h.2.imp id fun ⟨b, o, ha, hr⟩ => ⟨b, o, ha, RepE.up he es sz b o hr⟩⟩
theorem owned_keep {g g' : Ghost} {n j : Nat} {o : AObj} (he : Ext g g' n) (hj : j < n) (hhd : g'.hd j = g.hd j) : owned g' j o = owned g j o := by
 cases o <;> simp [owned, rowBlock, he.blk j hj, hhd, foreign_hd hhd]
theorem ObjOk.keep {g g' : Ghost} {n n' j : Nat} {w w' : World} {o : AObj} (he : Up g g' n) (hj : j < n) (hn : n ≤ n') (hhd : g'.hd j = g.hd j)
   (hw : ∀ b, owned g j o = some b → w'.heap[b]? = w.heap[b]?) (h : ObjOk g n w j o) : ObjOk g' n' w' j o := by
 cases o with
 | var cs =>
   obtain ⟨vs, t, h1, h2⟩ := h
   exact ⟨vs, t, by rw [he.blk j hj, hw _ rfl]; exact h1, Reps.up he cs n n' _ (Nat.le_refl _) hn h2⟩
 | row sz ver es =>
   obtain ⟨⟨a, cap, h1, h2⟩, h3, h4⟩ := h
   refine ⟨⟨a, cap, by rw [hhd]; exact h1, ?_⟩, h3, fun v' hv => by rw [hhd]; exact h4 v' hv⟩
   rcases h2 with h2 | ⟨hc, hl, b, vs, t, ha, hh, hs, hr⟩
   · exact .inl h2
   · refine .inr ⟨hc, hl, b, vs, t, ha, ?_, hs, Reps.up he _ 0 0 _ (Nat.zero_le _) (Nat.le_refl _) hr⟩
     rw [hw b]
     · exact hh
     · simp only [owned, rowBlock, h1, ha]; rw [if_neg (by omega)]
 | frz sz ver es =>
   obtain ⟨v, h1, h2⟩ := h
   exact ⟨v, by rw [hhd]; exact h1, Rep.up he _ 0 0 _ (Nat.zero_le _) (Nat.le_refl _) h2⟩
 | app sz ver es =>
   obtain ⟨⟨a, cap, h1, h2⟩, h3, h4⟩ := h
   refine ⟨⟨a, cap, by rw [hhd]; exact h1, ?_⟩, h3, fun v' hv => by rw [hhd]; exact h4 v' hv⟩
   rw [foreign_hd hhd]
   cases hf : foreign g j ver with
   | true => rw [hf] at h2; exact FullOk.up he h2
   | false =>
     rw [hf] at h2
     refine RowOk.up he (fun b ha hc => hw _ ?_) h2
     simp only [owned, hf, rowBlock, h1, ha]; rw [if_neg (by omega)]
 | map kk m =>
   obtain ⟨ents, clock, h1, h2⟩ := h
   exact ⟨ents, clock, by rw [he.blk j hj, hw _ rfl]; exact h1, MapOk.up he h2⟩
 | dead => trivial
 | guest _ => trivial
theorem Inv.change {g g' : Ghost} {σ σ' : Store} {w w' : World} (h : Inv g σ w) (id : Nat) (he : Ext g g' σ.length) (hlen : σ.length ≤ σ'.length)
   (hσ : ∀ j, j ≠ id → σ'[j]? = σ[j]?) (hhd : ∀ j, j ≠ id → g'.hd j = g.hd j)
   (hw : ∀ k, k < w.heap.size → (∀ o, σ[id]? = some o → owned g id o ≠ some k) → w'.heap[k]? = w.heap[k]?)
   (hbelow : Below 0 w w') (hsize : w.heap.size ≤ w'.heap.size)
   (hC : ∀ b o v, g'.C b o = some v → g.C b o = some v ∨ (w'.cell? ⟨b, o, none⟩ = some v ∧ (w.heap.size ≤ b ∨ ∃ ob, σ[id]? = some ob ∧ owned g id ob = some b)))
   (hobj : ∀ o, σ'[id]? = some o → ObjOk g' σ'.length w' id o ∧ ∀ b, owned g' id o = some b →
     (w.heap.size ≤ b ∨ ∃ ob, σ[id]? = some ob ∧ owned g id ob = some b) ∧ b < w'.heap.size ∧ ∀ off, g'.C b off = none)
   (hng : ∀ T, σ'[id]? = some (AObj.guest T) → False := by intro T h; first | (simp at h; done) | (simp [List.getElem?_set] at h; done) | (simp [List.getElem?_append] at h; done))
   (hfx : g'.fixed = g.fixed := by rfl) (hw0 : g'.w0 = g.w0 := by rfl) : Inv g' σ' w' := by
 have hjl : ∀ j o, j ≠ id → σ'[j]? = some o → j < σ.length := fun j o hj ho => by
   rw [hσ j hj] at ho
   exact (List.getElem?_eq_some_iff.1 ho).1
 have hown : ∀ j o b, j ≠ id → σ'[j]? = some o → owned g' j o = some b → σ[j]? = some o ∧ owned g j o = some b := fun j o b hj ho hb => by
   have h1 := hjl j o hj ho
   rw [owned_keep he h1 (hhd j hj)] at hb
   rw [hσ j hj] at ho
   exact ⟨ho, hb⟩
 have hcomm : ∀ b o v, g'.C b o = some v → w'.cell? ⟨b, o, none⟩ = some v := fun b o v hv => by
   rcases hC b o v hv with hv | ⟨hv, _⟩
   · have hc := h.comm b o v hv
     have hb : b < w.heap.size := World.block_lt_of_cell? w ⟨b, o, none⟩ hc
     have := hw b hb fun ob hob hown => by
       have := (h.sep id ob b hob hown).2.2 o
       rw [hv] at this; cases this
     rw [← hc]
     exact World.cell?_of_block (w := w) (a := ⟨b, o, none⟩) this
   · exact hv
 have hfix : ∀ k, g.fixed k → w'.heap[k]? = w.heap[k]? := fun k hk => hw k (h.base k hk) fun ob hob hown => (h.sep id ob k hob hown).1 hk
 refine ⟨hcomm, fun j o ho => ?_, fun j o b ho hb => ?_, fun j j' o o' b ho ho' hb hb' => ?_, ?_, ?_, ?_, fun b o v hv hb => ?_, fun j T hj => ?_⟩
 · by_cases hj : j = id
   · subst hj; exact (hobj o ho).1
   · have hl := hjl j o hj ho
     rw [hσ j hj] at ho
     refine ObjOk.keep he.up hl hlen (hhd j hj) (fun b hb => ?_) (h.objs j o ho)
     exact hw b (h.sep j o b ho hb).2.1 fun ob hob hown => hj (h.inj j id o ob b ho hob hb hown)
 · by_cases hj : j = id
   · subst hj
     obtain ⟨h1, h2, h3⟩ := (hobj o ho).2 b hb
     refine ⟨?_, h2, h3⟩
     rw [hfx]
     rcases h1 with h1 | ⟨ob, hob, hown⟩
     · intro hf; have := h.base b hf; omega
     · exact (h.sep j ob b hob hown).1
   · obtain ⟨ho, hb⟩ := hown j o b hj ho hb
     obtain ⟨h1, h2, h3⟩ := h.sep j o b ho hb
     refine ⟨by rw [hfx]; exact h1, by omega, fun off => ?_⟩
     cases hc : g'.C b off with
     | none => rfl
     | some v =>
       rcases hC b off v hc with hc | ⟨_, hc | ⟨ob, hob, hown⟩⟩
       · rw [h3 off] at hc; cases hc
       · omega
       · exact absurd (h.inj j id o ob b ho hob hb hown) hj
 · by_cases hj : j = id
   · by_cases hj' : j' = id
     · rw [hj, hj']
     · obtain ⟨ho', hb'⟩ := hown j' o' b hj' ho' hb'
       subst hj
       rcases ((hobj o ho).2 b hb).1 with h1 | ⟨ob, hob, hown⟩
       · have := (h.sep j' o' b ho' hb').2.1; omega
       · exact h.inj j j' ob o' b hob ho' hown hb'
   · obtain ⟨ho, hb⟩ := hown j o b hj ho hb
     by_cases hj' : j' = id
     · subst hj'
       rcases ((hobj o' ho').2 b hb').1 with h1 | ⟨ob, hob, hown⟩
       · have := (h.sep j o b ho hb).2.1; omega
       · exact h.inj j j' o ob b ho hob hb hown
     · obtain ⟨ho', hb'⟩ := hown j' o' b hj' ho' hb'
       exact h.inj j j' o o' b ho ho' hb hb'
 · intro k hk
   rw [hfx] at hk
   rw [hw0]
   exact (hfix k hk).trans (h.below k hk)
 · rw [hw0]; exact h.str.trans hbelow
 · intro k hk
   rw [hfx] at hk
   exact Nat.lt_of_lt_of_le (h.base k hk) hsize
 · rw [hfx] at hb
   rw [hw0]
   rcases hC b o v hv with hv | ⟨_, hc | ⟨ob, hob, hown⟩⟩
   · exact h.low b o v hv hb
   · have := h.base b hb; omega
   · exact absurd hb (h.sep id ob b hob hown).1
 · have hjid : j ≠ id := fun e => hng T (by rw [← e]; exact hj)
   have hj' := hj
   rw [hσ j hjid] at hj'
   obtain ⟨hj0, hy, F, hrel, hF, hfF⟩ := h.guest j T hj'
   rw [hw0]
   refine ⟨hj0, hy, fun k => F k ∨ (w.heap.size ≤ k ∧ k < w'.heap.size), ?_, fun id' o' b ho' hb' => ?_, fun k hk => .inl (hfF k (by rw [← hfx]; exact hk))⟩
   · refine g.w0.G.step T F g.C g'.C w w' hrel he.C hcomm (fun b o v hv => ?_) (fun k hk hnF => hw k hk fun ob hob hown => hnF (hF id ob k hob hown)) hbelow
     rcases hC b o v hv with hv | ⟨_, hc | ⟨ob, hob, hown⟩⟩
     · exact .inl hv
     · exact .inr (.inr hc)
     · exact .inr (.inl (hF id ob b hob hown))
   · by_cases hid : id' = id
     · subst hid
       have hbl := ((hobj o' ho').2 b hb').2.1
       rcases ((hobj o' ho').2 b hb').1 with h1 | ⟨ob, hob, hown⟩
       · exact .inr ⟨h1, hbl⟩
       · exact .inl (hF id' ob b hob hown)
     · obtain ⟨ho', hb'⟩ := hown id' o' b hid ho' hb'
       exact .inl (hF id' o' b ho' hb')
theorem Inv.same {g : Ghost} {σ : Store} {w w' : World} (h : Inv g σ w) (hh : w'.heap = w.heap) (h1 : w'.os = w.os) (h2 : w'.tape = w.tape) (h3 : w'.output = w.output) : Inv g σ w' := by
 refine h.change σ.length (Ext.refl g _) (Nat.le_refl _) (fun _ _ => rfl) (fun _ _ => rfl) (fun k _ _ => by rw [hh]) ⟨h1, h2, h3, by rw [hh]; exact Nat.le_refl _, fun k _ => by rw [hh]⟩ (by rw [hh]; exact Nat.le_refl _)
   (fun _ _ _ hv => .inl hv) (fun o ho => by simp at ho)
theorem Inv.lt {g : Ghost} {σ : Store} {w : World} (h : Inv g σ w) {b o : Nat} {v : Value} (hv : g.C b o = some v) : b < w.heap.size :=
 World.block_lt_of_cell? w ⟨b, o, none⟩ (h.comm b o v hv)
theorem heap_new (w : World) (o : Obj) : (w.alloc o).heap[w.heap.size]? = some o := by
 show (w.heap.push o)[w.heap.size]? = some o
 simp
def Ghost.push (g : Ghost) (id b : Nat) : Ghost := { g with blk := fun j => if j = id then b else g.blk j }
theorem Ghost.push_ext (g : Ghost) (id b n : Nat) (h : n ≤ id) : Ext g (g.push id b) n :=
 ⟨fun _ _ _ hv => hv, fun j hj => by simp only [Ghost.push]; rw [if_neg (by omega)], fun _ _ _ _ hv => hv, Tie.refl _ _⟩
theorem Inv.newVar {g : Ghost} {σ : Store} {w : World} (h : Inv g σ w) (cs : List AV) (vs : Array Value) (t : TypeId) (hr : Reps g cs σ.length vs.toList) :
   Inv (g.push σ.length w.heap.size) (σ ++ [.var cs]) (w.alloc (.cells vs t)) := by
 have he := g.push_ext σ.length w.heap.size σ.length (Nat.le_refl _)
 refine h.change σ.length he (by simp) (fun j hj => ?_) (fun _ _ => rfl) (fun k hk _ => Below.heap_alloc w _ k hk) ((Below.refl _ w).alloc (Nat.zero_le _) _) (by simp) (fun _ _ _ hv => .inl hv) (fun o ho => ?_)
 · rcases Nat.lt_or_ge j σ.length with hl | hl
   · rw [List.getElem?_append_left hl]
   · rw [List.getElem?_eq_none (by simp; omega), List.getElem?_eq_none (by omega)]
 · rw [List.getElem?_append_right (Nat.le_refl _)] at ho
   simp at ho
   subst ho
   refine ⟨⟨vs, t, ?_, Reps.mono he cs σ.length _ _ (Nat.le_refl _) (by simp) hr⟩, fun b hb => ?_⟩
   · simp only [Ghost.push, if_true]
     exact heap_new w _
   · simp [owned, Ghost.push] at hb
     subst hb
     refine ⟨.inl (Nat.le_refl _), by simp, fun off => ?_⟩
     cases hc : g.C w.heap.size off with
     | none => exact hc
     | some v => have := h.lt hc; omega
theorem Inv.foreign {g : Ghost} {σ : Store} {A B : World} (h : Inv g σ A) {C2 : Nat → Nat → Option Value} (fx : Nat → Prop) (up : ∀ b o v, g.C b o = some v → C2 b o = some v)
   (comm : ∀ b o v, C2 b o = some v → B.cell? ⟨b, o, none⟩ = some v) (low : ∀ b o v, C2 b o = some v → g.C b o = some v ∨ g.fixed b ∨ (A.heap.size ≤ b ∧ b < B.heap.size))
   (same : ∀ k, k < A.heap.size → ¬ g.fixed k → B.heap[k]? = A.heap[k]?) (hb : Below 0 A B) (hfx : ∀ k, fx k → g.fixed k ∨ A.heap.size ≤ k) (hfb : ∀ k, fx k → k < B.heap.size) :
   Inv { g with C := C2, fixed := fx, w0 := ⟨B, C2, g.w0.G⟩ } σ B := by
 have hown : ∀ (id : Nat) (o : AObj) (b : Nat), owned { g with C := C2, fixed := fx, w0 := ⟨B, C2, g.w0.G⟩ } id o = some b → owned g id o = some b := fun id o b hb => by cases o <;> exact hb
 have hmono : ∀ (id : Nat) (o : AObj), σ[id]? = some o → ObjOk { g with C := C2, fixed := fx, w0 := ⟨B, C2, g.w0.G⟩ } σ.length B id o := fun id o ho => by
   exact ObjOk.keep (g := g) (w' := B) ⟨up, fun _ _ => rfl, fun _ _ _ _ h => h, rfl⟩ (List.getElem?_eq_some_iff.1 ho).1 (Nat.le_refl _) rfl
     (fun b hb => same b (h.sep id o b ho hb).2.1 (h.sep id o b ho hb).1) (h.objs id o ho)
 refine ⟨comm, hmono, fun id o b ho hb' => ?_, fun id id' o o' b ho ho' hb1 hb2 => h.inj id id' o o' b ho ho' (hown _ _ _ hb1) (hown _ _ _ hb2), fun _ _ => rfl, Below.refl _ _, hfb, fun _ _ _ hv _ => hv, fun id T hg => ?_⟩
 · obtain ⟨h1, h2, h3⟩ := h.sep id o b ho (hown _ _ _ hb')
   refine ⟨fun hf => ?_, Nat.lt_of_lt_of_le h2 hb.size, fun off => ?_⟩
   · rcases hfx b hf with h4 | h4
     · exact h1 h4
     · omega
   · cases hc : C2 b off with
     | none => exact hc
     | some v =>
       rcases low b off v hc with h4 | h4 | h4
       · rw [h3 off] at h4; cases h4
       · exact absurd h4 h1
       · omega
 · obtain ⟨h0, hy, F, hrel, hF, hfF⟩ := h.guest id T hg
   refine ⟨h0, hy, fun k => F k ∨ (A.heap.size ≤ k ∧ k < B.heap.size), ?_, fun id' o' b ho' hb' => .inl (hF id' o' b ho' (hown _ _ _ hb')), fun k hk => ?_⟩
   · refine g.w0.G.step T F g.C C2 A B hrel up comm (fun b o v hv => ?_) (fun k hk hnF => same k hk fun hf => hnF (hfF k hf)) hb
     rcases low b o v hv with h4 | h4 | h4
     · exact .inl h4
     · exact .inr (.inl (hfF b h4))
     · exact .inr (.inr h4.1)
   · rcases hfx k hk with h4 | h4
     · exact .inl (hfF k h4)
     · exact .inr ⟨h4, hfb k hk⟩
end Go.Abs
namespace Go.Abs
open Go.RowKit
def descOk : TypeDesc → TK → Prop
 | .int k, .int k' => k = k'
 | .bool, .bool => True
 | .string, .string => True
 | .struct fs, .struct gs => fs.toList.map (fun f => (f.type, f.offset)) = gs
 | .array n e, .array n' e' => n = n' ∧ e = e'
 | .slice e, .slice e' => e = e'
 | .map k e, .map k' e' => k = k' ∧ e = e'
 | .struct _, .other => False
 | .array _ _, .other => False
 | _, .other => True
 | _, _ => False
structure TyOk (P : Program) (t : Nat) (i : TInfo) : Prop where
 info : ∃ ti z, P.info? t = some ti ∧ ti.size = i.size ∧ ti.bytes = i.bytes ∧ ti.zero = some z ∧ (∀ g n, Reps g i.zero n z.cells.toList) ∧ z.cells.toList.all (·.oneCell') = true ∧ i.zero.length = i.size ∧ allLeaf i.zero = true ∧
   (match i.k.agg with | true => z = .agg z.cells | false => z.oneCell' = true)
 und : ∃ d, P.underlying t = some d ∧ descOk d i.k
 sub : ∀ gs, i.k = .struct gs → ∀ f ∈ gs, (P.info? f.1).isSome = true
theorem TyOk.size {P : Program} {t : Nat} {i : TInfo} (h : TyOk P t i) : (P.info? t).map (·.size) = some i.size := by
 obtain ⟨ti, z, h1, h2, _⟩ := h.info; rw [h1]; simp [h2]
theorem agg_row {d : TypeDesc} {k : TK} (h : descOk d k) : d.isRow = k.agg := by
 cases d <;> cases k <;> simp_all [descOk, TypeDesc.isRow, TK.agg]
theorem run_sizeOf' {P : Program} {t : Nat} {i : TInfo} (h : TyOk P t i) (w : World) : (sizeOf t).run P w = .ok i.size w := by
 obtain ⟨ti, z, h1, h2, _⟩ := h.info
 simp [sizeOf, typeInfo, h1, h2]
theorem run_isAgg' {P : Program} {t : Nat} {i : TInfo} (h : TyOk P t i) (w : World) : (isAgg t).run P w = .ok i.k.agg w := by
 obtain ⟨d, h1, h2⟩ := h.und
 unfold isAgg
 rw [Sem.run_bind, run_underlying h1 w, ← agg_row h2]
 cases d <;> simp [TypeDesc.isRow]
theorem leaf_one {g : Ghost} {n : Nat} {c : AV} {v : Value} (hl : c.leaf = true) (h : Rep g c n v) : v.oneCell' = true := by
 cases c <;> simp [AV.leaf] at hl <;> simp only [Rep] at h
 all_goals (first | (subst h; rfl) | (obtain ⟨_, _, rfl, _⟩ := h; rfl) | (obtain ⟨_, rfl⟩ := h; rfl) | (obtain ⟨_, rfl, _⟩ := h; rfl) | skip)
 · exact h.2.2
 · obtain ⟨_, _, _, _, _, _, rfl⟩ := h; rfl
theorem cells_one {v : Value} (h : v.oneCell' = true) : v.cells = #[v] := by
 cases v <;> first | rfl | simp [Value.oneCell'] at h
theorem allLeaf_one {g : Ghost} {n : Nat} : ∀ {cs : List AV} {vs : List Value}, allLeaf cs = true → Reps g cs n vs → vs.all (·.oneCell') = true
 | [], _, _, h => by simp [Reps] at h; simp [h]
 | c :: cs, _, hl, ⟨v, vs', e, h1, h2⟩ => by
   simp only [allLeaf, Bool.and_eq_true] at hl
   subst e
   simp only [List.all_cons, leaf_one hl.1 h1, allLeaf_one hl.2 h2, Bool.and_self]
theorem cellsOf_rep {g : Ghost} {n : Nat} {v : AV} {us : List AV} {val : Value} (hc : cellsOf v = some us) (h : Rep g v n val) :
   Reps g us n val.cells.toList ∧ val.cells.toList.all (·.oneCell') = true := by
 cases hl : v.leaf with
 | true =>
   have h1 := leaf_one hl h
   have hu : us = [v] := by cases v <;> simp_all [cellsOf, AV.leaf]
   subst hu
   rw [cells_one h1]
   exact ⟨⟨val, [], rfl, h, rfl⟩, by simp [h1]⟩
 | false =>
   cases v <;> simp [AV.leaf] at hl <;> simp [cellsOf] at hc
   obtain ⟨hc', e⟩ := iteO_none hc
   injection e with e
   subst e
   obtain ⟨vs, rfl, hr⟩ := h
   exact ⟨by simpa [Value.cells] using hr, by simpa [Value.cells] using allLeaf_one hc' hr⟩
structure FrOk (g : Ghost) (n : Nat) (fr : Fr) (tmps : Array Value) : Prop where
 size : fr.length ≤ tmps.size
 get : ∀ i c, fr[i]? = some c → Rep g c n (tmps.getD i undef)
theorem FrOk.mono {g g' : Ghost} {n n' : Nat} {fr : Fr} {tmps : Array Value} (h : FrOk g n fr tmps) (he : Ext g g' n) (hn : n ≤ n') : FrOk g' n' fr tmps :=
 ⟨h.size, fun i c hi => Rep.mono he c n n' _ (Nat.le_refl _) hn (h.get i c hi)⟩
theorem FrOk.getD {g : Ghost} {n : Nat} {fr : Fr} {tmps : Array Value} (h : FrOk g n fr tmps) (t : Nat) : Rep g (fr.getD t .top) n (tmps.getD t undef) := by
 cases hc : fr[t]? with
 | none => rw [List.getD_eq_getElem?_getD, hc]; exact trivial
 | some c => rw [List.getD_eq_getElem?_getD, hc]; exact h.get t c hc
theorem FrOk.put {g : Ghost} {n : Nat} {fr : Fr} {a : Act} (h : FrOk g n fr a.tmps) (d : Option Tmp) {c : AV} {v : Value} (hc : Rep g c n v) : FrOk g n (setT fr d c) (a.put d v).tmps := by
 cases d with
 | none => exact h
 | some d =>
   refine ⟨by simpa [setT, Act.put] using h.size, fun i x hi => ?_⟩
   simp only [setT, List.getElem?_set] at hi
   simp only [Act.put]
   split at hi
   · rename_i hdi
     subst hdi
     split at hi
     · rename_i hlt
       injection hi with hi
       subst hi
       have : d < a.tmps.size := Nat.lt_of_lt_of_le hlt h.size
       simpa [Array.getD, this] using hc
     · cases hi
   · rename_i hdi
     have := h.get i x hi
     have hs : (a.tmps.setIfInBounds d v).getD i undef = a.tmps.getD i undef := by
       simp only [Array.getD_eq_getD_getElem?, Array.getElem?_setIfInBounds, if_neg hdi]
     rw [hs]; exact this
theorem ofLeaf_rep (g : Ghost) (n : Nat) (v : Value) : Rep g (ofLeaf v) n v := by
 unfold ofLeaf
 split <;> simp [Rep]
theorem ofLeafs_rep (g : Ghost) (n : Nat) : ∀ vs : List Value, Reps g (vs.map ofLeaf) n vs
 | [] => rfl
 | v :: vs => ⟨v, vs, rfl, ofLeaf_rep g n v, ofLeafs_rep g n vs⟩
theorem ofValue_rep (g : Ghost) (n : Nat) (v : Value) : Rep g (ofValue v) n v := by
 unfold ofValue
 split
 · rename_i cs
   exact ⟨cs.toList, by simp, ofLeafs_rep g n cs.toList⟩
 · exact ofLeaf_rep g n _
theorem evalO_rep {g : Ghost} {n : Nat} {fr : Fr} {a : Act} (h : FrOk g n fr a.tmps) (x : Operand) : Rep g (evalO fr x) n (a.eval x) := by
 cases x with
 | tmp t => exact h.getD t
 | const v => exact ofValue_rep g n v
 | global _ => exact trivial
 | func f => exact rfl
theorem evalOs_rep {g : Ghost} {n : Nat} {fr : Fr} {a : Act} (h : FrOk g n fr a.tmps) : ∀ xs : List Operand, Reps g (evalOs fr xs) n (xs.map a.eval)
 | [] => rfl
 | x :: xs => ⟨_, _, rfl, evalO_rep h x, evalOs_rep h xs⟩
end Go.Abs
