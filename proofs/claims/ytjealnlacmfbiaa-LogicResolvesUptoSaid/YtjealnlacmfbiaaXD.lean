import Derived.Test.YtjealnlacmfbiaaSqW2
import Derived.Test.YtjealnlacmfbiaaGen3
import Derived.Test.YtjealnlacmfbiaaSqBk
import Derived.Test.YtjealnlacmfbiaaSqIns
set_option linter.unusedSimpArgs false
set_option linter.unusedVariables false
namespace Go.Abs.Try
abbrev Z : AV := .top
@[push_cast] theorem Z_eq : Z = AV.top := rfl
open Go.RowKit
set_option maxRecDepth 100000
set_option maxHeartbeats 4000000
def cmpS (a b : ByteArray) : Int := Lib.compareBytes a.data.toList b.data.toList
def F79 (a b : ByteArray) : Option Int := some (cmpS a b)
@[push_cast] def ar33 : Rs (ByteArray × ByteArray) := rsC rS (rsO rS)
@[push_cast] def v33 (r : Int) : AV := .int .i64 r
noncomputable def t33 : List AV → Option AV := TL ar33.e fun x => bindO (F79 x.1 x.2) fun r => some (v33 r)
@[push_cast] def H10 : Nat → Hint
 | 0 => ⟨[], [3], []⟩
 | 1 => ⟨[], [3], []⟩
 | _ => ⟨[], [], []⟩
def F37_s1  (s3 : Int) (x2 : Node) : Option (Sum (Int) (Int)) := some (.inl (IntKind.i64.wrap (s3 + 1)))
def F37_f1  (s3 : Int) : Option (Int) := some s3
def F37 (n : Node) : Option (Int) := bindO (walkO n) fun l1 => foldO (S := Int) (F37_s1) (F37_f1) l1 0
@[push_cast] def ar10 : Rs Node := rsO rNode
@[push_cast] def v10 (r : Int) : AV := .int .i64 r
@[push_cast] def sh10 : Shp := .one (.leaf none)
noncomputable def t10 : List AV → Option AV := TL ar10.e fun x => bindO (F37 x) fun r => some (v10 r)
@[push_cast] def H35 : Nat → Hint
 | 0 => ⟨[3, 7, 8, 9], [3], []⟩
 | 1 => ⟨[], [3, 7, 8, 9], []⟩
 | _ => ⟨[], [], []⟩
def F38_s1 (self35 : Node → Option (Int)) (s3 : Int) (i1 : Nat) (x2 : Node) : Option (Sum (Int) (Int)) := bindO (self35 x2) fun r4 => some (.inl (max s3 r4))
def F38_f1  (s3 : Int) : Option (Int) := some (IntKind.i64.wrap (s3 + 1))
def F38b (self35 : Node → Option (Int)) (N : Nat) (n : Node) : Option (Int) := foldN (S := Int) (F38_s1 self35) (F38_f1) N n.kids 0 0
def F38 : Nat → Node → Option (Int)
 | 0 => fun _ => none
 | N + 1 => fun n => F38b (F38 N) N n
@[push_cast] def ar35 : Rs Node := rsO rNode
@[push_cast] def v35 (r : Int) : AV := .int .i64 r
@[push_cast] def sh35 : Shp := .one (.leaf none)
noncomputable def t35 (N : Nat) : List AV → Option AV := TL ar35.e fun x => bindO (F38 N x) fun r => some (v35 r)
noncomputable def ts35 (self35 : Node → Option (Int)) : List AV → Option AV := TL ar35.e fun x => bindO (self35 x) fun r => some (v35 r)
@[push_cast] theorem t35_1 (self35 : Node → Option (Int)) (z1 : Int) (z2 : Int) (z3 : ByteArray) (z4 : Int) (z5 : List Node) : ts35 self35 [.agg [.int .i64 z1, .int .i64 z2, .str z3, .int .i64 z4, .sl false 5 (List.map Node.cells z5)]] = bindO (self35 (⟨z1, z2, z3, z4, z5⟩ : Node)) fun r => some (v35 r) :=
 TL_hit ar35.inj (⟨z1, z2, z3, z4, z5⟩ : Node) (by simp only [push_cast] <;> rfl)
@[push_cast] def H13 : Nat → Hint
 | _ => ⟨[], [], []⟩
def F70 (N : Nat) (n : Node) : Option (Bool) := bindO (F37 n) fun r1 => iteO (decide (r1 ≤ 4000)) (bindO (F38 N n) fun r2 => some (decide (r2 ≤ 100))) (some false)
@[push_cast] def ar13 : Rs Node := rsO rNode
@[push_cast] def v13 (r : Bool) : AV := .bool r
@[push_cast] def sh13 : Shp := .one (.leaf none)
noncomputable def t13 (N : Nat) : List AV → Option AV := TL ar13.e fun x => bindO (F70 N x) fun r => some (v13 r)
@[push_cast] theorem t10_1 (z1 : Int) (z2 : Int) (z3 : ByteArray) (z4 : Int) (z5 : List Node) : t10 [.agg [.int .i64 z1, .int .i64 z2, .str z3, .int .i64 z4, .sl false 5 (List.map Node.cells z5)]] = bindO (F37 (⟨z1, z2, z3, z4, z5⟩ : Node)) fun r => some (v10 r) :=
 TL_hit ar10.inj (⟨z1, z2, z3, z4, z5⟩ : Node) (by simp only [push_cast] <;> rfl)
@[push_cast] theorem t35_2 {N : Nat} (z1 : Int) (z2 : Int) (z3 : ByteArray) (z4 : Int) (z5 : List Node) : t35 N [.agg [.int .i64 z1, .int .i64 z2, .str z3, .int .i64 z4, .sl false 5 (List.map Node.cells z5)]] = bindO (F38 N (⟨z1, z2, z3, z4, z5⟩ : Node)) fun r => some (v35 r) :=
 TL_hit ar35.inj (⟨z1, z2, z3, z4, z5⟩ : Node) (by simp only [push_cast] <;> rfl)
@[push_cast] def H63 : Nat → Hint
 | _ => ⟨[], [], []⟩
def F73 (c : Int) : Option (Bool) := iteO (decide (c ≥ 97)) (iteO (decide (c ≤ 122)) (some true) (iteO (decide (c ≥ 65)) (some (decide (c ≤ 90))) (some false))) (iteO (decide (c ≥ 65)) (some (decide (c ≤ 90))) (some false))
@[push_cast] def ar63 : Rs Int := rsO (rI .u8)
@[push_cast] def v63 (r : Bool) : AV := .bool r
@[push_cast] def sh63 : Shp := .one (.leaf none)
noncomputable def t63 : List AV → Option AV := TL ar63.e fun x => bindO (F73 x) fun r => some (v63 r)
@[push_cast] def H64 : Nat → Hint
 | _ => ⟨[], [], []⟩
def F74 (s : ByteArray) : Option (Bool) := iteO (s.toList == (⟨#[116, 114, 117, 101]⟩ : ByteArray).toList) (some true) (iteO (s.toList == (⟨#[102, 97, 108, 115, 101]⟩ : ByteArray).toList) (some true) (iteO (s.toList == (⟨#[105, 110]⟩ : ByteArray).toList) (some true) (iteO (s.toList == (⟨#[115, 117, 98]⟩ : ByteArray).toList) (some true) (iteO (s.toList == (⟨#[101, 109, 112, 116, 121]⟩ : ByteArray).toList) (some true) (iteO (s.toList == (⟨#[115, 105, 110, 103]⟩ : ByteArray).toList) (some true) (iteO (s.toList == (⟨#[99, 117, 112]⟩ : ByteArray).toList) (some true) (iteO (s.toList == (⟨#[99, 97, 112]⟩ : ByteArray).toList) (some true) (iteO (s.toList == (⟨#[100, 105, 102, 102]⟩ : ByteArray).toList) (some true) (iteO (s.toList == (⟨#[115, 101, 108]⟩ : ByteArray).toList) (some true) (iteO (s.toList == (⟨#[115, 116, 111]⟩ : ByteArray).toList) (some true) (iteO (s.toList == (⟨#[118, 108, 101, 110]⟩ : ByteArray).toList) (some true) (iteO (s.toList == (⟨#[105, 116, 101]⟩ : ByteArray).toList) (some true) (some false)))))))))))))
@[push_cast] def ar64 : Rs ByteArray := rsO rS
@[push_cast] def v64 (r : Bool) : AV := .bool r
@[push_cast] def sh64 : Shp := .one (.leaf none)
noncomputable def t64 : List AV → Option AV := TL ar64.e fun x => bindO (F74 x) fun r => some (v64 r)
@[push_cast] def H54 : Nat → Hint
 | 0 => ⟨[0, 24, 25], [], []⟩
 | 1 => ⟨[], [0, 24, 25], []⟩
 | _ => ⟨[], [], []⟩
def F16_s1 (s : ByteArray) (s5 : Unit) (i3 : Nat) (x4 : Nat) : Option (Sum (Unit) (Bool)) := bindO (F73 (bt s (i3 : Int))) fun r6 => iteO r6 (some (.inl ())) (iteO (decide ((bt s (i3 : Int)) < 48)) (iteO ((bt s (i3 : Int)) == 46) (some (.inl ())) (some (.inr false))) (iteO (decide ((bt s (i3 : Int)) > 57)) (iteO ((bt s (i3 : Int)) == 46) (some (.inl ())) (some (.inr false))) (some (.inl ()))))
def F16_f1  (s5 : Unit) : Option (Bool) := some true
def F16 (N : Nat) (s : ByteArray) : Option (Bool) := iteO (decide ((s.size : Int) < 1)) (some false) (iteO (decide ((s.size : Int) > 24)) (some false) (iteO (inB 0 s.size) (bindO (F73 (bt s 0)) fun r1 => iteO r1 (bindO (F74 s) fun r2 => iteO r2 (some false) (foldN (S := Unit) (F16_s1 s) (F16_f1) N (List.range s.size) 0 ())) (some false)) (none)))
@[push_cast] def ar54 : Rs ByteArray := rsO rS
@[push_cast] def v54 (r : Bool) : AV := .bool r
@[push_cast] def sh54 : Shp := .one (.leaf none)
noncomputable def t54 (N : Nat) : List AV → Option AV := TL ar54.e fun x => bindO (F16 N x) fun r => some (v54 r)
@[push_cast] theorem t63_1 (z1 : Int) : t63 [.int .u8 z1] = bindO (F73 z1) fun r => some (v63 r) :=
 TL_hit ar63.inj z1 (by simp only [push_cast] <;> rfl)
@[push_cast] theorem t64_1 (z1 : ByteArray) : t64 [.str z1] = bindO (F74 z1) fun r => some (v64 r) :=
 TL_hit ar64.inj z1 (by simp only [push_cast] <;> rfl)
@[push_cast] def H40 : Nat → Hint
 | 0 => ⟨[], [1], []⟩
 | _ => ⟨[], [], []⟩
def F116 (N : Nat) (n : Node) : Option (Bool) := iteO (n.op == 1) (bindO (F16 N n.name) fun r2 => iteO r2 (iteO (decide (n.sortf < 1)) (some false) (iteO (decide (n.sortf > 5)) (some false) (iteO (n.op == 2) (iteO (decide (n.num ≥ (-1000000000000))) (some (decide (n.num ≤ 1000000000000))) (some false)) (iteO (n.op == 7) (iteO (decide (n.num ≥ (-1000000000000))) (some (decide (n.num ≤ 1000000000000))) (some false)) (iteO (n.op == 42) (iteO (decide (n.num ≥ 0)) (some (decide (n.num < 200))) (some false)) (some (n.num == 0))))))) (some false)) (bindO (F16 N n.name) fun r1 => iteO ((n.op == 3) == r1) (iteO (n.op == 3) (iteO (decide (n.sortf < 1)) (some false) (iteO (decide (n.sortf > 5)) (some false) (iteO (n.op == 2) (iteO (decide (n.num ≥ (-1000000000000))) (some (decide (n.num ≤ 1000000000000))) (some false)) (iteO (n.op == 7) (iteO (decide (n.num ≥ (-1000000000000))) (some (decide (n.num ≤ 1000000000000))) (some false)) (iteO (n.op == 42) (iteO (decide (n.num ≥ 0)) (some (decide (n.num < 200))) (some false)) (some (n.num == 0))))))) (iteO (n.name.toList == (⟨#[]⟩ : ByteArray).toList) (iteO (n.sortf == 0) (iteO (n.op == 2) (iteO (decide (n.num ≥ (-1000000000000))) (some (decide (n.num ≤ 1000000000000))) (some false)) (iteO (n.op == 7) (iteO (decide (n.num ≥ (-1000000000000))) (some (decide (n.num ≤ 1000000000000))) (some false)) (iteO (n.op == 42) (iteO (decide (n.num ≥ 0)) (some (decide (n.num < 200))) (some false)) (some (n.num == 0))))) (some false)) (some false))) (some false))
@[push_cast] def ar40 : Rs Node := rsO rNode
@[push_cast] def v40 (r : Bool) : AV := .bool r
@[push_cast] def sh40 : Shp := .one (.leaf none)
noncomputable def t40 (N : Nat) : List AV → Option AV := TL ar40.e fun x => bindO (F116 N x) fun r => some (v40 r)
@[push_cast] theorem t54_1 {N : Nat} (z1 : ByteArray) : t54 N [.str z1] = bindO (F16 N z1) fun r => some (v54 r) :=
 TL_hit ar54.inj z1 (by simp only [push_cast] <;> rfl)
@[push_cast] def H30 : Nat → Hint
 | 0 => ⟨[1], [1], []⟩
 | 1 => ⟨[], [1], []⟩
 | 2 => ⟨[], [1], []⟩
 | _ => ⟨[], [], []⟩
def F36_s1  (s1 : Int × Int × ByteArray × Int × (List Node)) : Option (Sum (Int × Int × ByteArray × Int × (List Node)) (Int)) := iteO (s1.1 == 8) (iteO (decide ((s1.2.2.2.2.length : Int) < 2)) (some (.inr 0)) (bindO (atO s1.2.2.2.2 1) fun x2 => some (.inl (x2.op, x2.sortf, x2.name, x2.num, x2.kids)))) (iteO (s1.1 == 1) (some (.inr s1.2.1)) (iteO (s1.1 == 3) (some (.inr s1.2.1)) (iteO (s1.1 == 2) (some (.inr 1)) (iteO (s1.1 == 4) (some (.inr 1)) (iteO (s1.1 == 5) (some (.inr 1)) (iteO (s1.1 == 6) (some (.inr 1)) (iteO (s1.1 == 7) (some (.inr 1)) (iteO (s1.1 == 14) (some (.inr 1)) (iteO (s1.1 == 16) (some (.inr 1)) (iteO (s1.1 == 9) (some (.inr 4)) (iteO (s1.1 == 10) (some (.inr 4)) (iteO (s1.1 == 11) (some (.inr 4)) (iteO (s1.1 == 12) (some (.inr 4)) (iteO (s1.1 == 13) (some (.inr 4)) (iteO (s1.1 == 15) (some (.inr 5)) (iteO (decide (s1.1 ≥ 30)) (iteO (decide (s1.1 ≤ 42)) (some (.inr 2)) (some (.inr 0))) (some (.inr 0))))))))))))))))))
def F36 (N : Nat) (n : Node) : Option (Int) := whileN (S := Int × Int × ByteArray × Int × (List Node)) (F36_s1) N (n.op, n.sortf, n.name, n.num, n.kids)
@[push_cast] def ar30 : Rs Node := rsO rNode
@[push_cast] def v30 (r : Int) : AV := .int .i64 r
@[push_cast] def sh30 : Shp := .one (.leaf none)
noncomputable def t30 (N : Nat) : List AV → Option AV := TL ar30.e fun x => bindO (F36 N x) fun r => some (v30 r)
@[push_cast] def H55 : Nat → Hint
 | _ => ⟨[], [], []⟩
def F153 (op : Int) : Option ((List Int) × Bool) := iteO (op == 2) (some ([], true)) (iteO (op == 9) (some ([], true)) (iteO (op == 30) (some ([], true)) (iteO (op == 31) (some ([], true)) (iteO (op == 1) (some ([], true)) (iteO (op == 4) (some ([1, 1], true)) (iteO (op == 5) (some ([1, 1], true)) (iteO (op == 38) (some ([1, 1], true)) (iteO (op == 39) (some ([1, 1], true)) (iteO (op == 6) (some ([1], true)) (iteO (op == 7) (some ([1], true)) (iteO (op == 10) (some ([1], true)) (iteO (op == 11) (some ([4, 4], true)) (iteO (op == 12) (some ([4, 4], true)) (iteO (op == 13) (some ([4, 4], true)) (iteO (op == 41) (some ([4, 4], true)) (iteO (op == 40) (some ([1, 4], true)) (iteO (op == 14) (some ([5, 1], true)) (iteO (op == 15) (some ([5, 1, 1], true)) (iteO (op == 16) (some ([5], true)) (iteO (op == 32) (some ([2], true)) (iteO (op == 33) (some ([2, 2], true)) (iteO (op == 34) (some ([2, 2], true)) (iteO (op == 35) (some ([2, 2], true)) (iteO (op == 36) (some ([2, 2], true)) (some ([], false))))))))))))))))))))))))))
@[push_cast] def ar55 : Rs Int := rsO (rI .i64)
@[push_cast] def v55 (r : (List Int) × Bool) : AV := .tuple [.sl false 1 (List.map (cI .i64) r.1), .bool r.2]
@[push_cast] def sh55 : Shp := .tup [.leaf (some 1), .leaf none]
noncomputable def t55 : List AV → Option AV := TL ar55.e fun x => bindO (F153 x) fun r => some (v55 r)
@[push_cast] def H56 : Nat → Hint
 | 0 => ⟨[0, 1, 12, 13], [], []⟩
 | 1 => ⟨[], [0, 1, 12, 13], []⟩
 | _ => ⟨[], [], []⟩
def F154_s1 (s2q : List Int) (s3 : Unit) (i1 : Nat) (x2 : Int) : Option (Sum (Unit) (Bool)) := bindO (atO s2q (i1 : Int)) fun x4 => iteO (x2 == x4) (some (.inl ())) (some (.inr false))
def F154_f1  (s3 : Unit) : Option (Bool) := some true
def F154 (N : Nat) (s1q : List Int) (s2q : List Int) : Option (Bool) := iteO ((s1q.length : Int) == (s2q.length : Int)) (foldN (S := Unit) (F154_s1 s2q) (F154_f1) N s1q 0 ()) (some false)
@[push_cast] def ar56 : Rs ((List Int) × (List Int)) := rsC (rL 1 (cI .i64) (cI_inj .i64)) (rsO (rL 1 (cI .i64) (cI_inj .i64)))
@[push_cast] def v56 (r : Bool) : AV := .bool r
@[push_cast] def sh56 : Shp := .one (.leaf none)
noncomputable def t56 (N : Nat) : List AV → Option AV := TL ar56.e fun x => bindO (F154 N x.1 x.2) fun r => some (v56 r)
@[push_cast] def H41 : Nat → Hint
 | 0 => ⟨[1, 3, 14, 15, 16], [1, 3], []⟩
 | 1 => ⟨[], [1, 3, 14, 15, 16], []⟩
 | _ => ⟨[], [], []⟩
@[push_cast] def H57 : Nat → Hint
 | _ => ⟨[], [], []⟩
def F117_s1 (N : Nat) (s3 : List Int) (i1 : Nat) (x2 : Node) : Option (Sum (List Int) (Bool)) := bindO (F36 N x2) fun r4 => bindO (atO s3 (i1 : Int)) fun x5 => some (.inl (s3.set i1 r4))
def F117_f1 (N : Nat) (n : Node) (s3 : List Int) : Option (Bool) := bindO (F153 n.op) fun r6 => iteO r6.2 (bindO (F154 N s3 r6.1) fun r7 => some r7) (iteO (n.op == 8) (iteO (((s3.length : Int)) == 3) (bindO (atO s3 0) fun x8 => iteO (x8 == 2) (bindO (atO s3 1) fun x9 => bindO (atO s3 2) fun x10 => iteO (x9 == x10) (iteO (x9 == 1) (some true) (some (decide (x9 ≥ 3)))) (some false)) (some false)) (some false)) (iteO (n.op == 37) (iteO (((s3.length : Int)) == 2) (bindO (atO s3 0) fun x11 => bindO (atO s3 1) fun x12 => iteO (x11 == x12) (iteO (x11 == 1) (some true) (some (decide (x11 ≥ 3)))) (some false)) (some false)) (iteO (n.op == 3) (some (decide (((s3.length : Int)) ≤ 8))) (iteO (n.op == 42) (iteO (decide (((s3.length : Int)) ≥ 1)) (some (decide (((s3.length : Int)) ≤ 40))) (some false)) (some false)))))
def F117 (N : Nat) (n : Node) : Option (Bool) := iteO (decide (0 ≤ (n.kids.length : Int) ∧ (n.kids.length : Int) ≤ (n.kids.length : Int) ∧ (n.kids.length : Int) * 8 ≤ 140737488355328 ∧ (n.kids.length : Int) ≤ 9223372036854775807)) (foldN (S := List Int) (F117_s1 N) (F117_f1 N n) N n.kids 0 (List.replicate n.kids.length 0)) (none)
@[push_cast] def ar41 : Rs Node := rsO rNode
@[push_cast] def v41 (r : Bool) : AV := .bool r
@[push_cast] def sh41 : Shp := .one (.leaf none)
noncomputable def t41 (N : Nat) : List AV → Option AV := TL ar41.e fun x => bindO (F117 N x) fun r => some (v41 r)
@[push_cast] theorem t30_1 {N : Nat} (z1 : Int) (z2 : Int) (z3 : ByteArray) (z4 : Int) (z5 : List Node) : t30 N [.agg [.int .i64 z1, .int .i64 z2, .str z3, .int .i64 z4, .sl false 5 (List.map Node.cells z5)]] = bindO (F36 N (⟨z1, z2, z3, z4, z5⟩ : Node)) fun r => some (v30 r) :=
 TL_hit ar30.inj (⟨z1, z2, z3, z4, z5⟩ : Node) (by simp only [push_cast] <;> rfl)
@[push_cast] theorem t55_1 (z1 : Int) : t55 [.int .i64 z1] = bindO (F153 z1) fun r => some (v55 r) :=
 TL_hit ar55.inj z1 (by simp only [push_cast] <;> rfl)
@[push_cast] theorem t56_1 {N : Nat} (z1 : List Int) (z2 : List Int) : t56 N [.sl false 1 (List.map (cI .i64) z1), .sl false 1 (List.map (cI .i64) z2)] = bindO (F154 N z1 z2) fun r => some (v56 r) :=
 TL_hit ar56.inj (z1, z2) (by simp only [push_cast] <;> rfl)
@[push_cast] def H19 : Nat → Hint
 | 0 => ⟨[], [2], []⟩
 | 1 => ⟨[], [2], []⟩
 | _ => ⟨[], [], []⟩
def F71_s1 (N : Nat) (s3 : Unit) (x2 : Node) : Option (Sum (Unit) (Bool)) := bindO (F116 N x2) fun r4 => iteO r4 (bindO (F117 N x2) fun r5 => iteO r5 (some (.inl ())) (some (.inr false))) (some (.inr false))
def F71_f1  (s3 : Unit) : Option (Bool) := some true
def F71 (N : Nat) (n : Node) : Option (Bool) := bindO (walkO n) fun l1 => foldO (S := Unit) (F71_s1 N) (F71_f1) l1 ()
@[push_cast] def ar19 : Rs Node := rsO rNode
@[push_cast] def v19 (r : Bool) : AV := .bool r
@[push_cast] def sh19 : Shp := .one (.leaf none)
noncomputable def t19 (N : Nat) : List AV → Option AV := TL ar19.e fun x => bindO (F71 N x) fun r => some (v19 r)
@[push_cast] theorem t40_1 {N : Nat} (z1 : Int) (z2 : Int) (z3 : ByteArray) (z4 : Int) (z5 : List Node) : t40 N [.agg [.int .i64 z1, .int .i64 z2, .str z3, .int .i64 z4, .sl false 5 (List.map Node.cells z5)]] = bindO (F116 N (⟨z1, z2, z3, z4, z5⟩ : Node)) fun r => some (v40 r) :=
 TL_hit ar40.inj (⟨z1, z2, z3, z4, z5⟩ : Node) (by simp only [push_cast] <;> rfl)
@[push_cast] theorem t41_1 {N : Nat} (z1 : Int) (z2 : Int) (z3 : ByteArray) (z4 : Int) (z5 : List Node) : t41 N [.agg [.int .i64 z1, .int .i64 z2, .str z3, .int .i64 z4, .sl false 5 (List.map Node.cells z5)]] = bindO (F117 N (⟨z1, z2, z3, z4, z5⟩ : Node)) fun r => some (v41 r) :=
 TL_hit ar41.inj (⟨z1, z2, z3, z4, z5⟩ : Node) (by simp only [push_cast] <;> rfl)
@[push_cast] def H20 : Nat → Hint
 | 0 => ⟨[], [2], []⟩
 | 1 => ⟨[], [2, 3], []⟩
 | _ => ⟨[], [], []⟩
def F40_s1  (s3 : ByteArray → Option Int) (x2 : Node) : Option (Sum (ByteArray → Option Int) (Bool)) := iteO (x2.op == 3) (optO (s3 x2.name) (fun m4 => iteO ((x2.kids.length : Int) == 0) (iteO (m4 == (-4611686018427387904)) (iteO (x2.op == 1) (some (.inr false)) (some (.inl (putM s3 x2.name (-4611686018427387904))))) (some (.inr false))) (iteO (x2.op == 1) (iteO (m4 == (-4611686018427387904)) (some (.inr false)) (optO (s3 x2.name) (fun m5 => iteO (m5 == x2.sortf) (some (.inl (putM s3 x2.name x2.sortf))) (some (.inr false))) (some (.inl (putM s3 x2.name x2.sortf))))) (some (.inl s3)))) (iteO ((x2.kids.length : Int) == 0) (iteO (x2.op == 1) (optO ((putM s3 x2.name (-4611686018427387904)) x2.name) (fun m6 => iteO (m6 == x2.sortf) (some (.inl (putM (putM s3 x2.name (-4611686018427387904)) x2.name x2.sortf))) (some (.inr false))) (some (.inl (putM (putM s3 x2.name (-4611686018427387904)) x2.name x2.sortf)))) (some (.inl (putM s3 x2.name (-4611686018427387904))))) (iteO (x2.op == 1) (optO (s3 x2.name) (fun m7 => iteO (m7 == x2.sortf) (some (.inl (putM s3 x2.name x2.sortf))) (some (.inr false))) (some (.inl (putM s3 x2.name x2.sortf)))) (some (.inl s3))))) (optO (s3 x2.name) (fun m8 => iteO (x2.op == 1) (iteO (m8 == (-4611686018427387904)) (some (.inr false)) (optO (s3 x2.name) (fun m9 => iteO (m9 == x2.sortf) (some (.inl (putM s3 x2.name x2.sortf))) (some (.inr false))) (some (.inl (putM s3 x2.name x2.sortf))))) (some (.inl s3))) (iteO (x2.op == 1) (optO (s3 x2.name) (fun m10 => iteO (m10 == x2.sortf) (some (.inl (putM s3 x2.name x2.sortf))) (some (.inr false))) (some (.inl (putM s3 x2.name x2.sortf)))) (some (.inl s3))))
def F40_f1  (s3 : ByteArray → Option Int) : Option (Bool) := some true
def F40 (n : Node) : Option (Bool) := bindO (walkO n) fun l1 => foldO (S := ByteArray → Option Int) (F40_s1) (F40_f1) l1 (fun _ => none)
@[push_cast] def ar20 : Rs Node := rsO rNode
@[push_cast] def v20 (r : Bool) : AV := .bool r
@[push_cast] def sh20 : Shp := .one (.leaf none)
noncomputable def t20 : List AV → Option AV := TL ar20.e fun x => bindO (F40 x) fun r => some (v20 r)
theorem mk38 {E : Env} {fr : Fr} {σ : Store} {t : Nat} (hty : E.ty = tys) : run (aOp E fr σ t (.makeMap 38 none)) = some (.map σ.length, σ ++ [.map .string (mS (evI .i64) fun _ => none)]) := by
 rw [r_makeMap, hty, ← mS_empty (evI .i64)]
 simp only [push_cast, ty38, ty9] <;> rfl
@[push_cast] def H9 : Nat → Hint
 | _ => ⟨[], [], []⟩
def F14 (N : Nat) (n : Node) (sortq : Int) : Option (Int) := iteO (decide (sortq < 0)) (some 1) (iteO (decide (sortq > 5)) (some 1) (bindO (F70 N n) fun r1 => iteO r1 (bindO (F71 N n) fun r2 => iteO r2 (bindO (F40 n) fun r3 => iteO r3 (iteO (sortq == 0) (some 0) (bindO (F36 N n) fun r4 => iteO (r4 == sortq) (some 0) (some 10))) (some 3)) (some 3)) (some 2)))
@[push_cast] def ar9 : Rs (Node × Int) := rsC rNode (rsO (rI .i64))
@[push_cast] def v9 (r : Int) : AV := .int .i64 r
@[push_cast] def sh9 : Shp := .one (.leaf none)
noncomputable def t9 (N : Nat) : List AV → Option AV := TL ar9.e fun x => bindO (F14 N x.1 x.2) fun r => some (v9 r)
@[push_cast] theorem t13_1 {N : Nat} (z1 : Int) (z2 : Int) (z3 : ByteArray) (z4 : Int) (z5 : List Node) : t13 N [.agg [.int .i64 z1, .int .i64 z2, .str z3, .int .i64 z4, .sl false 5 (List.map Node.cells z5)]] = bindO (F70 N (⟨z1, z2, z3, z4, z5⟩ : Node)) fun r => some (v13 r) :=
 TL_hit ar13.inj (⟨z1, z2, z3, z4, z5⟩ : Node) (by simp only [push_cast] <;> rfl)
@[push_cast] theorem t19_1 {N : Nat} (z1 : Int) (z2 : Int) (z3 : ByteArray) (z4 : Int) (z5 : List Node) : t19 N [.agg [.int .i64 z1, .int .i64 z2, .str z3, .int .i64 z4, .sl false 5 (List.map Node.cells z5)]] = bindO (F71 N (⟨z1, z2, z3, z4, z5⟩ : Node)) fun r => some (v19 r) :=
 TL_hit ar19.inj (⟨z1, z2, z3, z4, z5⟩ : Node) (by simp only [push_cast] <;> rfl)
@[push_cast] theorem t20_1 (z1 : Int) (z2 : Int) (z3 : ByteArray) (z4 : Int) (z5 : List Node) : t20 [.agg [.int .i64 z1, .int .i64 z2, .str z3, .int .i64 z4, .sl false 5 (List.map Node.cells z5)]] = bindO (F40 (⟨z1, z2, z3, z4, z5⟩ : Node)) fun r => some (v20 r) :=
 TL_hit ar20.inj (⟨z1, z2, z3, z4, z5⟩ : Node) (by simp only [push_cast] <;> rfl)
@[push_cast] def H34 : Nat → Hint
 | _ => ⟨[], [], []⟩
def F78 (a : Int) (b : Int) : Option (Int) := iteO (decide (a < b)) (some (-1)) (iteO (decide (a > b)) (some 1) (some 0))
@[push_cast] def ar34 : Rs (Int × Int) := rsC (rI .i64) (rsO (rI .i64))
@[push_cast] def v34 (r : Int) : AV := .int .i64 r
@[push_cast] def sh34 : Shp := .one (.leaf none)
noncomputable def t34 : List AV → Option AV := TL ar34.e fun x => bindO (F78 x.1 x.2) fun r => some (v34 r)
@[push_cast] def H32 : Nat → Hint
 | _ => ⟨[], [], []⟩
def F94 (a : Decl) (b : Decl) : Option (Int) := bindO (F79 a.declName b.declName) fun r1 => iteO (r1 == 0) (bindO (F78 a.declSort b.declSort) fun r2 => some r2) (some r1)
@[push_cast] def ar32 : Rs (Decl × Decl) := rsC rDecl (rsO rDecl)
@[push_cast] def v32 (r : Int) : AV := .int .i64 r
@[push_cast] def sh32 : Shp := .one (.leaf none)
noncomputable def t32 : List AV → Option AV := TL ar32.e fun x => bindO (F94 x.1 x.2) fun r => some (v32 r)
@[push_cast] theorem t33_1 (z1 : ByteArray) (z2 : ByteArray) : t33 [.str z1, .str z2] = bindO (F79 z1 z2) fun r => some (v33 r) :=
 TL_hit ar33.inj (z1, z2) (by simp only [push_cast] <;> rfl)
@[push_cast] theorem t34_1 (z1 : Int) (z2 : Int) : t34 [.int .i64 z1, .int .i64 z2] = bindO (F78 z1 z2) fun r => some (v34 r) :=
 TL_hit ar34.inj (z1, z2) (by simp only [push_cast] <;> rfl)
@[push_cast] def H11 : Nat → Hint
 | 0 => ⟨[], [3], [.ownS 2 0 2]⟩
 | 1 => ⟨[], [3], []⟩
 | _ => ⟨[], [], []⟩
@[push_cast] def H31 : Nat → Hint
 | _ => ⟨[], [], []⟩
@[push_cast] def H51 : Nat → Hint
 | 0 => ⟨[0, 2, 4, 8, 9, 10], [0, 2, 4, 8, 9], []⟩
 | 1 => ⟨[], [0, 2, 4, 8, 9, 10], []⟩
 | _ => ⟨[], [], []⟩
def F46_s3 (s6 : List Decl) (x5 : Node) (s7 : Int × Int) : Option (Sum (Int × Int) (Sum (List Decl) (List Decl))) := iteO (decide (s7.2 < s7.1)) (bindO (atO s6 (IntKind.i64.wrap ((IntKind.u64.wrap (IntKind.i64.wrap (s7.2 + s7.1))).fdiv (2 ^ (min (1 : Int).toNat (IntKind.u64).bits))))) fun x8 => bindO (F94 x8 (⟨x5.name, x5.sortf⟩ : Decl)) fun r9 => iteO (decide (r9 < 0)) (some (.inl (s7.1, IntKind.i64.wrap ((IntKind.i64.wrap ((IntKind.u64.wrap (IntKind.i64.wrap (s7.2 + s7.1))).fdiv (2 ^ (min (1 : Int).toNat (IntKind.u64).bits)))) + 1)))) (some (.inl (IntKind.i64.wrap ((IntKind.u64.wrap (IntKind.i64.wrap (s7.2 + s7.1))).fdiv (2 ^ (min (1 : Int).toNat (IntKind.u64).bits))), s7.2)))) (iteO (decide (s7.2 < ((s6.length : Int)))) (bindO (atO s6 s7.2) fun x10 => bindO (F94 x10 (⟨x5.name, x5.sortf⟩ : Decl)) fun r11 => iteO (r11 == 0) (some (.inr (.inl s6))) (bindO (F139 s6 s7.2 ([(⟨x5.name, x5.sortf⟩ : Decl)])) fun r12 => some (.inr (.inl r12)))) (bindO (F139 s6 s7.2 ([(⟨x5.name, x5.sortf⟩ : Decl)])) fun r13 => some (.inr (.inl r13))))
def F46_s2 (N : Nat) (s6 : List Decl) (x5 : Node) : Option (Sum (List Decl) (List Decl)) := iteO (x5.op == 1) (whileN (S := Int × Int) (F46_s3 s6 x5) N (((s6.length : Int)), 0)) (some (.inl s6))
def F46_f2  (s6 : List Decl) : Option (List Decl) := some s6
def F46 (N : Nat) (n : Node) : Option (List Decl) := bindO (walkO n) fun l4 => foldO (S := List Decl) (F46_s2 N) (F46_f2) l4 ([])
@[push_cast] def ar11 : Rs Node := rsO rNode
@[push_cast] def v11 (r : List Decl) : AV := .sl false 2 (List.map Decl.cells r)
@[push_cast] def sh11 : Shp := .one (.leaf (some 2))
noncomputable def t11 (N : Nat) : List AV → Option AV := TL ar11.e fun x => bindO (F46 N x) fun r => some (v11 r)
@[push_cast] theorem t32_1 (z1 : ByteArray) (z2 : Int) (z3 : ByteArray) (z4 : Int) : t32 [.agg [.str z1, .int .i64 z2], .agg [.str z3, .int .i64 z4]] = bindO (F94 (⟨z1, z2⟩ : Decl) (⟨z3, z4⟩ : Decl)) fun r => some (v32 r) :=
 TL_hit ar32.inj ((⟨z1, z2⟩ : Decl), (⟨z3, z4⟩ : Decl)) (by simp only [push_cast] <;> rfl)
@[push_cast] def H4 : Nat → Hint
 | _ => ⟨[], [], []⟩
def F12 (N : Nat) : Option (Bool) := bindO (F14 N (⟨38, 0, (⟨#[]⟩ : ByteArray), 0, [(⟨1, 1, (⟨#[120]⟩ : ByteArray), 0, []⟩ : Node), (⟨2, 0, (⟨#[]⟩ : ByteArray), 1, []⟩ : Node)]⟩ : Node) 2) fun r1 => iteO (r1 == 0) (bindO (F37 (⟨38, 0, (⟨#[]⟩ : ByteArray), 0, [(⟨1, 1, (⟨#[120]⟩ : ByteArray), 0, []⟩ : Node), (⟨2, 0, (⟨#[]⟩ : ByteArray), 1, []⟩ : Node)]⟩ : Node)) fun r2 => iteO (r2 == 3) (bindO (F46 N (⟨38, 0, (⟨#[]⟩ : ByteArray), 0, [(⟨1, 1, (⟨#[120]⟩ : ByteArray), 0, []⟩ : Node), (⟨2, 0, (⟨#[]⟩ : ByteArray), 1, []⟩ : Node)]⟩ : Node)) fun r3 => some ((r3.length : Int) == 1)) (some false)) (some false)
@[push_cast] def ar4 : Rs Unit := rsN
@[push_cast] def v4 (r : Bool) : AV := .bool r
@[push_cast] def sh4 : Shp := .one (.leaf none)
noncomputable def t4 (N : Nat) : List AV → Option AV := TL ar4.e fun x => bindO (F12 N) fun r => some (v4 r)
@[push_cast] theorem t9_1 {N : Nat} (z1 : Int) (z2 : Int) (z3 : ByteArray) (z4 : Int) (z6 : Int) (z7 : Int) (z8 : ByteArray) (z9 : Int) (z11 : Int) (z12 : Int) (z13 : ByteArray) (z14 : Int) (z16 : Int) : t9 N [.agg [.int .i64 z1, .int .i64 z2, .str z3, .int .i64 z4, .sl true 5 [[.int .i64 z6, .int .i64 z7, .str z8, .int .i64 z9, .sl false 5 []], [.int .i64 z11, .int .i64 z12, .str z13, .int .i64 z14, .sl false 5 []]]], .int .i64 z16] = bindO (F14 N (⟨z1, z2, z3, z4, [(⟨z6, z7, z8, z9, []⟩ : Node), (⟨z11, z12, z13, z14, []⟩ : Node)]⟩ : Node) z16) fun r => some (v9 r) :=
 TL_hit ar9.inj ((⟨z1, z2, z3, z4, [(⟨z6, z7, z8, z9, []⟩ : Node), (⟨z11, z12, z13, z14, []⟩ : Node)]⟩ : Node), z16) (by simp only [push_cast] <;> rfl)
@[push_cast] theorem t9_2 {N : Nat} (z1 : Int) (z2 : Int) (z3 : ByteArray) (z4 : Int) (z6 : Int) (z7 : Int) (z8 : ByteArray) (z9 : Int) (z11 : Int) (z12 : Int) (z13 : ByteArray) (z14 : Int) (z16 : Int) : t9 N [.agg [.int .i64 z1, .int .i64 z2, .str z3, .int .i64 z4, .sl false 5 [[.int .i64 z6, .int .i64 z7, .str z8, .int .i64 z9, .sl false 5 []], [.int .i64 z11, .int .i64 z12, .str z13, .int .i64 z14, .sl false 5 []]]], .int .i64 z16] = bindO (F14 N (⟨z1, z2, z3, z4, [(⟨z6, z7, z8, z9, []⟩ : Node), (⟨z11, z12, z13, z14, []⟩ : Node)]⟩ : Node) z16) fun r => some (v9 r) :=
 TL_hit ar9.inj ((⟨z1, z2, z3, z4, [(⟨z6, z7, z8, z9, []⟩ : Node), (⟨z11, z12, z13, z14, []⟩ : Node)]⟩ : Node), z16) (by simp only [push_cast] <;> rfl)
@[push_cast] theorem t10_2 (z1 : Int) (z2 : Int) (z3 : ByteArray) (z4 : Int) (z6 : Int) (z7 : Int) (z8 : ByteArray) (z9 : Int) (z11 : Int) (z12 : Int) (z13 : ByteArray) (z14 : Int) : t10 [.agg [.int .i64 z1, .int .i64 z2, .str z3, .int .i64 z4, .sl true 5 [[.int .i64 z6, .int .i64 z7, .str z8, .int .i64 z9, .sl false 5 []], [.int .i64 z11, .int .i64 z12, .str z13, .int .i64 z14, .sl false 5 []]]]] = bindO (F37 (⟨z1, z2, z3, z4, [(⟨z6, z7, z8, z9, []⟩ : Node), (⟨z11, z12, z13, z14, []⟩ : Node)]⟩ : Node)) fun r => some (v10 r) :=
 TL_hit ar10.inj (⟨z1, z2, z3, z4, [(⟨z6, z7, z8, z9, []⟩ : Node), (⟨z11, z12, z13, z14, []⟩ : Node)]⟩ : Node) (by simp only [push_cast] <;> rfl)
@[push_cast] theorem t10_3 (z1 : Int) (z2 : Int) (z3 : ByteArray) (z4 : Int) (z6 : Int) (z7 : Int) (z8 : ByteArray) (z9 : Int) (z11 : Int) (z12 : Int) (z13 : ByteArray) (z14 : Int) : t10 [.agg [.int .i64 z1, .int .i64 z2, .str z3, .int .i64 z4, .sl false 5 [[.int .i64 z6, .int .i64 z7, .str z8, .int .i64 z9, .sl false 5 []], [.int .i64 z11, .int .i64 z12, .str z13, .int .i64 z14, .sl false 5 []]]]] = bindO (F37 (⟨z1, z2, z3, z4, [(⟨z6, z7, z8, z9, []⟩ : Node), (⟨z11, z12, z13, z14, []⟩ : Node)]⟩ : Node)) fun r => some (v10 r) :=
 TL_hit ar10.inj (⟨z1, z2, z3, z4, [(⟨z6, z7, z8, z9, []⟩ : Node), (⟨z11, z12, z13, z14, []⟩ : Node)]⟩ : Node) (by simp only [push_cast] <;> rfl)
@[push_cast] theorem t11_1 {N : Nat} (z1 : Int) (z2 : Int) (z3 : ByteArray) (z4 : Int) (z6 : Int) (z7 : Int) (z8 : ByteArray) (z9 : Int) (z11 : Int) (z12 : Int) (z13 : ByteArray) (z14 : Int) : t11 N [.agg [.int .i64 z1, .int .i64 z2, .str z3, .int .i64 z4, .sl true 5 [[.int .i64 z6, .int .i64 z7, .str z8, .int .i64 z9, .sl false 5 []], [.int .i64 z11, .int .i64 z12, .str z13, .int .i64 z14, .sl false 5 []]]]] = bindO (F46 N (⟨z1, z2, z3, z4, [(⟨z6, z7, z8, z9, []⟩ : Node), (⟨z11, z12, z13, z14, []⟩ : Node)]⟩ : Node)) fun r => some (v11 r) :=
 TL_hit ar11.inj (⟨z1, z2, z3, z4, [(⟨z6, z7, z8, z9, []⟩ : Node), (⟨z11, z12, z13, z14, []⟩ : Node)]⟩ : Node) (by simp only [push_cast] <;> rfl)
@[push_cast] theorem t11_2 {N : Nat} (z1 : Int) (z2 : Int) (z3 : ByteArray) (z4 : Int) (z6 : Int) (z7 : Int) (z8 : ByteArray) (z9 : Int) (z11 : Int) (z12 : Int) (z13 : ByteArray) (z14 : Int) : t11 N [.agg [.int .i64 z1, .int .i64 z2, .str z3, .int .i64 z4, .sl false 5 [[.int .i64 z6, .int .i64 z7, .str z8, .int .i64 z9, .sl false 5 []], [.int .i64 z11, .int .i64 z12, .str z13, .int .i64 z14, .sl false 5 []]]]] = bindO (F46 N (⟨z1, z2, z3, z4, [(⟨z6, z7, z8, z9, []⟩ : Node), (⟨z11, z12, z13, z14, []⟩ : Node)]⟩ : Node)) fun r => some (v11 r) :=
 TL_hit ar11.inj (⟨z1, z2, z3, z4, [(⟨z6, z7, z8, z9, []⟩ : Node), (⟨z11, z12, z13, z14, []⟩ : Node)]⟩ : Node) (by simp only [push_cast] <;> rfl)
@[push_cast] def H12 : Nat → Hint
 | 0 => ⟨[3, 7, 8, 9], [3], []⟩
 | 1 => ⟨[], [3, 7, 8, 9], []⟩
 | _ => ⟨[], [], []⟩
def F27_s1 (self12 : Node → Option (Int)) (s3 : Int) (i1 : Nat) (x2 : Node) : Option (Sum (Int) (Int)) := bindO (self12 x2) fun r4 => some (.inl (IntKind.i64.wrap (s3 + r4)))
def F27_f1  (s3 : Int) : Option (Int) := some s3
def F27b (self12 : Node → Option (Int)) (N : Nat) (n : Node) : Option (Int) := foldN (S := Int) (F27_s1 self12) (F27_f1) N n.kids 0 1
def F27 : Nat → Node → Option (Int)
 | 0 => fun _ => none
 | N + 1 => fun n => F27b (F27 N) N n
@[push_cast] def ar12 : Rs Node := rsO rNode
@[push_cast] def v12 (r : Int) : AV := .int .i64 r
@[push_cast] def sh12 : Shp := .one (.leaf none)
noncomputable def t12 (N : Nat) : List AV → Option AV := TL ar12.e fun x => bindO (F27 N x) fun r => some (v12 r)
noncomputable def ts12 (self12 : Node → Option (Int)) : List AV → Option AV := TL ar12.e fun x => bindO (self12 x) fun r => some (v12 r)
@[push_cast] theorem t12_1 (self12 : Node → Option (Int)) (z1 : Int) (z2 : Int) (z3 : ByteArray) (z4 : Int) (z5 : List Node) : ts12 self12 [.agg [.int .i64 z1, .int .i64 z2, .str z3, .int .i64 z4, .sl false 5 (List.map Node.cells z5)]] = bindO (self12 (⟨z1, z2, z3, z4, z5⟩ : Node)) fun r => some (v12 r) :=
 TL_hit ar12.inj (⟨z1, z2, z3, z4, z5⟩ : Node) (by simp only [push_cast] <;> rfl)
@[push_cast] def H5 : Nat → Hint
 | 0 => ⟨[0, 7, 8, 9], [0], []⟩
 | 1 => ⟨[], [0, 7, 8, 9], []⟩
 | _ => ⟨[], [], []⟩
def F13_s1 (N : Nat) (s3 : Int) (i1 : Nat) (x2 : Node) : Option (Sum (Int) (Bool)) := bindO (F27 N x2) fun r4 => some (.inl (IntKind.i64.wrap (s3 - r4)))
def F13_f1  (s3 : Int) : Option (Bool) := some (decide (s3 ≥ 0))
def F13 (N : Nat) (most : Int) (l : List Node) : Option (Bool) := foldN (S := Int) (F13_s1 N) (F13_f1) N l 0 most
@[push_cast] def ar5 : Rs (Int × (List Node)) := rsC (rI .i64) (rsO (rL 5 Node.cells Node.cells_inj))
@[push_cast] def v5 (r : Bool) : AV := .bool r
@[push_cast] def sh5 : Shp := .one (.leaf none)
noncomputable def t5 (N : Nat) : List AV → Option AV := TL ar5.e fun x => bindO (F13 N x.1 x.2) fun r => some (v5 r)
@[push_cast] theorem t12_2 {N : Nat} (z1 : Int) (z2 : Int) (z3 : ByteArray) (z4 : Int) (z5 : List Node) : t12 N [.agg [.int .i64 z1, .int .i64 z2, .str z3, .int .i64 z4, .sl false 5 (List.map Node.cells z5)]] = bindO (F27 N (⟨z1, z2, z3, z4, z5⟩ : Node)) fun r => some (v12 r) :=
 TL_hit ar12.inj (⟨z1, z2, z3, z4, z5⟩ : Node) (by simp only [push_cast] <;> rfl)
@[push_cast] def H2000 : Nat → Hint
 | _ => ⟨[], [], []⟩
def F1390 (u1 : Node) (h2 : ByteArray → Option Int) (h3 : ByteArray → Option Sig) : Option (Int) := iteO (u1.op == 1) (optO (h3 u1.name) (fun m2 => optO (h2 u1.name) (fun m3 => some 0) (iteO ((m2.sigArgs.length : Int) == 0) (some 0) (some 4))) (optO (h2 u1.name) (fun m4 => some 0) (some 4))) (iteO (u1.op == 3) (optO (h3 u1.name) (fun m1 => some 0) (some 4)) (some 0))
@[push_cast] def ar2000 : Ra ((Node) × (Unit)) := raK (.ptr 0 0) (wkc_ptr _ _) (raC rNode (raN))
@[push_cast] def st2000 : Rt ((Unit) × ((ByteArray → Option Int) × ((ByteArray → Option Sig) × (Unit)))) := rtC (oVar (rcK (.map 1) (wkl_map _) (rcK (.map 2) (wkl_map _) (rcN)))) (rtC (oMapS (evI .i64) (evI_inj .i64)) (rtC (oMapS (evA Sig.cells) (evA_inj Sig.cells_inj)) (rtN)))
@[push_cast] def v2000 (u1 : Node) (h2 : ByteArray → Option Int) (h3 : ByteArray → Option Sig) (r : Int) : AV := .int .i64 r
@[push_cast] def so2000 (u1 : Node) (h2 : ByteArray → Option Int) (h3 : ByteArray → Option Sig) (r : Int) : Store := [.var [.map 1, .map 2], .map .string (mS (evI .i64) h2), .map .string (mS (evA Sig.cells) h3)]
@[push_cast] def sh2000 : Shp := .one (.leaf none)
@[push_cast] def sw2000 : List ShO := [.var [none, none], .any, .any]
noncomputable def t2000 : List AV → Store → Option (AV × Store) := TLS (fun x : ((Node) × (Unit)) × ((Unit) × ((ByteArray → Option Int) × ((ByteArray → Option Sig) × (Unit)))) => ar2000.e x.1) (fun x => st2000.e x.2) fun x => bindO (F1390 x.1.1 x.2.2.1 x.2.2.2.1) fun r => some (v2000 x.1.1 x.2.2.1 x.2.2.2.1 r, so2000 x.1.1 x.2.2.1 x.2.2.2.1 r)
@[push_cast] def H2001 : Nat → Hint
 | 0 => ⟨[0, 3, 4, 5, 15, 16, 17], [0, 3, 4, 5], []⟩
 | 1 => ⟨[], [0, 3, 4, 5, 15, 16, 17], []⟩
 | 2 => ⟨[], [3, 4], []⟩
 | _ => ⟨[], [], []⟩
def F1391_s1 (self2001 : Node → (ByteArray → Option Int) → (ByteArray → Option Sig) → Option (Node)) (h2 : ByteArray → Option Int) (h3 : ByteArray → Option Sig) (s3 : List Node) (i1 : Nat) (x2 : Node) : Option (Sum (List Node) (Node)) := bindO (self2001 x2 h2 h3) fun r4 => iteO (fits (s3.length + 1) 64) (some (.inl (s3 ++ ([r4])))) (none)
def F1391_f1 (N : Nat) (h2 : ByteArray → Option Int) (h3 : ByteArray → Option Sig) (u1 : Node) (s3 : List Node) : Option (Node) := iteO (u1.op == 1) (optO (h2 u1.name) (fun m5 => some (⟨u1.op, m5, u1.name, u1.num, s3⟩ : Node)) (optO (h3 u1.name) (fun m6 => some (⟨3, m6.sigSort, u1.name, u1.num, s3⟩ : Node)) (some (⟨3, 0, u1.name, u1.num, s3⟩ : Node)))) (iteO (u1.op == 3) (optO (h3 u1.name) (fun m7 => some (⟨u1.op, m7.sigSort, u1.name, u1.num, s3⟩ : Node)) (some (⟨u1.op, 0, u1.name, u1.num, s3⟩ : Node))) (iteO (u1.op == 37) (iteO (((s3.length : Int)) == 2) (bindO (atO s3 0) fun x8 => bindO (F36 N x8) fun r9 => iteO (r9 == 2) (bindO (atO s3 1) fun x10 => bindO (F36 N x10) fun r11 => iteO (r11 == 2) (some (⟨36, u1.sortf, u1.name, u1.num, s3⟩ : Node)) (some (⟨u1.op, u1.sortf, u1.name, u1.num, s3⟩ : Node))) (some (⟨u1.op, u1.sortf, u1.name, u1.num, s3⟩ : Node))) (some (⟨u1.op, u1.sortf, u1.name, u1.num, s3⟩ : Node))) (some (⟨u1.op, u1.sortf, u1.name, u1.num, s3⟩ : Node))))
def F1391b (self2001 : Node → (ByteArray → Option Int) → (ByteArray → Option Sig) → Option (Node)) (N : Nat) (u1 : Node) (h2 : ByteArray → Option Int) (h3 : ByteArray → Option Sig) : Option (Node) := iteO (decide (0 ≤ 0 ∧ 0 ≤ (u1.kids.length : Int) ∧ (u1.kids.length : Int) * 64 ≤ 140737488355328 ∧ (u1.kids.length : Int) ≤ 9223372036854775807)) (foldN (S := List Node) (F1391_s1 self2001 h2 h3) (F1391_f1 N h2 h3 u1) N u1.kids 0 ([])) (none)
def F1391 : Nat → Node → (ByteArray → Option Int) → (ByteArray → Option Sig) → Option (Node)
 | 0 => fun _ _ _ => none
 | N + 1 => fun u1 h2 h3 => F1391b (F1391 N) N u1 h2 h3
@[push_cast] def ar2001 : Ra ((Node) × (Unit)) := raK (.ptr 0 0) (wkc_ptr _ _) (raC rNode (raN))
@[push_cast] def st2001 : Rt ((Unit) × ((ByteArray → Option Int) × ((ByteArray → Option Sig) × (Unit)))) := rtC (oVar (rcK (.map 1) (wkl_map _) (rcK (.map 2) (wkl_map _) (rcN)))) (rtC (oMapS (evI .i64) (evI_inj .i64)) (rtC (oMapS (evA Sig.cells) (evA_inj Sig.cells_inj)) (rtN)))
@[push_cast] def v2001 (u1 : Node) (h2 : ByteArray → Option Int) (h3 : ByteArray → Option Sig) (r : Node) : AV := .agg [.int .i64 r.op, .int .i64 r.sortf, .str r.name, .int .i64 r.num, .sl false 5 (List.map Node.cells r.kids)]
@[push_cast] def so2001 (u1 : Node) (h2 : ByteArray → Option Int) (h3 : ByteArray → Option Sig) (r : Node) : Store := [.var [.map 1, .map 2], .map .string (mS (evI .i64) h2), .map .string (mS (evA Sig.cells) h3)]
@[push_cast] def sh2001 : Shp := .one (.agg [none, none, none, none, some 5])
@[push_cast] def sw2001 : List ShO := [.var [none, none], .any, .any]
noncomputable def t2001 (N : Nat) : List AV → Store → Option (AV × Store) := TLS (fun x : ((Node) × (Unit)) × ((Unit) × ((ByteArray → Option Int) × ((ByteArray → Option Sig) × (Unit)))) => ar2001.e x.1) (fun x => st2001.e x.2) fun x => bindO (F1391 N x.1.1 x.2.2.1 x.2.2.2.1) fun r => some (v2001 x.1.1 x.2.2.1 x.2.2.2.1 r, so2001 x.1.1 x.2.2.1 x.2.2.2.1 r)
noncomputable def ts2001 (self2001 : Node → (ByteArray → Option Int) → (ByteArray → Option Sig) → Option (Node)) : List AV → Store → Option (AV × Store) := TLS (fun x : ((Node) × (Unit)) × ((Unit) × ((ByteArray → Option Int) × ((ByteArray → Option Sig) × (Unit)))) => ar2001.e x.1) (fun x => st2001.e x.2) fun x => bindO (self2001 x.1.1 x.2.2.1 x.2.2.2.1) fun r => some (v2001 x.1.1 x.2.2.1 x.2.2.2.1 r, so2001 x.1.1 x.2.2.1 x.2.2.2.1 r)
@[push_cast] theorem t2001_1 (self2001 : Node → (ByteArray → Option Int) → (ByteArray → Option Sig) → Option (Node)) (z1 : Int) (z2 : Int) (z3 : ByteArray) (z4 : Int) (z5 : List Node) (z6 : ByteArray → Option Int) (z7 : ByteArray → Option Sig) (z8 : AObj) (z9 : AObj) (z10 : AObj) (z11 : AObj) : lensRun 3 [.keep, .keep] (ts2001 self2001) [.ptr 0 0, .agg [.int .i64 z1, .int .i64 z2, .str z3, .int .i64 z4, .sl false 5 (List.map Node.cells z5)]] [.var [.map 1, .map 2], .map .string (mS (evI .i64) z6), .map .string (mS (evA Sig.cells) z7), z8, z9, z10, z11] = bindO (self2001 (⟨z1, z2, z3, z4, z5⟩ : Node) z6 z7) fun r => some (.agg [.int .i64 r.op, .int .i64 r.sortf, .str r.name, .int .i64 r.num, .sl false 5 (List.map Node.cells r.kids)], [.var [.map 1, .map 2], .map .string (mS (evI .i64) z6), .map .string (mS (evA Sig.cells) z7), z8, z9, z10, z11]) :=
 lens_hit (X := ((Node) × (Unit)) × ((Unit) × ((ByteArray → Option Int) × ((ByteArray → Option Sig) × (Unit))))) (F := fun x => self2001 x.1.1 x.2.2.1 x.2.2.2.1) (v := fun x r => v2001 x.1.1 x.2.2.1 x.2.2.2.1 r) (so := fun x r => so2001 x.1.1 x.2.2.1 x.2.2.2.1 r) (args2 := [.ptr 0 0, .agg [.int .i64 z1, .int .i64 z2, .str z3, .int .i64 z4, .sl false 5 (List.map Node.cells z5)]]) (σ2 := [.var [.map 1, .map 2], .map .string (mS (evI .i64) z6), .map .string (mS (evA Sig.cells) z7), z8, z9, z10, z11]) (ras_inj ar2001 st2001) [some 0, some 1, some 2] (((⟨z1, z2, z3, z4, z5⟩ : Node), ()), ((), (z6, (z7, ())))) rfl rfl rfl (by (try simp only [push_cast]) <;> rfl) (by (try simp only [push_cast]) <;> rfl) (fun _ => (by (try simp only [push_cast]) <;> rfl)) (fun _ => (by (try simp only [push_cast]) <;> rfl)) (fun _ => rfl)
@[push_cast] def H2002 : Nat → Hint
 | 0 => ⟨[], [4], []⟩
 | 1 => ⟨[], [2, 4], []⟩
 | 2 => ⟨[2, 4, 5, 35, 36, 37], [2, 4], []⟩
 | 3 => ⟨[], [2, 4, 5, 35, 36, 37], []⟩
 | _ => ⟨[], [], []⟩
def F1392_s2 (N : Nat) (x2 : Node) (s8 : Unit) (i6 : Nat) (x7 : Int) : Option (Sum (Unit) (Sum Unit Bool)) := bindO (atO x2.kids (i6 : Int)) fun x9 => bindO (F36 N x9) fun r10 => iteO (x7 == 0) (iteO (r10 == 2) (some (.inr (.inr false))) (some (.inl ()))) (iteO (r10 == x7) (some (.inl ())) (some (.inr (.inr false))))
def F1392_f2  (s8 : Unit) : Option (Sum Unit Bool) := some (.inl ())
def F1392_s3  (s13 : Unit) (i11 : Nat) (x12 : Nat) : Option (Sum (Unit) (Sum Unit Bool)) := none
def F1392_f3  (s13 : Unit) : Option (Sum Unit Bool) := some (.inl ())
def F1392_s4 (N : Nat) (x2 : Node) (s17 : Unit) (i15 : Nat) (x16 : Int) : Option (Sum (Unit) (Sum Unit Bool)) := bindO (atO x2.kids (i15 : Int)) fun x18 => bindO (F36 N x18) fun r19 => iteO (x16 == 0) (iteO (r19 == 2) (some (.inr (.inr false))) (some (.inl ()))) (iteO (r19 == x16) (some (.inl ())) (some (.inr (.inr false))))
def F1392_f4  (s17 : Unit) : Option (Sum Unit Bool) := some (.inl ())
def F1392_s5  (s22 : Unit) (i20 : Nat) (x21 : Nat) : Option (Sum (Unit) (Sum Unit Bool)) := none
def F1392_f5  (s22 : Unit) : Option (Sum Unit Bool) := some (.inl ())
def F1392_s1 (N : Nat) (h3 : ByteArray → Option Sig) (s3 : Unit) (x2 : Node) : Option (Sum (Unit) (Bool)) := iteO (x2.op == 3) (optO (h3 x2.name) (fun m4 => iteO ((x2.kids.length : Int) == (m4.sigArgs.length : Int)) (optO (h3 x2.name) (fun m5 => foldN (S := Unit) (F1392_s2 N x2) (F1392_f2) N m5.sigArgs 0 ()) (foldN (S := Unit) (F1392_s3) (F1392_f3) N (List.range (0 : Int).toNat) 0 ())) (some (.inr false))) (iteO ((x2.kids.length : Int) == 0) (optO (h3 x2.name) (fun m14 => foldN (S := Unit) (F1392_s4 N x2) (F1392_f4) N m14.sigArgs 0 ()) (foldN (S := Unit) (F1392_s5) (F1392_f5) N (List.range (0 : Int).toNat) 0 ())) (some (.inr false)))) (some (.inl ()))
def F1392_f1  (s3 : Unit) : Option (Bool) := some true
def F1392 (N : Nat) (u1 : Node) (h2 : ByteArray → Option Int) (h3 : ByteArray → Option Sig) : Option (Bool) := bindO (walkO u1) fun l1 => foldO (S := Unit) (F1392_s1 N h3) (F1392_f1) l1 ()
@[push_cast] def ar2002 : Ra ((Node) × (Unit)) := raK (.ptr 0 0) (wkc_ptr _ _) (raC rNode (raN))
@[push_cast] def st2002 : Rt ((Unit) × ((ByteArray → Option Int) × ((ByteArray → Option Sig) × (Unit)))) := rtC (oVar (rcK (.map 1) (wkl_map _) (rcK (.map 2) (wkl_map _) (rcN)))) (rtC (oMapS (evI .i64) (evI_inj .i64)) (rtC (oMapS (evA Sig.cells) (evA_inj Sig.cells_inj)) (rtN)))
@[push_cast] def v2002 (u1 : Node) (h2 : ByteArray → Option Int) (h3 : ByteArray → Option Sig) (r : Bool) : AV := .bool r
@[push_cast] def so2002 (u1 : Node) (h2 : ByteArray → Option Int) (h3 : ByteArray → Option Sig) (r : Bool) : Store := [.var [.map 1, .map 2], .map .string (mS (evI .i64) h2), .map .string (mS (evA Sig.cells) h3)]
@[push_cast] def sh2002 : Shp := .one (.leaf none)
@[push_cast] def sw2002 : List ShO := [.var [none, none], .any, .any]
noncomputable def t2002 (N : Nat) : List AV → Store → Option (AV × Store) := TLS (fun x : ((Node) × (Unit)) × ((Unit) × ((ByteArray → Option Int) × ((ByteArray → Option Sig) × (Unit)))) => ar2002.e x.1) (fun x => st2002.e x.2) fun x => bindO (F1392 N x.1.1 x.2.2.1 x.2.2.2.1) fun r => some (v2002 x.1.1 x.2.2.1 x.2.2.2.1 r, so2002 x.1.1 x.2.2.1 x.2.2.2.1 r)
@[push_cast] def H6 : Nat → Hint
 | 0 => ⟨[], [2, 3, 6, 7, 8], []⟩
 | 1 => ⟨[], [2, 3, 6, 7, 8], []⟩
 | 2 => ⟨[], [3, 6, 7, 8], []⟩
 | 3 => ⟨[], [3, 6, 7, 8], []⟩
 | 4 => ⟨[], [3, 6, 7, 8], []⟩
 | 5 => ⟨[], [3, 6, 7, 8], []⟩
 | 6 => ⟨[], [3, 6, 7, 8], []⟩
 | 7 => ⟨[], [3, 6, 7, 8], []⟩
 | _ => ⟨[], [], []⟩
def F54_s1  (s4 : ByteArray → Option Int) (x3 : Int × Decl) : Option (Sum (ByteArray → Option Int) (Node × Int)) := some (.inl (putM s4 x3.2.declName x3.2.declSort))
def F54_s2  (s7 : ByteArray → Option Sig) (x6 : Int × Sig) : Option (Sum (ByteArray → Option Sig) (Node × Int)) := some (.inl (putM s7 x6.2.sigName x6.2))
def F54_s3 (s4 : ByteArray → Option Int) (s7 : ByteArray → Option Sig) (s10 : Unit) (x9 : Node) : Option (Sum (Unit) (Node × Int)) := bindO (F1390 x9 s4 s7) fun r11 => iteO (r11 == 0) (some (.inl ())) (some (.inr ((⟨0, 0, (⟨#[]⟩ : ByteArray), 0, []⟩ : Node), r11)))
def F54_s4 (s7 : ByteArray → Option Sig) (s14 : Unit) (x13 : Node) : Option (Sum (Unit) (Node × Int)) := optO (s7 x13.name) (fun m15 => iteO (x13.op == 3) (iteO ((x13.kids.length : Int) == (m15.sigArgs.length : Int)) (some (.inl ())) (some (.inr ((⟨0, 0, (⟨#[]⟩ : ByteArray), 0, []⟩ : Node), 3)))) (some (.inl ()))) (iteO (x13.op == 3) (iteO ((x13.kids.length : Int) == 0) (some (.inl ())) (some (.inr ((⟨0, 0, (⟨#[]⟩ : ByteArray), 0, []⟩ : Node), 3)))) (some (.inl ())))
def F54_f4 (N : Nat) (n : Node) (s4 : ByteArray → Option Int) (s7 : ByteArray → Option Sig) (s14 : Unit) : Option (Node × Int) := bindO (F1391 N n s4 s7) fun r16 => bindO (F70 N r16) fun r17 => iteO r17 (bindO (F71 N r16) fun r18 => iteO r18 (bindO (F40 r16) fun r19 => iteO r19 (bindO (F1392 N r16 s4 s7) fun r20 => iteO r20 (some (r16, 0)) (some ((⟨0, 0, (⟨#[]⟩ : ByteArray), 0, []⟩ : Node), 3))) (some ((⟨0, 0, (⟨#[]⟩ : ByteArray), 0, []⟩ : Node), 3))) (some ((⟨0, 0, (⟨#[]⟩ : ByteArray), 0, []⟩ : Node), 3))) (some ((⟨0, 0, (⟨#[]⟩ : ByteArray), 0, []⟩ : Node), 3))
def F54_f3 (N : Nat) (n : Node) (s4 : ByteArray → Option Int) (s7 : ByteArray → Option Sig) (s10 : Unit) : Option (Node × Int) := bindO (walkO n) fun l12 => foldO (S := Unit) (F54_s4 s7) (F54_f4 N n s4 s7) l12 ()
def F54_f2 (N : Nat) (n : Node) (s4 : ByteArray → Option Int) (s7 : ByteArray → Option Sig) : Option (Node × Int) := bindO (walkO n) fun l8 => foldO (S := Unit) (F54_s3 s4 s7) (F54_f3 N n s4 s7) l8 ()
def F54_f1 (N : Nat) (n : Node) (sigs : List Sig) (s4 : ByteArray → Option Int) : Option (Node × Int) := bindO (backO sigs) fun l5 => foldO (S := ByteArray → Option Sig) (F54_s2) (F54_f2 N n s4) l5 (fun _ => none)
def F54 (N : Nat) (n : Node) (vars : List Decl) (sigs : List Sig) : Option (Node × Int) := bindO (F70 N n) fun r1 => iteO r1 (bindO (backO vars) fun l2 => foldO (S := ByteArray → Option Int) (F54_s1) (F54_f1 N n sigs) l2 (fun _ => none)) (some ((⟨0, 0, (⟨#[]⟩ : ByteArray), 0, []⟩ : Node), 2))
@[push_cast] def ar6 : Rs (Node × (List Decl) × (List Sig)) := rsC rNode (rsC (rL 2 Decl.cells Decl.cells_inj) (rsO (rL 3 Sig.cells Sig.cells_inj)))
@[push_cast] def v6 (r : Node × Int) : AV := .tuple [.agg (Node.cells r.1), .int .i64 r.2]
@[push_cast] def sh6 : Shp := .tup [.agg [none, none, none, none, some 5], .leaf none]
noncomputable def t6 (N : Nat) : List AV → Option AV := TL ar6.e fun x => bindO (F54 N x.1 x.2.1 x.2.2) fun r => some (v6 r)
@[push_cast] theorem t2000_1 (z1 : Int) (z2 : Int) (z3 : ByteArray) (z4 : Int) (z5 : List Node) (z6 : AObj) (z7 : AObj) (z8 : AObj) (z9 : ByteArray → Option Int) (z10 : ByteArray → Option Sig) (z11 : AObj) : lensRun 3 [.keep, .keep] (t2000) [.ptr 5 0, .agg [.int .i64 z1, .int .i64 z2, .str z3, .int .i64 z4, .sl false 5 (List.map Node.cells z5)]] [z6, z7, z8, .map .string (mS (evI .i64) z9), .map .string (mS (evA Sig.cells) z10), .var [.map 3, .map 4], z11] = bindO (F1390 (⟨z1, z2, z3, z4, z5⟩ : Node) z9 z10) fun r => some (.int .i64 r, [z6, z7, z8, .map .string (mS (evI .i64) z9), .map .string (mS (evA Sig.cells) z10), .var [.map 3, .map 4], z11]) :=
 lens_hit (X := ((Node) × (Unit)) × ((Unit) × ((ByteArray → Option Int) × ((ByteArray → Option Sig) × (Unit))))) (F := fun x => F1390 x.1.1 x.2.2.1 x.2.2.2.1) (v := fun x r => v2000 x.1.1 x.2.2.1 x.2.2.2.1 r) (so := fun x r => so2000 x.1.1 x.2.2.1 x.2.2.2.1 r) (args2 := [.ptr 5 0, .agg [.int .i64 z1, .int .i64 z2, .str z3, .int .i64 z4, .sl false 5 (List.map Node.cells z5)]]) (σ2 := [z6, z7, z8, .map .string (mS (evI .i64) z9), .map .string (mS (evA Sig.cells) z10), .var [.map 3, .map 4], z11]) (ras_inj ar2000 st2000) [some 5, some 3, some 4] (((⟨z1, z2, z3, z4, z5⟩ : Node), ()), ((), (z9, (z10, ())))) rfl rfl rfl (by (try simp only [push_cast]) <;> rfl) (by (try simp only [push_cast]) <;> rfl) (fun _ => (by (try simp only [push_cast]) <;> rfl)) (fun _ => (by (try simp only [push_cast]) <;> rfl)) (fun _ => rfl)
@[push_cast] theorem t2001_2 {N : Nat} (z1 : Int) (z2 : Int) (z3 : ByteArray) (z4 : Int) (z5 : List Node) (z6 : AObj) (z7 : AObj) (z8 : AObj) (z9 : ByteArray → Option Int) (z10 : ByteArray → Option Sig) : lensRun 3 [.keep, .keep] (t2001 N) [.ptr 5 0, .agg [.int .i64 z1, .int .i64 z2, .str z3, .int .i64 z4, .sl false 5 (List.map Node.cells z5)]] [z6, z7, z8, .map .string (mS (evI .i64) z9), .map .string (mS (evA Sig.cells) z10), .var [.map 3, .map 4]] = bindO (F1391 N (⟨z1, z2, z3, z4, z5⟩ : Node) z9 z10) fun r => some (.agg [.int .i64 r.op, .int .i64 r.sortf, .str r.name, .int .i64 r.num, .sl false 5 (List.map Node.cells r.kids)], [z6, z7, z8, .map .string (mS (evI .i64) z9), .map .string (mS (evA Sig.cells) z10), .var [.map 3, .map 4]]) :=
 lens_hit (X := ((Node) × (Unit)) × ((Unit) × ((ByteArray → Option Int) × ((ByteArray → Option Sig) × (Unit))))) (F := fun x => F1391 N x.1.1 x.2.2.1 x.2.2.2.1) (v := fun x r => v2001 x.1.1 x.2.2.1 x.2.2.2.1 r) (so := fun x r => so2001 x.1.1 x.2.2.1 x.2.2.2.1 r) (args2 := [.ptr 5 0, .agg [.int .i64 z1, .int .i64 z2, .str z3, .int .i64 z4, .sl false 5 (List.map Node.cells z5)]]) (σ2 := [z6, z7, z8, .map .string (mS (evI .i64) z9), .map .string (mS (evA Sig.cells) z10), .var [.map 3, .map 4]]) (ras_inj ar2001 st2001) [some 5, some 3, some 4] (((⟨z1, z2, z3, z4, z5⟩ : Node), ()), ((), (z9, (z10, ())))) rfl rfl rfl (by (try simp only [push_cast]) <;> rfl) (by (try simp only [push_cast]) <;> rfl) (fun _ => (by (try simp only [push_cast]) <;> rfl)) (fun _ => (by (try simp only [push_cast]) <;> rfl)) (fun _ => rfl)
@[push_cast] theorem t2002_1 {N : Nat} (z1 : Int) (z2 : Int) (z3 : ByteArray) (z4 : Int) (z5 : List Node) (z6 : AObj) (z7 : AObj) (z8 : AObj) (z9 : ByteArray → Option Int) (z10 : ByteArray → Option Sig) (z11 : AObj) : lensRun 3 [.keep, .keep] (t2002 N) [.ptr 5 0, .agg [.int .i64 z1, .int .i64 z2, .str z3, .int .i64 z4, .sl false 5 (List.map Node.cells z5)]] [z6, z7, z8, .map .string (mS (evI .i64) z9), .map .string (mS (evA Sig.cells) z10), .var [.map 3, .map 4], z11] = bindO (F1392 N (⟨z1, z2, z3, z4, z5⟩ : Node) z9 z10) fun r => some (.bool r, [z6, z7, z8, .map .string (mS (evI .i64) z9), .map .string (mS (evA Sig.cells) z10), .var [.map 3, .map 4], z11]) :=
 lens_hit (X := ((Node) × (Unit)) × ((Unit) × ((ByteArray → Option Int) × ((ByteArray → Option Sig) × (Unit))))) (F := fun x => F1392 N x.1.1 x.2.2.1 x.2.2.2.1) (v := fun x r => v2002 x.1.1 x.2.2.1 x.2.2.2.1 r) (so := fun x r => so2002 x.1.1 x.2.2.1 x.2.2.2.1 r) (args2 := [.ptr 5 0, .agg [.int .i64 z1, .int .i64 z2, .str z3, .int .i64 z4, .sl false 5 (List.map Node.cells z5)]]) (σ2 := [z6, z7, z8, .map .string (mS (evI .i64) z9), .map .string (mS (evA Sig.cells) z10), .var [.map 3, .map 4], z11]) (ras_inj ar2002 st2002) [some 5, some 3, some 4] (((⟨z1, z2, z3, z4, z5⟩ : Node), ()), ((), (z9, (z10, ())))) rfl rfl rfl (by (try simp only [push_cast]) <;> rfl) (by (try simp only [push_cast]) <;> rfl) (fun _ => (by (try simp only [push_cast]) <;> rfl)) (fun _ => (by (try simp only [push_cast]) <;> rfl)) (fun _ => rfl)
theorem mk39 {E : Env} {fr : Fr} {σ : Store} {t : Nat} (hty : E.ty = tys) : run (aOp E fr σ t (.makeMap 39 none)) = some (.map σ.length, σ ++ [.map .string (mS (evA Sig.cells) fun _ => none)]) := by
 rw [r_makeMap, hty, ← mS_empty (evA Sig.cells)]
 simp only [push_cast, ty39, ty9] <;> rfl
@[push_cast] theorem put39 (m : ByteArray → Option Sig) (b : ByteArray) (z1 : ByteArray) (z2 : List Int) (z3 : Int) : mapPut (mS (evA Sig.cells) m) (.s b) (.agg [.str z1, .sl false 1 (List.map (cI .i64) z2), .int .i64 z3]) = mS (evA Sig.cells) (putM m b (⟨z1, z2, z3⟩ : Sig)) := mS_put (evA Sig.cells) m b (⟨z1, z2, z3⟩ : Sig)
@[push_cast] def H22 : Nat → Hint
 | 0 => ⟨[3, 7, 8, 9], [3], []⟩
 | 1 => ⟨[], [3, 7, 8, 9], []⟩
 | _ => ⟨[], [], []⟩
def F39_s1 (self22 : Node → Option (Int)) (s3 : Int) (i1 : Nat) (x2 : Node) : Option (Sum (Int) (Int)) := bindO (self22 x2) fun r4 => some (.inl (max s3 r4))
def F39_f1  (s3 : Int) : Option (Int) := some (IntKind.i64.wrap (s3 + 1))
def F39b (self22 : Node → Option (Int)) (N : Nat) (n : Node) : Option (Int) := foldN (S := Int) (F39_s1 self22) (F39_f1) N n.kids 0 0
def F39 : Nat → Node → Option (Int)
 | 0 => fun _ => none
 | N + 1 => fun n => F39b (F39 N) N n
@[push_cast] def ar22 : Rs Node := rsO rNode
@[push_cast] def v22 (r : Int) : AV := .int .i64 r
@[push_cast] def sh22 : Shp := .one (.leaf none)
noncomputable def t22 (N : Nat) : List AV → Option AV := TL ar22.e fun x => bindO (F39 N x) fun r => some (v22 r)
noncomputable def ts22 (self22 : Node → Option (Int)) : List AV → Option AV := TL ar22.e fun x => bindO (self22 x) fun r => some (v22 r)
@[push_cast] theorem t22_1 (self22 : Node → Option (Int)) (z1 : Int) (z2 : Int) (z3 : ByteArray) (z4 : Int) (z5 : List Node) : ts22 self22 [.agg [.int .i64 z1, .int .i64 z2, .str z3, .int .i64 z4, .sl false 5 (List.map Node.cells z5)]] = bindO (self22 (⟨z1, z2, z3, z4, z5⟩ : Node)) fun r => some (v22 r) :=
 TL_hit ar22.inj (⟨z1, z2, z3, z4, z5⟩ : Node) (by simp only [push_cast] <;> rfl)
@[push_cast] def H42 : Nat → Hint
 | 0 => ⟨[0, 8, 9, 10], [], []⟩
 | 1 => ⟨[], [0, 8, 9, 10], []⟩
 | _ => ⟨[], [], []⟩
def F146_s1 (name : ByteArray) (s3 : Unit) (i1 : Nat) (x2 : Decl) : Option (Sum (Unit) (Int × Bool)) := iteO (x2.declName.toList == name.toList) (some (.inr (x2.declSort, true))) (some (.inl ()))
def F146_f1  (s3 : Unit) : Option (Int × Bool) := some (0, false)
def F146 (N : Nat) (name : ByteArray) (vars : List Decl) : Option (Int × Bool) := foldN (S := Unit) (F146_s1 name) (F146_f1) N vars 0 ()
@[push_cast] def ar42 : Rs (ByteArray × (List Decl)) := rsC rS (rsO (rL 2 Decl.cells Decl.cells_inj))
@[push_cast] def v42 (r : Int × Bool) : AV := .tuple [.int .i64 r.1, .bool r.2]
@[push_cast] def sh42 : Shp := .tup [.leaf none, .leaf none]
noncomputable def t42 (N : Nat) : List AV → Option AV := TL ar42.e fun x => bindO (F146 N x.1 x.2) fun r => some (v42 r)
@[push_cast] def H43 : Nat → Hint
 | 0 => ⟨[0, 4, 8, 9, 10], [4], []⟩
 | 1 => ⟨[], [0, 4, 8, 9, 10], []⟩
 | _ => ⟨[], [], []⟩
def F147_s1 (name : ByteArray) (s3 : Unit) (i1 : Nat) (x2 : Sig) : Option (Sum (Unit) (Sig × Bool)) := iteO (x2.sigName.toList == name.toList) (some (.inr (x2, true))) (some (.inl ()))
def F147_f1  (s3 : Unit) : Option (Sig × Bool) := some ((⟨(⟨#[]⟩ : ByteArray), [], 0⟩ : Sig), false)
def F147 (N : Nat) (name : ByteArray) (sigs : List Sig) : Option (Sig × Bool) := foldN (S := Unit) (F147_s1 name) (F147_f1) N sigs 0 ()
@[push_cast] def ar43 : Rs (ByteArray × (List Sig)) := rsC rS (rsO (rL 3 Sig.cells Sig.cells_inj))
@[push_cast] def v43 (r : Sig × Bool) : AV := .tuple [.agg (Sig.cells r.1), .bool r.2]
@[push_cast] def sh43 : Shp := .tup [.agg [none, some 1, none], .leaf none]
noncomputable def t43 (N : Nat) : List AV → Option AV := TL ar43.e fun x => bindO (F147 N x.1 x.2) fun r => some (v43 r)
@[push_cast] def H23 : Nat → Hint
 | 0 => ⟨[1, 2, 57, 58, 59], [], []⟩
 | 1 => ⟨[], [1, 2, 57, 58, 59], []⟩
 | _ => ⟨[], [], []⟩
def F103_s3 (self23 : Node → (List Decl) → (List Sig) → Option (Bool)) (sigs : List Sig) (vars : List Decl) (s15 : Unit) (i13 : Nat) (x14 : Node) : Option (Sum (Unit) (Bool)) := bindO (self23 x14 vars sigs) fun r16 => iteO r16 (some (.inr true)) (some (.inl ()))
def F103_f3  (s15 : Unit) : Option (Bool) := some false
def F103_s4 (self23 : Node → (List Decl) → (List Sig) → Option (Bool)) (sigs : List Sig) (vars : List Decl) (s19 : Unit) (i17 : Nat) (x18 : Node) : Option (Sum (Unit) (Bool)) := bindO (self23 x18 vars sigs) fun r20 => iteO r20 (some (.inr true)) (some (.inl ()))
def F103_f4  (s19 : Unit) : Option (Bool) := some false
def F103_s1 (self23 : Node → (List Decl) → (List Sig) → Option (Bool)) (sigs : List Sig) (vars : List Decl) (s6 : Unit) (i4 : Nat) (x5 : Node) : Option (Sum (Unit) (Bool)) := bindO (self23 x5 vars sigs) fun r7 => iteO r7 (some (.inr true)) (some (.inl ()))
def F103_f1  (s6 : Unit) : Option (Bool) := some false
def F103_s2 (self23 : Node → (List Decl) → (List Sig) → Option (Bool)) (sigs : List Sig) (vars : List Decl) (s10 : Unit) (i8 : Nat) (x9 : Node) : Option (Sum (Unit) (Bool)) := bindO (self23 x9 vars sigs) fun r11 => iteO r11 (some (.inr true)) (some (.inl ()))
def F103_f2  (s10 : Unit) : Option (Bool) := some false
def F103_s5 (self23 : Node → (List Decl) → (List Sig) → Option (Bool)) (sigs : List Sig) (vars : List Decl) (s24 : Unit) (i22 : Nat) (x23 : Node) : Option (Sum (Unit) (Bool)) := bindO (self23 x23 vars sigs) fun r25 => iteO r25 (some (.inr true)) (some (.inl ()))
def F103_f5  (s24 : Unit) : Option (Bool) := some false
def F103_s6 (self23 : Node → (List Decl) → (List Sig) → Option (Bool)) (sigs : List Sig) (vars : List Decl) (s28 : Unit) (i26 : Nat) (x27 : Node) : Option (Sum (Unit) (Bool)) := bindO (self23 x27 vars sigs) fun r29 => iteO r29 (some (.inr true)) (some (.inl ()))
def F103_f6  (s28 : Unit) : Option (Bool) := some false
def F103b (self23 : Node → (List Decl) → (List Sig) → Option (Bool)) (N : Nat) (n : Node) (vars : List Decl) (sigs : List Sig) : Option (Bool) := iteO (n.op == 1) (bindO (F146 N n.name vars) fun r1 => bindO (F147 N n.name sigs) fun r2 => iteO r1.2 (iteO (n.op == 3) (bindO (F147 N n.name sigs) fun r12 => iteO r12.2 (foldN (S := Unit) (F103_s3 self23 sigs vars) (F103_f3) N n.kids 0 ()) (some true)) (foldN (S := Unit) (F103_s4 self23 sigs vars) (F103_f4) N n.kids 0 ())) (iteO r2.2 (iteO (decide ((r2.1.sigArgs.length : Int) > 0)) (some true) (iteO (n.op == 3) (bindO (F147 N n.name sigs) fun r3 => iteO r3.2 (foldN (S := Unit) (F103_s1 self23 sigs vars) (F103_f1) N n.kids 0 ()) (some true)) (foldN (S := Unit) (F103_s2 self23 sigs vars) (F103_f2) N n.kids 0 ()))) (some true))) (iteO (n.op == 3) (bindO (F147 N n.name sigs) fun r21 => iteO r21.2 (foldN (S := Unit) (F103_s5 self23 sigs vars) (F103_f5) N n.kids 0 ()) (some true)) (foldN (S := Unit) (F103_s6 self23 sigs vars) (F103_f6) N n.kids 0 ()))
def F103 : Nat → Node → (List Decl) → (List Sig) → Option (Bool)
 | 0 => fun _ _ _ => none
 | N + 1 => fun n vars sigs => F103b (F103 N) N n vars sigs
@[push_cast] def ar23 : Rs (Node × (List Decl) × (List Sig)) := rsC rNode (rsC (rL 2 Decl.cells Decl.cells_inj) (rsO (rL 3 Sig.cells Sig.cells_inj)))
@[push_cast] def v23 (r : Bool) : AV := .bool r
@[push_cast] def sh23 : Shp := .one (.leaf none)
noncomputable def t23 (N : Nat) : List AV → Option AV := TL ar23.e fun x => bindO (F103 N x.1 x.2.1 x.2.2) fun r => some (v23 r)
noncomputable def ts23 (self23 : Node → (List Decl) → (List Sig) → Option (Bool)) : List AV → Option AV := TL ar23.e fun x => bindO (self23 x.1 x.2.1 x.2.2) fun r => some (v23 r)
@[push_cast] theorem t42_1 {N : Nat} (z1 : ByteArray) (z2 : List Decl) : t42 N [.str z1, .sl false 2 (List.map Decl.cells z2)] = bindO (F146 N z1 z2) fun r => some (v42 r) :=
 TL_hit ar42.inj (z1, z2) (by simp only [push_cast] <;> rfl)
@[push_cast] theorem t43_1 {N : Nat} (z1 : ByteArray) (z2 : List Sig) : t43 N [.str z1, .sl false 3 (List.map Sig.cells z2)] = bindO (F147 N z1 z2) fun r => some (v43 r) :=
 TL_hit ar43.inj (z1, z2) (by simp only [push_cast] <;> rfl)
@[push_cast] theorem t23_1 (self23 : Node → (List Decl) → (List Sig) → Option (Bool)) (z1 : Int) (z2 : Int) (z3 : ByteArray) (z4 : Int) (z5 : List Node) (z6 : List Decl) (z7 : List Sig) : ts23 self23 [.agg [.int .i64 z1, .int .i64 z2, .str z3, .int .i64 z4, .sl false 5 (List.map Node.cells z5)], .sl false 2 (List.map Decl.cells z6), .sl false 3 (List.map Sig.cells z7)] = bindO (self23 (⟨z1, z2, z3, z4, z5⟩ : Node) z6 z7) fun r => some (v23 r) :=
 TL_hit ar23.inj ((⟨z1, z2, z3, z4, z5⟩ : Node), z6, z7) (by simp only [push_cast] <;> rfl)
@[push_cast] def H24 : Nat → Hint
 | 0 => ⟨[1, 36, 37, 38], [], []⟩
 | 1 => ⟨[], [1, 36, 37, 38], []⟩
 | _ => ⟨[], [], []⟩
def F104_s1 (self24 : Node → (List Sig) → Option (Bool)) (sigs : List Sig) (s4 : Unit) (i2 : Nat) (x3 : Node) : Option (Sum (Unit) (Bool)) := bindO (self24 x3 sigs) fun r5 => iteO r5 (some (.inr true)) (some (.inl ()))
def F104_f1  (s4 : Unit) : Option (Bool) := some false
def F104_s2 (self24 : Node → (List Sig) → Option (Bool)) (sigs : List Sig) (s8 : Unit) (i6 : Nat) (x7 : Node) : Option (Sum (Unit) (Bool)) := bindO (self24 x7 sigs) fun r9 => iteO r9 (some (.inr true)) (some (.inl ()))
def F104_f2  (s8 : Unit) : Option (Bool) := some false
def F104_s3 (self24 : Node → (List Sig) → Option (Bool)) (sigs : List Sig) (s13 : Unit) (i11 : Nat) (x12 : Node) : Option (Sum (Unit) (Bool)) := bindO (self24 x12 sigs) fun r14 => iteO r14 (some (.inr true)) (some (.inl ()))
def F104_f3  (s13 : Unit) : Option (Bool) := some false
def F104_s4 (self24 : Node → (List Sig) → Option (Bool)) (sigs : List Sig) (s17 : Unit) (i15 : Nat) (x16 : Node) : Option (Sum (Unit) (Bool)) := bindO (self24 x16 sigs) fun r18 => iteO r18 (some (.inr true)) (some (.inl ()))
def F104_f4  (s17 : Unit) : Option (Bool) := some false
def F104b (self24 : Node → (List Sig) → Option (Bool)) (N : Nat) (n : Node) (sigs : List Sig) : Option (Bool) := iteO (n.op == 1) (iteO (decide ((n.kids.length : Int) > 0)) (some true) (iteO (n.op == 3) (bindO (F147 N n.name sigs) fun r1 => iteO ((r1.1.sigArgs.length : Int) == (n.kids.length : Int)) (foldN (S := Unit) (F104_s1 self24 sigs) (F104_f1) N n.kids 0 ()) (some true)) (foldN (S := Unit) (F104_s2 self24 sigs) (F104_f2) N n.kids 0 ()))) (iteO (n.op == 3) (bindO (F147 N n.name sigs) fun r10 => iteO ((r10.1.sigArgs.length : Int) == (n.kids.length : Int)) (foldN (S := Unit) (F104_s3 self24 sigs) (F104_f3) N n.kids 0 ()) (some true)) (foldN (S := Unit) (F104_s4 self24 sigs) (F104_f4) N n.kids 0 ()))
def F104 : Nat → Node → (List Sig) → Option (Bool)
 | 0 => fun _ _ => none
 | N + 1 => fun n sigs => F104b (F104 N) N n sigs
@[push_cast] def ar24 : Rs (Node × (List Sig)) := rsC rNode (rsO (rL 3 Sig.cells Sig.cells_inj))
@[push_cast] def v24 (r : Bool) : AV := .bool r
@[push_cast] def sh24 : Shp := .one (.leaf none)
noncomputable def t24 (N : Nat) : List AV → Option AV := TL ar24.e fun x => bindO (F104 N x.1 x.2) fun r => some (v24 r)
noncomputable def ts24 (self24 : Node → (List Sig) → Option (Bool)) : List AV → Option AV := TL ar24.e fun x => bindO (self24 x.1 x.2) fun r => some (v24 r)
@[push_cast] theorem t24_1 (self24 : Node → (List Sig) → Option (Bool)) (z1 : Int) (z2 : Int) (z3 : ByteArray) (z4 : Int) (z5 : List Node) (z6 : List Sig) : ts24 self24 [.agg [.int .i64 z1, .int .i64 z2, .str z3, .int .i64 z4, .sl false 5 (List.map Node.cells z5)], .sl false 3 (List.map Sig.cells z6)] = bindO (self24 (⟨z1, z2, z3, z4, z5⟩ : Node) z6) fun r => some (v24 r) :=
 TL_hit ar24.inj ((⟨z1, z2, z3, z4, z5⟩ : Node), z6) (by simp only [push_cast] <;> rfl)
@[push_cast] def H44 : Nat → Hint
 | 0 => ⟨[], [1], []⟩
 | _ => ⟨[], [], []⟩
def F28b (self44 : Node → Option (Int)) (N : Nat) (n : Node) : Option (Int) := iteO (n.op == 1) (some n.sortf) (iteO (n.op == 3) (some n.sortf) (iteO (n.op == 2) (some 1) (iteO (n.op == 4) (some 1) (iteO (n.op == 5) (some 1) (iteO (n.op == 6) (some 1) (iteO (n.op == 7) (some 1) (iteO (n.op == 14) (some 1) (iteO (n.op == 16) (some 1) (iteO (n.op == 8) (iteO (decide ((n.kids.length : Int) < 2)) (some 0) (bindO (atO n.kids 1) fun x1 => bindO (self44 x1) fun r2 => some r2)) (iteO (n.op == 9) (some 4) (iteO (n.op == 10) (some 4) (iteO (n.op == 11) (some 4) (iteO (n.op == 12) (some 4) (iteO (n.op == 13) (some 4) (iteO (n.op == 15) (some 5) (iteO (decide (n.op ≥ 30)) (iteO (decide (n.op ≤ 42)) (some 2) (some 0)) (some 0)))))))))))))))))
def F28 : Nat → Node → Option (Int)
 | 0 => fun _ => none
 | N + 1 => fun n => F28b (F28 N) N n
@[push_cast] def ar44 : Rs Node := rsO rNode
@[push_cast] def v44 (r : Int) : AV := .int .i64 r
@[push_cast] def sh44 : Shp := .one (.leaf none)
noncomputable def t44 (N : Nat) : List AV → Option AV := TL ar44.e fun x => bindO (F28 N x) fun r => some (v44 r)
noncomputable def ts44 (self44 : Node → Option (Int)) : List AV → Option AV := TL ar44.e fun x => bindO (self44 x) fun r => some (v44 r)
@[push_cast] theorem t44_1 (self44 : Node → Option (Int)) (z1 : Int) (z2 : Int) (z3 : ByteArray) (z4 : Int) (z5 : List Node) : ts44 self44 [.agg [.int .i64 z1, .int .i64 z2, .str z3, .int .i64 z4, .sl false 5 (List.map Node.cells z5)]] = bindO (self44 (⟨z1, z2, z3, z4, z5⟩ : Node)) fun r => some (v44 r) :=
 TL_hit ar44.inj (⟨z1, z2, z3, z4, z5⟩ : Node) (by simp only [push_cast] <;> rfl)
@[push_cast] def H25 : Nat → Hint
 | 0 => ⟨[1, 2, 3, 6, 7, 27, 28, 29], [1, 2, 3, 6, 7], [.ownS 2 4 5]⟩
 | 1 => ⟨[], [1, 2, 3, 6, 7, 27, 28, 29], []⟩
 | 2 => ⟨[], [6, 7], []⟩
 | _ => ⟨[], [], []⟩
@[push_cast] def ali25 : Nat → List (Nat × Nat)
 | 15 => [(66, 68)]
 | _ => []
def F105_s2 (self25 : Node → (List Decl) → (List Sig) → Option (Node)) (sigs : List Sig) (vars : List Decl) (s6 : List Node) (i4 : Nat) (x5 : Node) : Option (Sum (List Node) (Node)) := bindO (self25 x5 vars sigs) fun r7 => iteO (fits (s6.length + 1) 64) (some (.inl (s6 ++ ([r7])))) (none)
def F105_f2 (N : Nat) (n : Node) (sigs : List Sig) (vars : List Decl) (s6 : List Node) : Option (Node) := iteO (n.op == 1) (bindO (F146 N n.name vars) fun r8 => iteO r8.2 (some (⟨n.op, r8.1, n.name, n.num, s6⟩ : Node)) (bindO (F147 N n.name sigs) fun r9 => some (⟨3, r9.1.sigSort, n.name, n.num, s6⟩ : Node))) (iteO (n.op == 3) (bindO (F147 N n.name sigs) fun r10 => some (⟨n.op, r10.1.sigSort, n.name, n.num, s6⟩ : Node)) (iteO (n.op == 37) (iteO (((s6.length : Int)) == 2) (bindO (atO s6 0) fun x11 => bindO (F28 N x11) fun r12 => iteO (r12 == 2) (bindO (atO s6 1) fun x13 => bindO (F28 N x13) fun r14 => iteO (r14 == 2) (some (⟨36, n.sortf, n.name, n.num, s6⟩ : Node)) (some (⟨n.op, n.sortf, n.name, n.num, s6⟩ : Node))) (some (⟨n.op, n.sortf, n.name, n.num, s6⟩ : Node))) (some (⟨n.op, n.sortf, n.name, n.num, s6⟩ : Node))) (some (⟨n.op, n.sortf, n.name, n.num, s6⟩ : Node))))
def F105b (self25 : Node → (List Decl) → (List Sig) → Option (Node)) (N : Nat) (n : Node) (vars : List Decl) (sigs : List Sig) : Option (Node) := foldN (S := List Node) (F105_s2 self25 sigs vars) (F105_f2 N n sigs vars) N n.kids 0 ([])
def F105 : Nat → Node → (List Decl) → (List Sig) → Option (Node)
 | 0 => fun _ _ _ => none
 | N + 1 => fun n vars sigs => F105b (F105 N) N n vars sigs
@[push_cast] def ar25 : Rs (Node × (List Decl) × (List Sig)) := rsC rNode (rsC (rL 2 Decl.cells Decl.cells_inj) (rsO (rL 3 Sig.cells Sig.cells_inj)))
@[push_cast] def v25 (r : Node) : AV := .agg (Node.cells r)
@[push_cast] def sh25 : Shp := .one (.agg [none, none, none, none, some 5])
noncomputable def t25 (N : Nat) : List AV → Option AV := TL ar25.e fun x => bindO (F105 N x.1 x.2.1 x.2.2) fun r => some (v25 r)
noncomputable def ts25 (self25 : Node → (List Decl) → (List Sig) → Option (Node)) : List AV → Option AV := TL ar25.e fun x => bindO (self25 x.1 x.2.1 x.2.2) fun r => some (v25 r)
@[push_cast] theorem t25_1 (self25 : Node → (List Decl) → (List Sig) → Option (Node)) (z1 : Int) (z2 : Int) (z3 : ByteArray) (z4 : Int) (z5 : List Node) (z6 : List Decl) (z7 : List Sig) : ts25 self25 [.agg [.int .i64 z1, .int .i64 z2, .str z3, .int .i64 z4, .sl false 5 (List.map Node.cells z5)], .sl false 2 (List.map Decl.cells z6), .sl false 3 (List.map Sig.cells z7)] = bindO (self25 (⟨z1, z2, z3, z4, z5⟩ : Node) z6 z7) fun r => some (v25 r) :=
 TL_hit ar25.inj ((⟨z1, z2, z3, z4, z5⟩ : Node), z6, z7) (by simp only [push_cast] <;> rfl)
@[push_cast] theorem t44_2 {N : Nat} (z1 : Int) (z2 : Int) (z3 : ByteArray) (z4 : Int) (z5 : List Node) : t44 N [.agg [.int .i64 z1, .int .i64 z2, .str z3, .int .i64 z4, .sl false 5 (List.map Node.cells z5)]] = bindO (F28 N (⟨z1, z2, z3, z4, z5⟩ : Node)) fun r => some (v44 r) :=
 TL_hit ar44.inj (⟨z1, z2, z3, z4, z5⟩ : Node) (by simp only [push_cast] <;> rfl)
@[push_cast] def H65 : Nat → Hint
 | _ => ⟨[], [], []⟩
def F75 (c : Int) : Option (Bool) := iteO (decide (c ≥ 97)) (iteO (decide (c ≤ 122)) (some true) (iteO (decide (c ≥ 65)) (some (decide (c ≤ 90))) (some false))) (iteO (decide (c ≥ 65)) (some (decide (c ≤ 90))) (some false))
@[push_cast] def ar65 : Rs Int := rsO (rI .u8)
@[push_cast] def v65 (r : Bool) : AV := .bool r
@[push_cast] def sh65 : Shp := .one (.leaf none)
noncomputable def t65 : List AV → Option AV := TL ar65.e fun x => bindO (F75 x) fun r => some (v65 r)
@[push_cast] def H70 : Nat → Hint
 | _ => ⟨[], [], []⟩
def F121  : Option (List ByteArray) := some ([(⟨#[116, 114, 117, 101]⟩ : ByteArray), (⟨#[102, 97, 108, 115, 101]⟩ : ByteArray), (⟨#[105, 110]⟩ : ByteArray), (⟨#[115, 117, 98]⟩ : ByteArray), (⟨#[101, 109, 112, 116, 121]⟩ : ByteArray), (⟨#[115, 105, 110, 103]⟩ : ByteArray), (⟨#[99, 117, 112]⟩ : ByteArray), (⟨#[99, 97, 112]⟩ : ByteArray), (⟨#[100, 105, 102, 102]⟩ : ByteArray), (⟨#[115, 101, 108]⟩ : ByteArray), (⟨#[115, 116, 111]⟩ : ByteArray), (⟨#[118, 108, 101, 110]⟩ : ByteArray), (⟨#[105, 116, 101]⟩ : ByteArray)])
@[push_cast] def ar70 : Rs Unit := rsN
@[push_cast] def v70 (r : List ByteArray) : AV := .sl false 1 (List.map cS r)
@[push_cast] def sh70 : Shp := .one (.leaf (some 1))
noncomputable def t70 : List AV → Option AV := TL ar70.e fun x => bindO (F121) fun r => some (v70 r)
@[push_cast] def H66 : Nat → Hint
 | 0 => ⟨[0, 5, 6, 7], [], []⟩
 | 1 => ⟨[], [0, 5, 6, 7], []⟩
 | _ => ⟨[], [], []⟩
def F76_s1 (s : ByteArray) (s4 : Unit) (i2 : Nat) (x3 : ByteArray) : Option (Sum (Unit) (Bool)) := iteO (x3.toList == s.toList) (some (.inr true)) (some (.inl ()))
def F76_f1  (s4 : Unit) : Option (Bool) := some false
def F76 (N : Nat) (s : ByteArray) : Option (Bool) := bindO (F121) fun r1 => foldN (S := Unit) (F76_s1 s) (F76_f1) N r1 0 ()
@[push_cast] def ar66 : Rs ByteArray := rsO rS
@[push_cast] def v66 (r : Bool) : AV := .bool r
@[push_cast] def sh66 : Shp := .one (.leaf none)
noncomputable def t66 (N : Nat) : List AV → Option AV := TL ar66.e fun x => bindO (F76 N x) fun r => some (v66 r)
@[push_cast] theorem t70_1  : t70 [] = bindO (F121) fun r => some (v70 r) :=
 TL_hit ar70.inj () (by simp only [push_cast] <;> rfl)
@[push_cast] def H67 : Nat → Hint
 | _ => ⟨[], [], []⟩
def F77 (c : Int) : Option (Bool) := iteO (decide (c ≥ 48)) (some (decide (c ≤ 57))) (some false)
@[push_cast] def ar67 : Rs Int := rsO (rI .u8)
@[push_cast] def v67 (r : Bool) : AV := .bool r
@[push_cast] def sh67 : Shp := .one (.leaf none)
noncomputable def t67 : List AV → Option AV := TL ar67.e fun x => bindO (F77 x) fun r => some (v67 r)
@[push_cast] def H58 : Nat → Hint
 | 0 => ⟨[0, 3], [], []⟩
 | 1 => ⟨[], [0, 3], []⟩
 | _ => ⟨[], [], []⟩
def F17_s1 (s : ByteArray) (s3 : Int) : Option (Sum (Int) (Bool)) := iteO (decide (s3 < (s.size : Int))) (iteO (inB s3 s.size) (bindO (F75 (bt s s3)) fun r4 => iteO r4 (some (.inl (IntKind.i64.wrap (s3 + 1)))) (bindO (F77 (bt s s3)) fun r5 => iteO r5 (some (.inl (IntKind.i64.wrap (s3 + 1)))) (iteO ((bt s s3) == 46) (some (.inl (IntKind.i64.wrap (s3 + 1)))) (some (.inr false))))) (none)) (some (.inr true))
def F17 (N : Nat) (s : ByteArray) : Option (Bool) := iteO ((s.size : Int) == 0) (some false) (iteO (decide ((s.size : Int) > 24)) (some false) (iteO (inB 0 s.size) (bindO (F75 (bt s 0)) fun r1 => iteO r1 (bindO (F76 N s) fun r2 => iteO r2 (some false) (whileN (S := Int) (F17_s1 s) N 1)) (some false)) (none)))
@[push_cast] def ar58 : Rs ByteArray := rsO rS
@[push_cast] def v58 (r : Bool) : AV := .bool r
@[push_cast] def sh58 : Shp := .one (.leaf none)
noncomputable def t58 (N : Nat) : List AV → Option AV := TL ar58.e fun x => bindO (F17 N x) fun r => some (v58 r)
@[push_cast] theorem t65_1 (z1 : Int) : t65 [.int .u8 z1] = bindO (F75 z1) fun r => some (v65 r) :=
 TL_hit ar65.inj z1 (by simp only [push_cast] <;> rfl)
@[push_cast] theorem t66_1 {N : Nat} (z1 : ByteArray) : t66 N [.str z1] = bindO (F76 N z1) fun r => some (v66 r) :=
 TL_hit ar66.inj z1 (by simp only [push_cast] <;> rfl)
@[push_cast] theorem t67_1 (z1 : Int) : t67 [.int .u8 z1] = bindO (F77 z1) fun r => some (v67 r) :=
 TL_hit ar67.inj z1 (by simp only [push_cast] <;> rfl)
@[push_cast] def H45 : Nat → Hint
 | 0 => ⟨[], [1], []⟩
 | _ => ⟨[], [], []⟩
def F118 (N : Nat) (n : Node) : Option (Bool) := iteO (n.op == 1) (bindO (F17 N n.name) fun r2 => iteO r2 (iteO (decide (n.sortf < 1)) (some false) (iteO (decide (n.sortf > 5)) (some false) (iteO (n.op == 2) (iteO (decide (n.num ≥ (-1000000000000))) (some (decide (n.num ≤ 1000000000000))) (some false)) (iteO (n.op == 7) (iteO (decide (n.num ≥ (-1000000000000))) (some (decide (n.num ≤ 1000000000000))) (some false)) (iteO (n.op == 42) (iteO (decide (n.num ≥ 0)) (some (decide (n.num < 200))) (some false)) (some (n.num == 0))))))) (some false)) (iteO (n.op == 3) (bindO (F17 N n.name) fun r1 => iteO r1 (iteO (decide (n.sortf < 1)) (some false) (iteO (decide (n.sortf > 5)) (some false) (iteO (n.op == 2) (iteO (decide (n.num ≥ (-1000000000000))) (some (decide (n.num ≤ 1000000000000))) (some false)) (iteO (n.op == 7) (iteO (decide (n.num ≥ (-1000000000000))) (some (decide (n.num ≤ 1000000000000))) (some false)) (iteO (n.op == 42) (iteO (decide (n.num ≥ 0)) (some (decide (n.num < 200))) (some false)) (some (n.num == 0))))))) (some false)) (iteO (n.name.toList == (⟨#[]⟩ : ByteArray).toList) (iteO (n.sortf == 0) (iteO (n.op == 2) (iteO (decide (n.num ≥ (-1000000000000))) (some (decide (n.num ≤ 1000000000000))) (some false)) (iteO (n.op == 7) (iteO (decide (n.num ≥ (-1000000000000))) (some (decide (n.num ≤ 1000000000000))) (some false)) (iteO (n.op == 42) (iteO (decide (n.num ≥ 0)) (some (decide (n.num < 200))) (some false)) (some (n.num == 0))))) (some false)) (some false)))
@[push_cast] def ar45 : Rs Node := rsO rNode
@[push_cast] def v45 (r : Bool) : AV := .bool r
@[push_cast] def sh45 : Shp := .one (.leaf none)
noncomputable def t45 (N : Nat) : List AV → Option AV := TL ar45.e fun x => bindO (F118 N x) fun r => some (v45 r)
@[push_cast] theorem t58_1 {N : Nat} (z1 : ByteArray) : t58 N [.str z1] = bindO (F17 N z1) fun r => some (v58 r) :=
 TL_hit ar58.inj z1 (by simp only [push_cast] <;> rfl)
@[push_cast] def H46 : Nat → Hint
 | _ => ⟨[], [], []⟩
def F119 (s : Int) : Option (Bool) := iteO (s == 1) (some true) (iteO (s == 3) (some true) (iteO (s == 4) (some true) (some (s == 5))))
@[push_cast] def ar46 : Rs Int := rsO (rI .i64)
@[push_cast] def v46 (r : Bool) : AV := .bool r
@[push_cast] def sh46 : Shp := .one (.leaf none)
noncomputable def t46 : List AV → Option AV := TL ar46.e fun x => bindO (F119 x) fun r => some (v46 r)
@[push_cast] def H47 : Nat → Hint
 | _ => ⟨[], [], []⟩
def F120 (op : Int) : Option ((List Int) × Bool) := iteO (op == 1) (some ([], true)) (iteO (op == 2) (some ([], true)) (iteO (op == 9) (some ([], true)) (iteO (op == 30) (some ([], true)) (iteO (op == 31) (some ([], true)) (iteO (op == 6) (some ([1], true)) (iteO (op == 7) (some ([1], true)) (iteO (op == 10) (some ([1], true)) (iteO (op == 4) (some ([1, 1], true)) (iteO (op == 5) (some ([1, 1], true)) (iteO (op == 38) (some ([1, 1], true)) (iteO (op == 39) (some ([1, 1], true)) (iteO (op == 11) (some ([4, 4], true)) (iteO (op == 12) (some ([4, 4], true)) (iteO (op == 13) (some ([4, 4], true)) (iteO (op == 41) (some ([4, 4], true)) (iteO (op == 40) (some ([1, 4], true)) (iteO (op == 14) (some ([5, 1], true)) (iteO (op == 15) (some ([5, 1, 1], true)) (iteO (op == 16) (some ([5], true)) (iteO (op == 32) (some ([2], true)) (iteO (op == 33) (some ([2, 2], true)) (iteO (op == 34) (some ([2, 2], true)) (iteO (op == 35) (some ([2, 2], true)) (iteO (op == 36) (some ([2, 2], true)) (some ([], false))))))))))))))))))))))))))
@[push_cast] def ar47 : Rs Int := rsO (rI .i64)
@[push_cast] def v47 (r : (List Int) × Bool) : AV := .tuple [.sl false 1 (List.map (cI .i64) r.1), .bool r.2]
@[push_cast] def sh47 : Shp := .tup [.leaf (some 1), .leaf none]
noncomputable def t47 : List AV → Option AV := TL ar47.e fun x => bindO (F120 x) fun r => some (v47 r)
@[push_cast] def H26 : Nat → Hint
 | 0 => ⟨[1, 13, 14, 15], [1], []⟩
 | 1 => ⟨[], [1, 13, 14, 15], []⟩
 | 2 => ⟨[], [1], []⟩
 | 3 => ⟨[1, 121, 122, 123], [], []⟩
 | 4 => ⟨[], [1, 121, 122, 123], []⟩
 | _ => ⟨[], [], []⟩
def F72_s1 (self26 : Node → Option (Bool)) (s4 : Unit) (i2 : Nat) (x3 : Node) : Option (Sum (Unit) (Bool)) := bindO (self26 x3) fun r5 => iteO r5 (some (.inl ())) (some (.inr false))
def F72_s2 (N : Nat) (n : Node) (s23 : Unit) (i21 : Nat) (x22 : Int) : Option (Sum (Unit) (Bool)) := bindO (atO n.kids (i21 : Int)) fun x24 => bindO (F28 N x24) fun r25 => iteO (r25 == x22) (some (.inl ())) (some (.inr false))
def F72_f2  (s23 : Unit) : Option (Bool) := some true
def F72_f1 (N : Nat) (n : Node) (s4 : Unit) : Option (Bool) := iteO (n.op == 3) (some (decide ((n.kids.length : Int) ≤ 8))) (iteO (n.op == 42) (iteO (decide ((n.kids.length : Int) ≥ 1)) (some (decide ((n.kids.length : Int) ≤ 40))) (some false)) (iteO (n.op == 37) (iteO ((n.kids.length : Int) == 2) (bindO (atO n.kids 0) fun x6 => bindO (F28 N x6) fun r7 => bindO (atO n.kids 1) fun x8 => bindO (F28 N x8) fun r9 => iteO (r7 == r9) (bindO (F28 N x6) fun r10 => bindO (F119 r10) fun r11 => some r11) (some false)) (some false)) (iteO (n.op == 8) (iteO ((n.kids.length : Int) == 3) (bindO (atO n.kids 0) fun x12 => bindO (F28 N x12) fun r13 => iteO (r13 == 2) (bindO (atO n.kids 1) fun x14 => bindO (F28 N x14) fun r15 => bindO (atO n.kids 2) fun x16 => bindO (F28 N x16) fun r17 => iteO (r15 == r17) (bindO (F28 N x14) fun r18 => bindO (F119 r18) fun r19 => some r19) (some false)) (some false)) (some false)) (bindO (F120 n.op) fun r20 => iteO r20.2 (iteO ((r20.1.length : Int) == (n.kids.length : Int)) (foldN (S := Unit) (F72_s2 N n) (F72_f2) N r20.1 0 ()) (some false)) (some false)))))
def F72b (self26 : Node → Option (Bool)) (N : Nat) (n : Node) : Option (Bool) := bindO (F118 N n) fun r1 => iteO r1 (foldN (S := Unit) (F72_s1 self26) (F72_f1 N n) N n.kids 0 ()) (some false)
def F72 : Nat → Node → Option (Bool)
 | 0 => fun _ => none
 | N + 1 => fun n => F72b (F72 N) N n
@[push_cast] def ar26 : Rs Node := rsO rNode
@[push_cast] def v26 (r : Bool) : AV := .bool r
@[push_cast] def sh26 : Shp := .one (.leaf none)
noncomputable def t26 (N : Nat) : List AV → Option AV := TL ar26.e fun x => bindO (F72 N x) fun r => some (v26 r)
noncomputable def ts26 (self26 : Node → Option (Bool)) : List AV → Option AV := TL ar26.e fun x => bindO (self26 x) fun r => some (v26 r)
@[push_cast] theorem t45_1 {N : Nat} (z1 : Int) (z2 : Int) (z3 : ByteArray) (z4 : Int) (z5 : List Node) : t45 N [.agg [.int .i64 z1, .int .i64 z2, .str z3, .int .i64 z4, .sl false 5 (List.map Node.cells z5)]] = bindO (F118 N (⟨z1, z2, z3, z4, z5⟩ : Node)) fun r => some (v45 r) :=
 TL_hit ar45.inj (⟨z1, z2, z3, z4, z5⟩ : Node) (by simp only [push_cast] <;> rfl)
@[push_cast] theorem t26_1 (self26 : Node → Option (Bool)) (z1 : Int) (z2 : Int) (z3 : ByteArray) (z4 : Int) (z5 : List Node) : ts26 self26 [.agg [.int .i64 z1, .int .i64 z2, .str z3, .int .i64 z4, .sl false 5 (List.map Node.cells z5)]] = bindO (self26 (⟨z1, z2, z3, z4, z5⟩ : Node)) fun r => some (v26 r) :=
 TL_hit ar26.inj (⟨z1, z2, z3, z4, z5⟩ : Node) (by simp only [push_cast] <;> rfl)
@[push_cast] theorem t46_1 (z1 : Int) : t46 [.int .i64 z1] = bindO (F119 z1) fun r => some (v46 r) :=
 TL_hit ar46.inj z1 (by simp only [push_cast] <;> rfl)
@[push_cast] theorem t47_1 (z1 : Int) : t47 [.int .i64 z1] = bindO (F120 z1) fun r => some (v47 r) :=
 TL_hit ar47.inj z1 (by simp only [push_cast] <;> rfl)
@[push_cast] def H71 : Nat → Hint
 | _ => ⟨[], [], []⟩
def F168 (a : Decl) (b : Decl) : Option (Bool) := iteO (Op.bytesLess a.declName.toList b.declName.toList) (some true) (iteO (a.declName.toList == b.declName.toList) (some (decide (a.declSort < b.declSort))) (some false))
@[push_cast] def ar71 : Rs (Decl × Decl) := rsC rDecl (rsO rDecl)
@[push_cast] def v71 (r : Bool) : AV := .bool r
@[push_cast] def sh71 : Shp := .one (.leaf none)
noncomputable def t71 : List AV → Option AV := TL ar71.e fun x => bindO (F168 x.1 x.2) fun r => some (v71 r)
@[push_cast] def H68 : Nat → Hint
 | 0 => ⟨[3, 5, 6, 9, 10, 11], [3, 5, 6], []⟩
 | 1 => ⟨[], [3, 5, 6, 9, 10, 11], []⟩
 | _ => ⟨[], [], []⟩
def F140_s1 (d : Decl) (s3 : (List Decl) × Bool) (i1 : Nat) (x2 : Decl) : Option (Sum ((List Decl) × Bool) (List Decl)) := iteO ((x2.declName.toList == d.declName.toList) && (x2.declSort == d.declSort)) (iteO (fits (s3.1.length + 1) 24) (some (.inl (s3.1 ++ ([x2]), true))) (none)) (iteO s3.2 (iteO (fits (s3.1.length + 1) 24) (some (.inl (s3.1 ++ ([x2]), s3.2))) (none)) (bindO (F168 d x2) fun r4 => iteO r4 (iteO (fits (s3.1.length + 1) 24) (iteO (fits (s3.1.length + 1 + 1) 24) (some (.inl ((s3.1 ++ ([d])) ++ ([x2]), true))) (none)) (none)) (iteO (fits (s3.1.length + 1) 24) (some (.inl (s3.1 ++ ([x2]), s3.2))) (none))))
def F140_f1 (d : Decl) (s3 : (List Decl) × Bool) : Option (List Decl) := iteO s3.2 (some s3.1) (iteO (fits (s3.1.length + 1) 24) (some (s3.1 ++ ([d]))) (none))
def F140 (N : Nat) (l : List Decl) (d : Decl) : Option (List Decl) := foldN (S := (List Decl) × Bool) (F140_s1 d) (F140_f1 d) N l 0 ([], false)
@[push_cast] def ar68 : Rs ((List Decl) × Decl) := rsC (rL 2 Decl.cells Decl.cells_inj) (rsO rDecl)
@[push_cast] def v68 (r : List Decl) : AV := .sl false 2 (List.map Decl.cells r)
@[push_cast] def sh68 : Shp := .one (.leaf (some 2))
noncomputable def t68 (N : Nat) : List AV → Option AV := TL ar68.e fun x => bindO (F140 N x.1 x.2) fun r => some (v68 r)
@[push_cast] theorem t71_1 (z1 : ByteArray) (z2 : Int) (z3 : ByteArray) (z4 : Int) : t71 [.agg [.str z1, .int .i64 z2], .agg [.str z3, .int .i64 z4]] = bindO (F168 (⟨z1, z2⟩ : Decl) (⟨z3, z4⟩ : Decl)) fun r => some (v71 r) :=
 TL_hit ar71.inj ((⟨z1, z2⟩ : Decl), (⟨z3, z4⟩ : Decl)) (by simp only [push_cast] <;> rfl)
@[push_cast] def H59 : Nat → Hint
 | 0 => ⟨[0, 18, 19, 20], [0], []⟩
 | 1 => ⟨[], [0, 18, 19, 20], []⟩
 | _ => ⟨[], [], []⟩
def F95_s1 (self59 : (List Decl) → Node → Option (List Decl)) (s4 : List Decl) (i2 : Nat) (x3 : Node) : Option (Sum (List Decl) (List Decl)) := bindO (self59 s4 x3) fun r5 => some (.inl r5)
def F95_f1  (s4 : List Decl) : Option (List Decl) := some s4
def F95_s2 (self59 : (List Decl) → Node → Option (List Decl)) (s8 : List Decl) (i6 : Nat) (x7 : Node) : Option (Sum (List Decl) (List Decl)) := bindO (self59 s8 x7) fun r9 => some (.inl r9)
def F95_f2  (s8 : List Decl) : Option (List Decl) := some s8
def F95b (self59 : (List Decl) → Node → Option (List Decl)) (N : Nat) (l : List Decl) (n : Node) : Option (List Decl) := iteO (n.op == 1) (bindO (F140 N l (⟨n.name, n.sortf⟩ : Decl)) fun r1 => foldN (S := List Decl) (F95_s1 self59) (F95_f1) N n.kids 0 r1) (foldN (S := List Decl) (F95_s2 self59) (F95_f2) N n.kids 0 l)
def F95 : Nat → (List Decl) → Node → Option (List Decl)
 | 0 => fun _ _ => none
 | N + 1 => fun l n => F95b (F95 N) N l n
@[push_cast] def ar59 : Rs ((List Decl) × Node) := rsC (rL 2 Decl.cells Decl.cells_inj) (rsO rNode)
@[push_cast] def v59 (r : List Decl) : AV := .sl false 2 (List.map Decl.cells r)
@[push_cast] def sh59 : Shp := .one (.leaf (some 2))
noncomputable def t59 (N : Nat) : List AV → Option AV := TL ar59.e fun x => bindO (F95 N x.1 x.2) fun r => some (v59 r)
noncomputable def ts59 (self59 : (List Decl) → Node → Option (List Decl)) : List AV → Option AV := TL ar59.e fun x => bindO (self59 x.1 x.2) fun r => some (v59 r)
@[push_cast] theorem t68_1 {N : Nat} (z1 : List Decl) (z2 : ByteArray) (z3 : Int) : t68 N [.sl false 2 (List.map Decl.cells z1), .agg [.str z2, .int .i64 z3]] = bindO (F140 N z1 (⟨z2, z3⟩ : Decl)) fun r => some (v68 r) :=
 TL_hit ar68.inj (z1, (⟨z2, z3⟩ : Decl)) (by simp only [push_cast] <;> rfl)
@[push_cast] theorem t59_1 (self59 : (List Decl) → Node → Option (List Decl)) (z1 : List Decl) (z2 : Int) (z3 : Int) (z4 : ByteArray) (z5 : Int) (z6 : List Node) : ts59 self59 [.sl false 2 (List.map Decl.cells z1), .agg [.int .i64 z2, .int .i64 z3, .str z4, .int .i64 z5, .sl false 5 (List.map Node.cells z6)]] = bindO (self59 z1 (⟨z2, z3, z4, z5, z6⟩ : Node)) fun r => some (v59 r) :=
 TL_hit ar59.inj (z1, (⟨z2, z3, z4, z5, z6⟩ : Node)) (by simp only [push_cast] <;> rfl)
@[push_cast] def H48 : Nat → Hint
 | _ => ⟨[], [], []⟩
def F47 (N : Nat) (n : Node) : Option (List Decl) := bindO (F95 N ([]) n) fun r1 => some r1
@[push_cast] def ar48 : Rs Node := rsO rNode
@[push_cast] def v48 (r : List Decl) : AV := .sl false 2 (List.map Decl.cells r)
@[push_cast] def sh48 : Shp := .one (.leaf (some 2))
noncomputable def t48 (N : Nat) : List AV → Option AV := TL ar48.e fun x => bindO (F47 N x) fun r => some (v48 r)
@[push_cast] theorem t59_2 {N : Nat} (z2 : Int) (z3 : Int) (z4 : ByteArray) (z5 : Int) (z6 : List Node) : t59 N [.sl true 0 [], .agg [.int .i64 z2, .int .i64 z3, .str z4, .int .i64 z5, .sl false 5 (List.map Node.cells z6)]] = bindO (F95 N ([]) (⟨z2, z3, z4, z5, z6⟩ : Node)) fun r => some (v59 r) :=
 TL_hit ar59.inj ([], (⟨z2, z3, z4, z5, z6⟩ : Node)) (by simp only [push_cast] <;> rfl)
@[push_cast] theorem t59_3 {N : Nat} (z2 : Int) (z3 : Int) (z4 : ByteArray) (z5 : Int) (z6 : List Node) : t59 N [.sl false 0 [], .agg [.int .i64 z2, .int .i64 z3, .str z4, .int .i64 z5, .sl false 5 (List.map Node.cells z6)]] = bindO (F95 N ([]) (⟨z2, z3, z4, z5, z6⟩ : Node)) fun r => some (v59 r) :=
 TL_hit ar59.inj ([], (⟨z2, z3, z4, z5, z6⟩ : Node)) (by simp only [push_cast] <;> rfl)
@[push_cast] def H49 : Nat → Hint
 | 0 => ⟨[1, 23, 24, 25], [], []⟩
 | 1 => ⟨[], [1, 23, 24, 25], []⟩
 | _ => ⟨[], [], []⟩
def F92_s1 (self49 : Node → ByteArray → Option (Bool)) (name : ByteArray) (s3 : Unit) (i1 : Nat) (x2 : Node) : Option (Sum (Unit) (Bool)) := bindO (self49 x2 name) fun r4 => iteO r4 (some (.inr true)) (some (.inl ()))
def F92_f1  (s3 : Unit) : Option (Bool) := some false
def F92_s2 (self49 : Node → ByteArray → Option (Bool)) (name : ByteArray) (s7 : Unit) (i5 : Nat) (x6 : Node) : Option (Sum (Unit) (Bool)) := bindO (self49 x6 name) fun r8 => iteO r8 (some (.inr true)) (some (.inl ()))
def F92_f2  (s7 : Unit) : Option (Bool) := some false
def F92_s3 (self49 : Node → ByteArray → Option (Bool)) (name : ByteArray) (s11 : Unit) (i9 : Nat) (x10 : Node) : Option (Sum (Unit) (Bool)) := bindO (self49 x10 name) fun r12 => iteO r12 (some (.inr true)) (some (.inl ()))
def F92_f3  (s11 : Unit) : Option (Bool) := some false
def F92b (self49 : Node → ByteArray → Option (Bool)) (N : Nat) (n : Node) (name : ByteArray) : Option (Bool) := iteO (n.op == 3) (iteO (n.name.toList == name.toList) (iteO ((n.kids.length : Int) == 0) (some true) (foldN (S := Unit) (F92_s1 self49 name) (F92_f1) N n.kids 0 ())) (foldN (S := Unit) (F92_s2 self49 name) (F92_f2) N n.kids 0 ())) (foldN (S := Unit) (F92_s3 self49 name) (F92_f3) N n.kids 0 ())
def F92 : Nat → Node → ByteArray → Option (Bool)
 | 0 => fun _ _ => none
 | N + 1 => fun n name => F92b (F92 N) N n name
@[push_cast] def ar49 : Rs (Node × ByteArray) := rsC rNode (rsO rS)
@[push_cast] def v49 (r : Bool) : AV := .bool r
@[push_cast] def sh49 : Shp := .one (.leaf none)
noncomputable def t49 (N : Nat) : List AV → Option AV := TL ar49.e fun x => bindO (F92 N x.1 x.2) fun r => some (v49 r)
noncomputable def ts49 (self49 : Node → ByteArray → Option (Bool)) : List AV → Option AV := TL ar49.e fun x => bindO (self49 x.1 x.2) fun r => some (v49 r)
@[push_cast] theorem t49_1 (self49 : Node → ByteArray → Option (Bool)) (z1 : Int) (z2 : Int) (z3 : ByteArray) (z4 : Int) (z5 : List Node) (z6 : ByteArray) : ts49 self49 [.agg [.int .i64 z1, .int .i64 z2, .str z3, .int .i64 z4, .sl false 5 (List.map Node.cells z5)], .str z6] = bindO (self49 (⟨z1, z2, z3, z4, z5⟩ : Node) z6) fun r => some (v49 r) :=
 TL_hit ar49.inj ((⟨z1, z2, z3, z4, z5⟩ : Node), z6) (by simp only [push_cast] <;> rfl)
@[push_cast] def H27 : Nat → Hint
 | 0 => ⟨[1, 3, 4], [1, 3], []⟩
 | 1 => ⟨[], [1, 3, 4], []⟩
 | 2 => ⟨[1, 27, 28, 29], [], []⟩
 | 3 => ⟨[], [1, 27, 28, 29], []⟩
 | _ => ⟨[], [], []⟩
def F41_s2 (N : Nat) (n : Node) (s7 : Unit) (i5 : Nat) (x6 : Decl) : Option (Sum (Unit) (Bool)) := bindO (F92 N n x6.declName) fun r8 => iteO r8 (some (.inr false)) (some (.inl ()))
def F41_f2  (s7 : Unit) : Option (Bool) := some true
def F41_s1 (N : Nat) (n : Node) (r1 : List Decl) (s2 : Int) : Option (Sum (Int) (Bool)) := iteO (decide (s2 < (r1.length : Int))) (bindO (atO r1 (IntKind.i64.wrap (s2 - 1))) fun x3 => bindO (atO r1 s2) fun x4 => iteO (x3.declName.toList == x4.declName.toList) (some (.inr false)) (some (.inl (IntKind.i64.wrap (s2 + 1))))) (bindO (foldN (S := Unit) (F41_s2 N n) (F41_f2) N r1 0 ()) fun yy => some (.inr yy))
def F41 (N : Nat) (n : Node) : Option (Bool) := bindO (F47 N n) fun r1 => whileN (S := Int) (F41_s1 N n r1) N 1
@[push_cast] def ar27 : Rs Node := rsO rNode
@[push_cast] def v27 (r : Bool) : AV := .bool r
@[push_cast] def sh27 : Shp := .one (.leaf none)
noncomputable def t27 (N : Nat) : List AV → Option AV := TL ar27.e fun x => bindO (F41 N x) fun r => some (v27 r)
@[push_cast] theorem t48_1 {N : Nat} (z1 : Int) (z2 : Int) (z3 : ByteArray) (z4 : Int) (z5 : List Node) : t48 N [.agg [.int .i64 z1, .int .i64 z2, .str z3, .int .i64 z4, .sl false 5 (List.map Node.cells z5)]] = bindO (F47 N (⟨z1, z2, z3, z4, z5⟩ : Node)) fun r => some (v48 r) :=
 TL_hit ar48.inj (⟨z1, z2, z3, z4, z5⟩ : Node) (by simp only [push_cast] <;> rfl)
@[push_cast] theorem t49_2 {N : Nat} (z1 : Int) (z2 : Int) (z3 : ByteArray) (z4 : Int) (z5 : List Node) (z6 : ByteArray) : t49 N [.agg [.int .i64 z1, .int .i64 z2, .str z3, .int .i64 z4, .sl false 5 (List.map Node.cells z5)], .str z6] = bindO (F92 N (⟨z1, z2, z3, z4, z5⟩ : Node) z6) fun r => some (v49 r) :=
 TL_hit ar49.inj ((⟨z1, z2, z3, z4, z5⟩ : Node), z6) (by simp only [push_cast] <;> rfl)
@[push_cast] def H28 : Nat → Hint
 | 0 => ⟨[1, 2, 23, 24, 25], [1, 2], []⟩
 | 1 => ⟨[], [1, 2, 23, 24, 25], []⟩
 | 2 => ⟨[1, 53, 54, 55], [], []⟩
 | 3 => ⟨[], [1, 53, 54, 55], []⟩
 | _ => ⟨[], [], []⟩
def F106_s1 (N : Nat) (n : Node) (s4 : Unit) (i2 : Nat) (x3 : Int) : Option (Sum (Unit) (Bool)) := bindO (atO n.kids (i2 : Int)) fun x5 => bindO (F28 N x5) fun r6 => iteO (x3 == 0) (iteO (r6 == 2) (some (.inr false)) (some (.inl ()))) (iteO (r6 == x3) (some (.inl ())) (some (.inr false)))
def F106_s2 (self28 : Node → (List Sig) → Option (Bool)) (sigs : List Sig) (s9 : Unit) (i7 : Nat) (x8 : Node) : Option (Sum (Unit) (Bool)) := bindO (self28 x8 sigs) fun r10 => iteO r10 (some (.inl ())) (some (.inr false))
def F106_f2  (s9 : Unit) : Option (Bool) := some true
def F106_f1 (self28 : Node → (List Sig) → Option (Bool)) (N : Nat) (n : Node) (sigs : List Sig) (s4 : Unit) : Option (Bool) := foldN (S := Unit) (F106_s2 self28 sigs) (F106_f2) N n.kids 0 ()
def F106_s3 (self28 : Node → (List Sig) → Option (Bool)) (sigs : List Sig) (s13 : Unit) (i11 : Nat) (x12 : Node) : Option (Sum (Unit) (Bool)) := bindO (self28 x12 sigs) fun r14 => iteO r14 (some (.inl ())) (some (.inr false))
def F106_f3  (s13 : Unit) : Option (Bool) := some true
def F106b (self28 : Node → (List Sig) → Option (Bool)) (N : Nat) (n : Node) (sigs : List Sig) : Option (Bool) := iteO (n.op == 3) (bindO (F147 N n.name sigs) fun r1 => foldN (S := Unit) (F106_s1 N n) (F106_f1 self28 N n sigs) N r1.1.sigArgs 0 ()) (foldN (S := Unit) (F106_s3 self28 sigs) (F106_f3) N n.kids 0 ())
def F106 : Nat → Node → (List Sig) → Option (Bool)
 | 0 => fun _ _ => none
 | N + 1 => fun n sigs => F106b (F106 N) N n sigs
@[push_cast] def ar28 : Rs (Node × (List Sig)) := rsC rNode (rsO (rL 3 Sig.cells Sig.cells_inj))
@[push_cast] def v28 (r : Bool) : AV := .bool r
@[push_cast] def sh28 : Shp := .one (.leaf none)
noncomputable def t28 (N : Nat) : List AV → Option AV := TL ar28.e fun x => bindO (F106 N x.1 x.2) fun r => some (v28 r)
noncomputable def ts28 (self28 : Node → (List Sig) → Option (Bool)) : List AV → Option AV := TL ar28.e fun x => bindO (self28 x.1 x.2) fun r => some (v28 r)
@[push_cast] theorem t28_1 (self28 : Node → (List Sig) → Option (Bool)) (z1 : Int) (z2 : Int) (z3 : ByteArray) (z4 : Int) (z5 : List Node) (z6 : List Sig) : ts28 self28 [.agg [.int .i64 z1, .int .i64 z2, .str z3, .int .i64 z4, .sl false 5 (List.map Node.cells z5)], .sl false 3 (List.map Sig.cells z6)] = bindO (self28 (⟨z1, z2, z3, z4, z5⟩ : Node) z6) fun r => some (v28 r) :=
 TL_hit ar28.inj ((⟨z1, z2, z3, z4, z5⟩ : Node), z6) (by simp only [push_cast] <;> rfl)
@[push_cast] def H7 : Nat → Hint
 | _ => ⟨[], [], []⟩
def F55 (N : Nat) (n : Node) (vars : List Decl) (sigs : List Sig) : Option (Node × Int) := bindO (F27 N n) fun r1 => iteO (decide (r1 > 4000)) (some ((⟨0, 0, (⟨#[]⟩ : ByteArray), 0, []⟩ : Node), 2)) (bindO (F39 N n) fun r2 => iteO (decide (r2 > 100)) (some ((⟨0, 0, (⟨#[]⟩ : ByteArray), 0, []⟩ : Node), 2)) (bindO (F103 N n vars sigs) fun r3 => iteO r3 (some ((⟨0, 0, (⟨#[]⟩ : ByteArray), 0, []⟩ : Node), 4)) (bindO (F104 N n sigs) fun r4 => iteO r4 (some ((⟨0, 0, (⟨#[]⟩ : ByteArray), 0, []⟩ : Node), 3)) (bindO (F105 N n vars sigs) fun r5 => bindO (F72 N r5) fun r6 => iteO r6 (bindO (F41 N r5) fun r7 => iteO r7 (bindO (F106 N r5 sigs) fun r8 => iteO r8 (some (r5, 0)) (some ((⟨0, 0, (⟨#[]⟩ : ByteArray), 0, []⟩ : Node), 3))) (some ((⟨0, 0, (⟨#[]⟩ : ByteArray), 0, []⟩ : Node), 3))) (some ((⟨0, 0, (⟨#[]⟩ : ByteArray), 0, []⟩ : Node), 3))))))
@[push_cast] def ar7 : Rs (Node × (List Decl) × (List Sig)) := rsC rNode (rsC (rL 2 Decl.cells Decl.cells_inj) (rsO (rL 3 Sig.cells Sig.cells_inj)))
@[push_cast] def v7 (r : Node × Int) : AV := .tuple [.agg (Node.cells r.1), .int .i64 r.2]
@[push_cast] def sh7 : Shp := .tup [.agg [none, none, none, none, some 5], .leaf none]
noncomputable def t7 (N : Nat) : List AV → Option AV := TL ar7.e fun x => bindO (F55 N x.1 x.2.1 x.2.2) fun r => some (v7 r)
@[push_cast] theorem t22_2 {N : Nat} (z1 : Int) (z2 : Int) (z3 : ByteArray) (z4 : Int) (z5 : List Node) : t22 N [.agg [.int .i64 z1, .int .i64 z2, .str z3, .int .i64 z4, .sl false 5 (List.map Node.cells z5)]] = bindO (F39 N (⟨z1, z2, z3, z4, z5⟩ : Node)) fun r => some (v22 r) :=
 TL_hit ar22.inj (⟨z1, z2, z3, z4, z5⟩ : Node) (by simp only [push_cast] <;> rfl)
@[push_cast] theorem t23_2 {N : Nat} (z1 : Int) (z2 : Int) (z3 : ByteArray) (z4 : Int) (z5 : List Node) (z6 : List Decl) (z7 : List Sig) : t23 N [.agg [.int .i64 z1, .int .i64 z2, .str z3, .int .i64 z4, .sl false 5 (List.map Node.cells z5)], .sl false 2 (List.map Decl.cells z6), .sl false 3 (List.map Sig.cells z7)] = bindO (F103 N (⟨z1, z2, z3, z4, z5⟩ : Node) z6 z7) fun r => some (v23 r) :=
 TL_hit ar23.inj ((⟨z1, z2, z3, z4, z5⟩ : Node), z6, z7) (by simp only [push_cast] <;> rfl)
@[push_cast] theorem t24_2 {N : Nat} (z1 : Int) (z2 : Int) (z3 : ByteArray) (z4 : Int) (z5 : List Node) (z6 : List Sig) : t24 N [.agg [.int .i64 z1, .int .i64 z2, .str z3, .int .i64 z4, .sl false 5 (List.map Node.cells z5)], .sl false 3 (List.map Sig.cells z6)] = bindO (F104 N (⟨z1, z2, z3, z4, z5⟩ : Node) z6) fun r => some (v24 r) :=
 TL_hit ar24.inj ((⟨z1, z2, z3, z4, z5⟩ : Node), z6) (by simp only [push_cast] <;> rfl)
@[push_cast] theorem t25_2 {N : Nat} (z1 : Int) (z2 : Int) (z3 : ByteArray) (z4 : Int) (z5 : List Node) (z6 : List Decl) (z7 : List Sig) : t25 N [.agg [.int .i64 z1, .int .i64 z2, .str z3, .int .i64 z4, .sl false 5 (List.map Node.cells z5)], .sl false 2 (List.map Decl.cells z6), .sl false 3 (List.map Sig.cells z7)] = bindO (F105 N (⟨z1, z2, z3, z4, z5⟩ : Node) z6 z7) fun r => some (v25 r) :=
 TL_hit ar25.inj ((⟨z1, z2, z3, z4, z5⟩ : Node), z6, z7) (by simp only [push_cast] <;> rfl)
@[push_cast] theorem t26_2 {N : Nat} (z1 : Int) (z2 : Int) (z3 : ByteArray) (z4 : Int) (z5 : List Node) : t26 N [.agg [.int .i64 z1, .int .i64 z2, .str z3, .int .i64 z4, .sl false 5 (List.map Node.cells z5)]] = bindO (F72 N (⟨z1, z2, z3, z4, z5⟩ : Node)) fun r => some (v26 r) :=
 TL_hit ar26.inj (⟨z1, z2, z3, z4, z5⟩ : Node) (by simp only [push_cast] <;> rfl)
@[push_cast] theorem t27_1 {N : Nat} (z1 : Int) (z2 : Int) (z3 : ByteArray) (z4 : Int) (z5 : List Node) : t27 N [.agg [.int .i64 z1, .int .i64 z2, .str z3, .int .i64 z4, .sl false 5 (List.map Node.cells z5)]] = bindO (F41 N (⟨z1, z2, z3, z4, z5⟩ : Node)) fun r => some (v27 r) :=
 TL_hit ar27.inj (⟨z1, z2, z3, z4, z5⟩ : Node) (by simp only [push_cast] <;> rfl)
@[push_cast] theorem t28_2 {N : Nat} (z1 : Int) (z2 : Int) (z3 : ByteArray) (z4 : Int) (z5 : List Node) (z6 : List Sig) : t28 N [.agg [.int .i64 z1, .int .i64 z2, .str z3, .int .i64 z4, .sl false 5 (List.map Node.cells z5)], .sl false 3 (List.map Sig.cells z6)] = bindO (F106 N (⟨z1, z2, z3, z4, z5⟩ : Node) z6) fun r => some (v28 r) :=
 TL_hit ar28.inj ((⟨z1, z2, z3, z4, z5⟩ : Node), z6) (by simp only [push_cast] <;> rfl)
@[push_cast] def H50 : Nat → Hint
 | _ => ⟨[], [], []⟩
def F81 (a : Int) (b : Int) : Option (Int) := iteO (decide (a < b)) (some (-1)) (iteO (decide (a > b)) (some 1) (some 0))
@[push_cast] def ar50 : Rs (Int × Int) := rsC (rI .i64) (rsO (rI .i64))
@[push_cast] def v50 (r : Int) : AV := .int .i64 r
@[push_cast] def sh50 : Shp := .one (.leaf none)
noncomputable def t50 : List AV → Option AV := TL ar50.e fun x => bindO (F81 x.1 x.2) fun r => some (v50 r)
@[push_cast] def H29 : Nat → Hint
 | 0 => ⟨[2, 3, 5, 6], [5], []⟩
 | 1 => ⟨[], [2, 3, 5, 6], []⟩
 | _ => ⟨[], [], []⟩
def F19_s1  (s3 : Unit) : Option (Sum (Unit) (Int)) := some (.inr (-1))
def F19_s3 (self29 : Node → Node → Option (Int)) (a : Node) (b : Node) (s7 : Int × Int) : Option (Sum (Int × Int) (Int)) := iteO (s7.1 == 0) (iteO (decide (s7.2 < (a.kids.length : Int))) (bindO (atO a.kids s7.2) fun x8 => bindO (atO b.kids s7.2) fun x9 => bindO (self29 x8 x9) fun r10 => some (.inl (r10, IntKind.i64.wrap (s7.2 + 1)))) (some (.inr s7.1))) (some (.inr s7.1))
def F19_s4 (r5 : Int) (s11 : Unit) : Option (Sum (Unit) (Int)) := some (.inr r5)
def F19_s2  (s4 : Unit) : Option (Sum (Unit) (Int)) := some (.inr 1)
def F19_s5 (r2 : Int) (s12 : Unit) : Option (Sum (Unit) (Int)) := some (.inr r2)
def F19_s6 (r1 : Int) (s13 : Unit) : Option (Sum (Unit) (Int)) := some (.inr r1)
def F19b (self29 : Node → Node → Option (Int)) (N : Nat) (a : Node) (b : Node) : Option (Int) := bindO (F81 a.op b.op) fun r1 => iteO (r1 == 0) (bindO (F81 a.sortf b.sortf) fun r2 => iteO (r2 == 0) (iteO (Op.bytesLess a.name.toList b.name.toList) (whileN (S := Unit) (F19_s1) N ()) (iteO (Op.bytesLess a.name.toList b.name.toList || a.name.toList == b.name.toList) (bindO (F81 a.num b.num) fun r5 => iteO (r5 == 0) (bindO (F81 (a.kids.length : Int) (b.kids.length : Int)) fun r6 => whileN (S := Int × Int) (F19_s3 self29 a b) N (r6, 0)) (whileN (S := Unit) (F19_s4 r5) N ())) (whileN (S := Unit) (F19_s2) N ()))) (whileN (S := Unit) (F19_s5 r2) N ())) (whileN (S := Unit) (F19_s6 r1) N ())
def F19 : Nat → Node → Node → Option (Int)
 | 0 => fun _ _ => none
 | N + 1 => fun a b => F19b (F19 N) N a b
@[push_cast] def ar29 : Rs (Node × Node) := rsC rNode (rsO rNode)
@[push_cast] def v29 (r : Int) : AV := .int .i64 r
@[push_cast] def sh29 : Shp := .one (.leaf none)
noncomputable def t29 (N : Nat) : List AV → Option AV := TL ar29.e fun x => bindO (F19 N x.1 x.2) fun r => some (v29 r)
noncomputable def ts29 (self29 : Node → Node → Option (Int)) : List AV → Option AV := TL ar29.e fun x => bindO (self29 x.1 x.2) fun r => some (v29 r)
@[push_cast] theorem t50_1 (z1 : Int) (z2 : Int) : t50 [.int .i64 z1, .int .i64 z2] = bindO (F81 z1 z2) fun r => some (v50 r) :=
 TL_hit ar50.inj (z1, z2) (by simp only [push_cast] <;> rfl)
@[push_cast] theorem t29_1 (self29 : Node → Node → Option (Int)) (z1 : Int) (z2 : Int) (z3 : ByteArray) (z4 : Int) (z5 : List Node) (z6 : Int) (z7 : Int) (z8 : ByteArray) (z9 : Int) (z10 : List Node) : ts29 self29 [.agg [.int .i64 z1, .int .i64 z2, .str z3, .int .i64 z4, .sl false 5 (List.map Node.cells z5)], .agg [.int .i64 z6, .int .i64 z7, .str z8, .int .i64 z9, .sl false 5 (List.map Node.cells z10)]] = bindO (self29 (⟨z1, z2, z3, z4, z5⟩ : Node) (⟨z6, z7, z8, z9, z10⟩ : Node)) fun r => some (v29 r) :=
 TL_hit ar29.inj ((⟨z1, z2, z3, z4, z5⟩ : Node), (⟨z6, z7, z8, z9, z10⟩ : Node)) (by simp only [push_cast] <;> rfl)
@[push_cast] def H8 : Nat → Hint
 | _ => ⟨[], [], []⟩
def F21 (N : Nat) (a : Node) (b : Node) : Option (Bool) := bindO (F19 N a b) fun r1 => some (r1 == 0)
@[push_cast] def ar8 : Rs (Node × Node) := rsC rNode (rsO rNode)
@[push_cast] def v8 (r : Bool) : AV := .bool r
@[push_cast] def sh8 : Shp := .one (.leaf none)
noncomputable def t8 (N : Nat) : List AV → Option AV := TL ar8.e fun x => bindO (F21 N x.1 x.2) fun r => some (v8 r)
@[push_cast] theorem t29_2 {N : Nat} (z1 : Int) (z2 : Int) (z3 : ByteArray) (z4 : Int) (z5 : List Node) (z6 : Int) (z7 : Int) (z8 : ByteArray) (z9 : Int) (z10 : List Node) : t29 N [.agg [.int .i64 z1, .int .i64 z2, .str z3, .int .i64 z4, .sl false 5 (List.map Node.cells z5)], .agg [.int .i64 z6, .int .i64 z7, .str z8, .int .i64 z9, .sl false 5 (List.map Node.cells z10)]] = bindO (F19 N (⟨z1, z2, z3, z4, z5⟩ : Node) (⟨z6, z7, z8, z9, z10⟩ : Node)) fun r => some (v29 r) :=
 TL_hit ar29.inj ((⟨z1, z2, z3, z4, z5⟩ : Node), (⟨z6, z7, z8, z9, z10⟩ : Node)) (by simp only [push_cast] <;> rfl)
@[push_cast] def H3 : Nat → Hint
 | _ => ⟨[], [], []⟩
def F9 (N : Nat) (n : Node) (vars : List Decl) (sigs : List Sig) : Option (Bool) := bindO (F12 N) fun r1 => iteO r1 (bindO (F13 N 6000 ([n])) fun r2 => iteO r2 (iteO (decide ((vars.length : Int) > 60)) (some true) (iteO (decide ((sigs.length : Int) > 60)) (some true) (bindO (F54 N n vars sigs) fun r3 => bindO (F55 N n vars sigs) fun r4 => iteO (r3.2 == r4.2) (bindO (F21 N r3.1 r4.1) fun r5 => iteO r5 (iteO (r3.2 == 0) (bindO (F14 N r3.1 0) fun r6 => some (r6 == 0)) (some true)) (some false)) (some false)))) (some true)) (some false)
@[push_cast] def ar3 : Rs (Node × (List Decl) × (List Sig)) := rsC rNode (rsC (rL 2 Decl.cells Decl.cells_inj) (rsO (rL 3 Sig.cells Sig.cells_inj)))
@[push_cast] def v3 (r : Bool) : AV := .bool r
@[push_cast] def sh3 : Shp := .one (.leaf none)
noncomputable def t3 (N : Nat) : List AV → Option AV := TL ar3.e fun x => bindO (F9 N x.1 x.2.1 x.2.2) fun r => some (v3 r)
@[push_cast] theorem t4_1 {N : Nat}  : t4 N [] = bindO (F12 N) fun r => some (v4 r) :=
 TL_hit ar4.inj () (by simp only [push_cast] <;> rfl)
@[push_cast] theorem t5_1 {N : Nat} (z1 : Int) (z3 : Int) (z4 : Int) (z5 : ByteArray) (z6 : Int) (z7 : List Node) : t5 N [.int .i64 z1, .sl true 5 [[.int .i64 z3, .int .i64 z4, .str z5, .int .i64 z6, .sl false 5 (List.map Node.cells z7)]]] = bindO (F13 N z1 ([(⟨z3, z4, z5, z6, z7⟩ : Node)])) fun r => some (v5 r) :=
 TL_hit ar5.inj (z1, [(⟨z3, z4, z5, z6, z7⟩ : Node)]) (by simp only [push_cast] <;> rfl)
@[push_cast] theorem t5_2 {N : Nat} (z1 : Int) (z3 : Int) (z4 : Int) (z5 : ByteArray) (z6 : Int) (z7 : List Node) : t5 N [.int .i64 z1, .sl false 5 [[.int .i64 z3, .int .i64 z4, .str z5, .int .i64 z6, .sl false 5 (List.map Node.cells z7)]]] = bindO (F13 N z1 ([(⟨z3, z4, z5, z6, z7⟩ : Node)])) fun r => some (v5 r) :=
 TL_hit ar5.inj (z1, [(⟨z3, z4, z5, z6, z7⟩ : Node)]) (by simp only [push_cast] <;> rfl)
@[push_cast] theorem t6_1 {N : Nat} (z1 : Int) (z2 : Int) (z3 : ByteArray) (z4 : Int) (z5 : List Node) (z6 : List Decl) (z7 : List Sig) : t6 N [.agg [.int .i64 z1, .int .i64 z2, .str z3, .int .i64 z4, .sl false 5 (List.map Node.cells z5)], .sl false 2 (List.map Decl.cells z6), .sl false 3 (List.map Sig.cells z7)] = bindO (F54 N (⟨z1, z2, z3, z4, z5⟩ : Node) z6 z7) fun r => some (v6 r) :=
 TL_hit ar6.inj ((⟨z1, z2, z3, z4, z5⟩ : Node), z6, z7) (by simp only [push_cast] <;> rfl)
@[push_cast] theorem t7_1 {N : Nat} (z1 : Int) (z2 : Int) (z3 : ByteArray) (z4 : Int) (z5 : List Node) (z6 : List Decl) (z7 : List Sig) : t7 N [.agg [.int .i64 z1, .int .i64 z2, .str z3, .int .i64 z4, .sl false 5 (List.map Node.cells z5)], .sl false 2 (List.map Decl.cells z6), .sl false 3 (List.map Sig.cells z7)] = bindO (F55 N (⟨z1, z2, z3, z4, z5⟩ : Node) z6 z7) fun r => some (v7 r) :=
 TL_hit ar7.inj ((⟨z1, z2, z3, z4, z5⟩ : Node), z6, z7) (by simp only [push_cast] <;> rfl)
@[push_cast] theorem t8_1 {N : Nat} (z1 : Int) (z2 : Int) (z3 : ByteArray) (z4 : Int) (z5 : List Node) (z6 : Int) (z7 : Int) (z8 : ByteArray) (z9 : Int) (z10 : List Node) : t8 N [.agg [.int .i64 z1, .int .i64 z2, .str z3, .int .i64 z4, .sl false 5 (List.map Node.cells z5)], .agg [.int .i64 z6, .int .i64 z7, .str z8, .int .i64 z9, .sl false 5 (List.map Node.cells z10)]] = bindO (F21 N (⟨z1, z2, z3, z4, z5⟩ : Node) (⟨z6, z7, z8, z9, z10⟩ : Node)) fun r => some (v8 r) :=
 TL_hit ar8.inj ((⟨z1, z2, z3, z4, z5⟩ : Node), (⟨z6, z7, z8, z9, z10⟩ : Node)) (by simp only [push_cast] <;> rfl)
@[push_cast] theorem t9_3 {N : Nat} (z1 : Int) (z2 : Int) (z3 : ByteArray) (z4 : Int) (z5 : List Node) (z6 : Int) : t9 N [.agg [.int .i64 z1, .int .i64 z2, .str z3, .int .i64 z4, .sl false 5 (List.map Node.cells z5)], .int .i64 z6] = bindO (F14 N (⟨z1, z2, z3, z4, z5⟩ : Node) z6) fun r => some (v9 r) :=
 TL_hit ar9.inj ((⟨z1, z2, z3, z4, z5⟩ : Node), z6) (by simp only [push_cast] <;> rfl)
end Go.Abs.Try
