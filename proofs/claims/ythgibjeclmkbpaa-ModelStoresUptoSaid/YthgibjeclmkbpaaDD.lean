import Derived.Test.YthgibjeclmkbpaaSqW2
import Derived.Test.YthgibjeclmkbpaaGen3
import Derived.Test.YthgibjeclmkbpaaSqOps
import Derived.Test.YthgibjeclmkbpaaSqIn1
set_option linter.unusedSimpArgs false
set_option linter.unusedVariables false
namespace Go.Abs.Try
abbrev Z : AV := .top
@[push_cast] theorem Z_eq : Z = AV.top := rfl
open Go.RowKit
set_option maxRecDepth 100000
set_option maxHeartbeats 40000000
@[push_cast] def H35 : Nat → Hint
 | 0 => ⟨[], [3], []⟩
 | 1 => ⟨[], [3], []⟩
 | _ => ⟨[], [], []⟩
def F37_s1  (s3 : Int) (x2 : Node) : Option (Sum (Int) (Int)) := some (.inl (IntKind.i64.wrap (s3 + 1)))
def F37_f1  (s3 : Int) : Option (Int) := some s3
def F37 (n : Node) : Option (Int) := bindO (walkO n) fun l1 => foldO (S := Int) (F37_s1) (F37_f1) l1 0
@[push_cast] def ar35 : Rs Node := rsO rNode
@[push_cast] def v35 (r : Int) : AV := .int .i64 r
@[push_cast] def sh35 : Shp := .one (.leaf none)
noncomputable def t35 : List AV → Option AV := TL ar35.e fun x => bindO (F37 x) fun r => some (v35 r)
@[push_cast] def H36 : Nat → Hint
 | 0 => ⟨[3, 7, 8, 9], [3], []⟩
 | 1 => ⟨[], [3, 7, 8, 9], []⟩
 | _ => ⟨[], [], []⟩
def F38_s1 (self36 : Node → Option (Int)) (s3 : Int) (i1 : Nat) (x2 : Node) : Option (Sum (Int) (Int)) := bindO (self36 x2) fun r4 => some (.inl (max s3 r4))
def F38_f1  (s3 : Int) : Option (Int) := some (IntKind.i64.wrap (s3 + 1))
def F38b (self36 : Node → Option (Int)) (N : Nat) (n : Node) : Option (Int) := foldN (S := Int) (F38_s1 self36) (F38_f1) N n.kids 0 0
def F38 : Nat → Node → Option (Int)
 | 0 => fun _ => none
 | N + 1 => fun n => F38b (F38 N) N n
@[push_cast] def ar36 : Rs Node := rsO rNode
@[push_cast] def v36 (r : Int) : AV := .int .i64 r
@[push_cast] def sh36 : Shp := .one (.leaf none)
noncomputable def t36 (N : Nat) : List AV → Option AV := TL ar36.e fun x => bindO (F38 N x) fun r => some (v36 r)
noncomputable def ts36 (self36 : Node → Option (Int)) : List AV → Option AV := TL ar36.e fun x => bindO (self36 x) fun r => some (v36 r)
@[push_cast] theorem t36_1 (self36 : Node → Option (Int)) (z1 : Int) (z2 : Int) (z3 : ByteArray) (z4 : Int) (z5 : List Node) : ts36 self36 [.agg [.int .i64 z1, .int .i64 z2, .str z3, .int .i64 z4, .sl false 5 (List.map Node.cells z5)]] = bindO (self36 (⟨z1, z2, z3, z4, z5⟩ : Node)) fun r => some (v36 r) :=
 TL_hit ar36.inj (⟨z1, z2, z3, z4, z5⟩ : Node) (by simp only [push_cast] <;> rfl)
@[push_cast] def H19 : Nat → Hint
 | _ => ⟨[], [], []⟩
def F70 (N : Nat) (n : Node) : Option (Bool) := bindO (F37 n) fun r1 => iteO (decide (r1 ≤ 4000)) (bindO (F38 N n) fun r2 => some (decide (r2 ≤ 100))) (some false)
@[push_cast] def ar19 : Rs Node := rsO rNode
@[push_cast] def v19 (r : Bool) : AV := .bool r
@[push_cast] def sh19 : Shp := .one (.leaf none)
noncomputable def t19 (N : Nat) : List AV → Option AV := TL ar19.e fun x => bindO (F70 N x) fun r => some (v19 r)
@[push_cast] theorem t35_1 (z1 : Int) (z2 : Int) (z3 : ByteArray) (z4 : Int) (z5 : List Node) : t35 [.agg [.int .i64 z1, .int .i64 z2, .str z3, .int .i64 z4, .sl false 5 (List.map Node.cells z5)]] = bindO (F37 (⟨z1, z2, z3, z4, z5⟩ : Node)) fun r => some (v35 r) :=
 TL_hit ar35.inj (⟨z1, z2, z3, z4, z5⟩ : Node) (by simp only [push_cast] <;> rfl)
@[push_cast] theorem t36_2 {N : Nat} (z1 : Int) (z2 : Int) (z3 : ByteArray) (z4 : Int) (z5 : List Node) : t36 N [.agg [.int .i64 z1, .int .i64 z2, .str z3, .int .i64 z4, .sl false 5 (List.map Node.cells z5)]] = bindO (F38 N (⟨z1, z2, z3, z4, z5⟩ : Node)) fun r => some (v36 r) :=
 TL_hit ar36.inj (⟨z1, z2, z3, z4, z5⟩ : Node) (by simp only [push_cast] <;> rfl)
@[push_cast] def H58 : Nat → Hint
 | _ => ⟨[], [], []⟩
def F73 (c : Int) : Option (Bool) := iteO (decide (c ≥ 97)) (iteO (decide (c ≤ 122)) (some true) (iteO (decide (c ≥ 65)) (some (decide (c ≤ 90))) (some false))) (iteO (decide (c ≥ 65)) (some (decide (c ≤ 90))) (some false))
@[push_cast] def ar58 : Rs Int := rsO (rI .u8)
@[push_cast] def v58 (r : Bool) : AV := .bool r
@[push_cast] def sh58 : Shp := .one (.leaf none)
noncomputable def t58 : List AV → Option AV := TL ar58.e fun x => bindO (F73 x) fun r => some (v58 r)
@[push_cast] def H59 : Nat → Hint
 | _ => ⟨[], [], []⟩
def F74 (s : ByteArray) : Option (Bool) := iteO (s.toList == (⟨#[116, 114, 117, 101]⟩ : ByteArray).toList) (some true) (iteO (s.toList == (⟨#[102, 97, 108, 115, 101]⟩ : ByteArray).toList) (some true) (iteO (s.toList == (⟨#[105, 110]⟩ : ByteArray).toList) (some true) (iteO (s.toList == (⟨#[115, 117, 98]⟩ : ByteArray).toList) (some true) (iteO (s.toList == (⟨#[101, 109, 112, 116, 121]⟩ : ByteArray).toList) (some true) (iteO (s.toList == (⟨#[115, 105, 110, 103]⟩ : ByteArray).toList) (some true) (iteO (s.toList == (⟨#[99, 117, 112]⟩ : ByteArray).toList) (some true) (iteO (s.toList == (⟨#[99, 97, 112]⟩ : ByteArray).toList) (some true) (iteO (s.toList == (⟨#[100, 105, 102, 102]⟩ : ByteArray).toList) (some true) (iteO (s.toList == (⟨#[115, 101, 108]⟩ : ByteArray).toList) (some true) (iteO (s.toList == (⟨#[115, 116, 111]⟩ : ByteArray).toList) (some true) (iteO (s.toList == (⟨#[118, 108, 101, 110]⟩ : ByteArray).toList) (some true) (iteO (s.toList == (⟨#[105, 116, 101]⟩ : ByteArray).toList) (some true) (some false)))))))))))))
@[push_cast] def ar59 : Rs ByteArray := rsO rS
@[push_cast] def v59 (r : Bool) : AV := .bool r
@[push_cast] def sh59 : Shp := .one (.leaf none)
noncomputable def t59 : List AV → Option AV := TL ar59.e fun x => bindO (F74 x) fun r => some (v59 r)
@[push_cast] def H41 : Nat → Hint
 | 0 => ⟨[0, 24, 25], [], []⟩
 | 1 => ⟨[], [0, 24, 25], []⟩
 | _ => ⟨[], [], []⟩
def F16_s1 (s : ByteArray) (s5 : Unit) (i3 : Nat) (x4 : Nat) : Option (Sum (Unit) (Bool)) := bindO (F73 (bt s (i3 : Int))) fun r6 => iteO r6 (some (.inl ())) (iteO (decide ((bt s (i3 : Int)) < 48)) (iteO ((bt s (i3 : Int)) == 46) (some (.inl ())) (some (.inr false))) (iteO (decide ((bt s (i3 : Int)) > 57)) (iteO ((bt s (i3 : Int)) == 46) (some (.inl ())) (some (.inr false))) (some (.inl ()))))
def F16_f1  (s5 : Unit) : Option (Bool) := some true
def F16 (N : Nat) (s : ByteArray) : Option (Bool) := iteO (decide ((s.size : Int) < 1)) (some false) (iteO (decide ((s.size : Int) > 24)) (some false) (iteO (inB 0 s.size) (bindO (F73 (bt s 0)) fun r1 => iteO r1 (bindO (F74 s) fun r2 => iteO r2 (some false) (foldN (S := Unit) (F16_s1 s) (F16_f1) N (List.range s.size) 0 ())) (some false)) (none)))
@[push_cast] def ar41 : Rs ByteArray := rsO rS
@[push_cast] def v41 (r : Bool) : AV := .bool r
@[push_cast] def sh41 : Shp := .one (.leaf none)
noncomputable def t41 (N : Nat) : List AV → Option AV := TL ar41.e fun x => bindO (F16 N x) fun r => some (v41 r)
@[push_cast] theorem t58_1 (z1 : Int) : t58 [.int .u8 z1] = bindO (F73 z1) fun r => some (v58 r) :=
 TL_hit ar58.inj z1 (by simp only [push_cast] <;> rfl)
@[push_cast] theorem t59_1 (z1 : ByteArray) : t59 [.str z1] = bindO (F74 z1) fun r => some (v59 r) :=
 TL_hit ar59.inj z1 (by simp only [push_cast] <;> rfl)
@[push_cast] def H37 : Nat → Hint
 | 0 => ⟨[], [1], []⟩
 | _ => ⟨[], [], []⟩
def F116 (N : Nat) (n : Node) : Option (Bool) := iteO (n.op == 1) (bindO (F16 N n.name) fun r2 => iteO r2 (iteO (decide (n.sortf < 1)) (some false) (iteO (decide (n.sortf > 5)) (some false) (iteO (n.op == 2) (iteO (decide (n.num ≥ (-1000000000000))) (some (decide (n.num ≤ 1000000000000))) (some false)) (iteO (n.op == 7) (iteO (decide (n.num ≥ (-1000000000000))) (some (decide (n.num ≤ 1000000000000))) (some false)) (iteO (n.op == 42) (iteO (decide (n.num ≥ 0)) (some (decide (n.num < 200))) (some false)) (some (n.num == 0))))))) (some false)) (bindO (F16 N n.name) fun r1 => iteO ((n.op == 3) == r1) (iteO (n.op == 3) (iteO (decide (n.sortf < 1)) (some false) (iteO (decide (n.sortf > 5)) (some false) (iteO (n.op == 2) (iteO (decide (n.num ≥ (-1000000000000))) (some (decide (n.num ≤ 1000000000000))) (some false)) (iteO (n.op == 7) (iteO (decide (n.num ≥ (-1000000000000))) (some (decide (n.num ≤ 1000000000000))) (some false)) (iteO (n.op == 42) (iteO (decide (n.num ≥ 0)) (some (decide (n.num < 200))) (some false)) (some (n.num == 0))))))) (iteO (n.name.toList == (⟨#[]⟩ : ByteArray).toList) (iteO (n.sortf == 0) (iteO (n.op == 2) (iteO (decide (n.num ≥ (-1000000000000))) (some (decide (n.num ≤ 1000000000000))) (some false)) (iteO (n.op == 7) (iteO (decide (n.num ≥ (-1000000000000))) (some (decide (n.num ≤ 1000000000000))) (some false)) (iteO (n.op == 42) (iteO (decide (n.num ≥ 0)) (some (decide (n.num < 200))) (some false)) (some (n.num == 0))))) (some false)) (some false))) (some false))
@[push_cast] def ar37 : Rs Node := rsO rNode
@[push_cast] def v37 (r : Bool) : AV := .bool r
@[push_cast] def sh37 : Shp := .one (.leaf none)
noncomputable def t37 (N : Nat) : List AV → Option AV := TL ar37.e fun x => bindO (F116 N x) fun r => some (v37 r)
@[push_cast] theorem t41_1 {N : Nat} (z1 : ByteArray) : t41 N [.str z1] = bindO (F16 N z1) fun r => some (v41 r) :=
 TL_hit ar41.inj z1 (by simp only [push_cast] <;> rfl)
@[push_cast] def H22 : Nat → Hint
 | 0 => ⟨[1], [1], []⟩
 | 1 => ⟨[], [1], []⟩
 | 2 => ⟨[], [1], []⟩
 | _ => ⟨[], [], []⟩
def F36_s1  (s1 : Int × Int × ByteArray × Int × (List Node)) : Option (Sum (Int × Int × ByteArray × Int × (List Node)) (Int)) := iteO (s1.1 == 8) (iteO (decide ((s1.2.2.2.2.length : Int) < 2)) (some (.inr 0)) (bindO (atO s1.2.2.2.2 1) fun x2 => some (.inl (x2.op, x2.sortf, x2.name, x2.num, x2.kids)))) (iteO (s1.1 == 1) (some (.inr s1.2.1)) (iteO (s1.1 == 3) (some (.inr s1.2.1)) (iteO (s1.1 == 2) (some (.inr 1)) (iteO (s1.1 == 4) (some (.inr 1)) (iteO (s1.1 == 5) (some (.inr 1)) (iteO (s1.1 == 6) (some (.inr 1)) (iteO (s1.1 == 7) (some (.inr 1)) (iteO (s1.1 == 14) (some (.inr 1)) (iteO (s1.1 == 16) (some (.inr 1)) (iteO (s1.1 == 9) (some (.inr 4)) (iteO (s1.1 == 10) (some (.inr 4)) (iteO (s1.1 == 11) (some (.inr 4)) (iteO (s1.1 == 12) (some (.inr 4)) (iteO (s1.1 == 13) (some (.inr 4)) (iteO (s1.1 == 15) (some (.inr 5)) (iteO (decide (s1.1 ≥ 30)) (iteO (decide (s1.1 ≤ 42)) (some (.inr 2)) (some (.inr 0))) (some (.inr 0))))))))))))))))))
def F36 (N : Nat) (n : Node) : Option (Int) := whileN (S := Int × Int × ByteArray × Int × (List Node)) (F36_s1) N (n.op, n.sortf, n.name, n.num, n.kids)
@[push_cast] def ar22 : Rs Node := rsO rNode
@[push_cast] def v22 (r : Int) : AV := .int .i64 r
@[push_cast] def sh22 : Shp := .one (.leaf none)
noncomputable def t22 (N : Nat) : List AV → Option AV := TL ar22.e fun x => bindO (F36 N x) fun r => some (v22 r)
@[push_cast] def H55 : Nat → Hint
 | _ => ⟨[], [], []⟩
def F153 (op : Int) : Option ((List Int) × Bool) := iteO (op == 2) (some ([], true)) (iteO (op == 9) (some ([], true)) (iteO (op == 30) (some ([], true)) (iteO (op == 31) (some ([], true)) (iteO (op == 1) (some ([], true)) (iteO (op == 4) (some ([1, 1], true)) (iteO (op == 5) (some ([1, 1], true)) (iteO (op == 38) (some ([1, 1], true)) (iteO (op == 39) (some ([1, 1], true)) (iteO (op == 6) (some ([1], true)) (iteO (op == 7) (some ([1], true)) (iteO (op == 10) (some ([1], true)) (iteO (op == 11) (some ([4, 4], true)) (iteO (op == 12) (some ([4, 4], true)) (iteO (op == 13) (some ([4, 4], true)) (iteO (op == 41) (some ([4, 4], true)) (iteO (op == 40) (some ([1, 4], true)) (iteO (op == 14) (some ([5, 1], true)) (iteO (op == 15) (some ([5, 1, 1], true)) (iteO (op == 16) (some ([5], true)) (iteO (op == 32) (some ([2], true)) (iteO (op == 33) (some ([2, 2], true)) (iteO (op == 34) (some ([2, 2], true)) (iteO (op == 35) (some ([2, 2], true)) (iteO (op == 36) (some ([2, 2], true)) (some ([], false))))))))))))))))))))))))))
@[push_cast] def ar55 : Rs Int := rsO (rI .i64)
@[push_cast] def v55 (r : (List Int) × Bool) : AV := .tuple [.sl false 1 (List.map (cI .i64) r.1), .bool r.2]
@[push_cast] def sh55 : Shp := .tup [.leaf (some 1), .leaf none]
noncomputable def t55 : List AV → Option AV := TL ar55.e fun x => bindO (F153 x) fun r => some (v55 r)
@[push_cast] def H56 : Nat → Hint
 | 0 => ⟨[0, 1, 12, 13], [], []⟩
 | 1 => ⟨[], [0, 1, 12, 13], []⟩
 | _ => ⟨[], [], []⟩
def F154_s1 (s2q : List Int) (s3 : Unit) (i1 : Nat) (x2 : Int) : Option (Sum (Unit) (Bool)) := bindO (atO s2q (i1 : Int)) fun x4 => iteO (x2 == x4) (some (.inl ())) (some (.inr false))
def F154_f1  (s3 : Unit) : Option (Bool) := some true
def F154 (N : Nat) (s1q : List Int) (s2q : List Int) : Option (Bool) := iteO ((s1q.length : Int) == (s2q.length : Int)) (foldN (S := Unit) (F154_s1 s2q) (F154_f1) N s1q 0 ()) (some false)
@[push_cast] def ar56 : Rs ((List Int) × (List Int)) := rsC (rL 1 (cI .i64) (cI_inj .i64)) (rsO (rL 1 (cI .i64) (cI_inj .i64)))
@[push_cast] def v56 (r : Bool) : AV := .bool r
@[push_cast] def sh56 : Shp := .one (.leaf none)
noncomputable def t56 (N : Nat) : List AV → Option AV := TL ar56.e fun x => bindO (F154 N x.1 x.2) fun r => some (v56 r)
@[push_cast] def H38 : Nat → Hint
 | 0 => ⟨[1, 3, 14, 15, 16], [1, 3], []⟩
 | 1 => ⟨[], [1, 3, 14, 15, 16], []⟩
 | _ => ⟨[], [], []⟩
@[push_cast] def H57 : Nat → Hint
 | _ => ⟨[], [], []⟩
def F117_s1 (N : Nat) (s3 : List Int) (i1 : Nat) (x2 : Node) : Option (Sum (List Int) (Bool)) := bindO (F36 N x2) fun r4 => bindO (atO s3 (i1 : Int)) fun x5 => some (.inl (s3.set i1 r4))
def F117_f1 (N : Nat) (n : Node) (s3 : List Int) : Option (Bool) := bindO (F153 n.op) fun r6 => iteO r6.2 (bindO (F154 N s3 r6.1) fun r7 => some r7) (iteO (n.op == 8) (iteO (((s3.length : Int)) == 3) (bindO (atO s3 0) fun x8 => iteO (x8 == 2) (bindO (atO s3 1) fun x9 => bindO (atO s3 2) fun x10 => iteO (x9 == x10) (iteO (x9 == 1) (some true) (some (decide (x9 ≥ 3)))) (some false)) (some false)) (some false)) (iteO (n.op == 37) (iteO (((s3.length : Int)) == 2) (bindO (atO s3 0) fun x11 => bindO (atO s3 1) fun x12 => iteO (x11 == x12) (iteO (x11 == 1) (some true) (some (decide (x11 ≥ 3)))) (some false)) (some false)) (iteO (n.op == 3) (some (decide (((s3.length : Int)) ≤ 8))) (iteO (n.op == 42) (iteO (decide (((s3.length : Int)) ≥ 1)) (some (decide (((s3.length : Int)) ≤ 40))) (some false)) (some false)))))
def F117 (N : Nat) (n : Node) : Option (Bool) := iteO (decide (0 ≤ (n.kids.length : Int) ∧ (n.kids.length : Int) ≤ (n.kids.length : Int) ∧ (n.kids.length : Int) * 8 ≤ 140737488355328 ∧ (n.kids.length : Int) ≤ 9223372036854775807)) (foldN (S := List Int) (F117_s1 N) (F117_f1 N n) N n.kids 0 (List.replicate n.kids.length 0)) (none)
@[push_cast] def ar38 : Rs Node := rsO rNode
@[push_cast] def v38 (r : Bool) : AV := .bool r
@[push_cast] def sh38 : Shp := .one (.leaf none)
noncomputable def t38 (N : Nat) : List AV → Option AV := TL ar38.e fun x => bindO (F117 N x) fun r => some (v38 r)
@[push_cast] theorem t22_1 {N : Nat} (z1 : Int) (z2 : Int) (z3 : ByteArray) (z4 : Int) (z5 : List Node) : t22 N [.agg [.int .i64 z1, .int .i64 z2, .str z3, .int .i64 z4, .sl false 5 (List.map Node.cells z5)]] = bindO (F36 N (⟨z1, z2, z3, z4, z5⟩ : Node)) fun r => some (v22 r) :=
 TL_hit ar22.inj (⟨z1, z2, z3, z4, z5⟩ : Node) (by simp only [push_cast] <;> rfl)
@[push_cast] theorem t55_1 (z1 : Int) : t55 [.int .i64 z1] = bindO (F153 z1) fun r => some (v55 r) :=
 TL_hit ar55.inj z1 (by simp only [push_cast] <;> rfl)
@[push_cast] theorem t56_1 {N : Nat} (z1 : List Int) (z2 : List Int) : t56 N [.sl false 1 (List.map (cI .i64) z1), .sl false 1 (List.map (cI .i64) z2)] = bindO (F154 N z1 z2) fun r => some (v56 r) :=
 TL_hit ar56.inj (z1, z2) (by simp only [push_cast] <;> rfl)
@[push_cast] def H20 : Nat → Hint
 | 0 => ⟨[], [2], []⟩
 | 1 => ⟨[], [2], []⟩
 | _ => ⟨[], [], []⟩
def F71_s1 (N : Nat) (s3 : Unit) (x2 : Node) : Option (Sum (Unit) (Bool)) := bindO (F116 N x2) fun r4 => iteO r4 (bindO (F117 N x2) fun r5 => iteO r5 (some (.inl ())) (some (.inr false))) (some (.inr false))
def F71_f1  (s3 : Unit) : Option (Bool) := some true
def F71 (N : Nat) (n : Node) : Option (Bool) := bindO (walkO n) fun l1 => foldO (S := Unit) (F71_s1 N) (F71_f1) l1 ()
@[push_cast] def ar20 : Rs Node := rsO rNode
@[push_cast] def v20 (r : Bool) : AV := .bool r
@[push_cast] def sh20 : Shp := .one (.leaf none)
noncomputable def t20 (N : Nat) : List AV → Option AV := TL ar20.e fun x => bindO (F71 N x) fun r => some (v20 r)
@[push_cast] theorem t37_1 {N : Nat} (z1 : Int) (z2 : Int) (z3 : ByteArray) (z4 : Int) (z5 : List Node) : t37 N [.agg [.int .i64 z1, .int .i64 z2, .str z3, .int .i64 z4, .sl false 5 (List.map Node.cells z5)]] = bindO (F116 N (⟨z1, z2, z3, z4, z5⟩ : Node)) fun r => some (v37 r) :=
 TL_hit ar37.inj (⟨z1, z2, z3, z4, z5⟩ : Node) (by simp only [push_cast] <;> rfl)
@[push_cast] theorem t38_1 {N : Nat} (z1 : Int) (z2 : Int) (z3 : ByteArray) (z4 : Int) (z5 : List Node) : t38 N [.agg [.int .i64 z1, .int .i64 z2, .str z3, .int .i64 z4, .sl false 5 (List.map Node.cells z5)]] = bindO (F117 N (⟨z1, z2, z3, z4, z5⟩ : Node)) fun r => some (v38 r) :=
 TL_hit ar38.inj (⟨z1, z2, z3, z4, z5⟩ : Node) (by simp only [push_cast] <;> rfl)
@[push_cast] def H21 : Nat → Hint
 | 0 => ⟨[], [2], []⟩
 | 1 => ⟨[], [2, 3], []⟩
 | _ => ⟨[], [], []⟩
def F40_s1  (s3 : ByteArray → Option Int) (x2 : Node) : Option (Sum (ByteArray → Option Int) (Bool)) := iteO (x2.op == 3) (optO (s3 x2.name) (fun m4 => iteO ((x2.kids.length : Int) == 0) (iteO (m4 == (-4611686018427387904)) (iteO (x2.op == 1) (some (.inr false)) (some (.inl (putM s3 x2.name (-4611686018427387904))))) (some (.inr false))) (iteO (x2.op == 1) (iteO (m4 == (-4611686018427387904)) (some (.inr false)) (optO (s3 x2.name) (fun m5 => iteO (m5 == x2.sortf) (some (.inl (putM s3 x2.name x2.sortf))) (some (.inr false))) (some (.inl (putM s3 x2.name x2.sortf))))) (some (.inl s3)))) (iteO ((x2.kids.length : Int) == 0) (iteO (x2.op == 1) (optO ((putM s3 x2.name (-4611686018427387904)) x2.name) (fun m6 => iteO (m6 == x2.sortf) (some (.inl (putM (putM s3 x2.name (-4611686018427387904)) x2.name x2.sortf))) (some (.inr false))) (some (.inl (putM (putM s3 x2.name (-4611686018427387904)) x2.name x2.sortf)))) (some (.inl (putM s3 x2.name (-4611686018427387904))))) (iteO (x2.op == 1) (optO (s3 x2.name) (fun m7 => iteO (m7 == x2.sortf) (some (.inl (putM s3 x2.name x2.sortf))) (some (.inr false))) (some (.inl (putM s3 x2.name x2.sortf)))) (some (.inl s3))))) (optO (s3 x2.name) (fun m8 => iteO (x2.op == 1) (iteO (m8 == (-4611686018427387904)) (some (.inr false)) (optO (s3 x2.name) (fun m9 => iteO (m9 == x2.sortf) (some (.inl (putM s3 x2.name x2.sortf))) (some (.inr false))) (some (.inl (putM s3 x2.name x2.sortf))))) (some (.inl s3))) (iteO (x2.op == 1) (optO (s3 x2.name) (fun m10 => iteO (m10 == x2.sortf) (some (.inl (putM s3 x2.name x2.sortf))) (some (.inr false))) (some (.inl (putM s3 x2.name x2.sortf)))) (some (.inl s3))))
def F40_f1  (s3 : ByteArray → Option Int) : Option (Bool) := some true
def F40 (n : Node) : Option (Bool) := bindO (walkO n) fun l1 => foldO (S := ByteArray → Option Int) (F40_s1) (F40_f1) l1 (fun _ => none)
@[push_cast] def ar21 : Rs Node := rsO rNode
@[push_cast] def v21 (r : Bool) : AV := .bool r
@[push_cast] def sh21 : Shp := .one (.leaf none)
noncomputable def t21 : List AV → Option AV := TL ar21.e fun x => bindO (F40 x) fun r => some (v21 r)
theorem mk67 {E : Env} {fr : Fr} {σ : Store} {t : Nat} (hty : E.ty = tys) : run (aOp E fr σ t (.makeMap 67 none)) = some (.map σ.length, σ ++ [.map .string (mS (evI .i64) fun _ => none)]) := by
 rw [r_makeMap, hty, ← mS_empty (evI .i64)]
 simp only [push_cast, ty67, ty9] <;> rfl
@[push_cast] def H14 : Nat → Hint
 | _ => ⟨[], [], []⟩
def F14 (N : Nat) (n : Node) (sortq : Int) : Option (Int) := iteO (decide (sortq < 0)) (some 1) (iteO (decide (sortq > 5)) (some 1) (bindO (F70 N n) fun r1 => iteO r1 (bindO (F71 N n) fun r2 => iteO r2 (bindO (F40 n) fun r3 => iteO r3 (iteO (sortq == 0) (some 0) (bindO (F36 N n) fun r4 => iteO (r4 == sortq) (some 0) (some 10))) (some 3)) (some 3)) (some 2)))
@[push_cast] def ar14 : Rs (Node × Int) := rsC rNode (rsO (rI .i64))
@[push_cast] def v14 (r : Int) : AV := .int .i64 r
@[push_cast] def sh14 : Shp := .one (.leaf none)
noncomputable def t14 (N : Nat) : List AV → Option AV := TL ar14.e fun x => bindO (F14 N x.1 x.2) fun r => some (v14 r)
@[push_cast] theorem t19_1 {N : Nat} (z1 : Int) (z2 : Int) (z3 : ByteArray) (z4 : Int) (z5 : List Node) : t19 N [.agg [.int .i64 z1, .int .i64 z2, .str z3, .int .i64 z4, .sl false 5 (List.map Node.cells z5)]] = bindO (F70 N (⟨z1, z2, z3, z4, z5⟩ : Node)) fun r => some (v19 r) :=
 TL_hit ar19.inj (⟨z1, z2, z3, z4, z5⟩ : Node) (by simp only [push_cast] <;> rfl)
@[push_cast] theorem t20_1 {N : Nat} (z1 : Int) (z2 : Int) (z3 : ByteArray) (z4 : Int) (z5 : List Node) : t20 N [.agg [.int .i64 z1, .int .i64 z2, .str z3, .int .i64 z4, .sl false 5 (List.map Node.cells z5)]] = bindO (F71 N (⟨z1, z2, z3, z4, z5⟩ : Node)) fun r => some (v20 r) :=
 TL_hit ar20.inj (⟨z1, z2, z3, z4, z5⟩ : Node) (by simp only [push_cast] <;> rfl)
@[push_cast] theorem t21_1 (z1 : Int) (z2 : Int) (z3 : ByteArray) (z4 : Int) (z5 : List Node) : t21 [.agg [.int .i64 z1, .int .i64 z2, .str z3, .int .i64 z4, .sl false 5 (List.map Node.cells z5)]] = bindO (F40 (⟨z1, z2, z3, z4, z5⟩ : Node)) fun r => some (v21 r) :=
 TL_hit ar21.inj (⟨z1, z2, z3, z4, z5⟩ : Node) (by simp only [push_cast] <;> rfl)
@[push_cast] def H15 : Nat → Hint
 | 0 => ⟨[], [2], []⟩
 | 1 => ⟨[], [2], []⟩
 | _ => ⟨[], [], []⟩
def F42_s1  (s3 : Unit) (x2 : Node) : Option (Sum (Unit) (Bool)) := iteO (x2.op == 42) (some (.inr true)) (some (.inl ()))
def F42_f1  (s3 : Unit) : Option (Bool) := some false
def F42 (n : Node) : Option (Bool) := bindO (walkO n) fun l1 => foldO (S := Unit) (F42_s1) (F42_f1) l1 ()
@[push_cast] def ar15 : Rs Node := rsO rNode
@[push_cast] def v15 (r : Bool) : AV := .bool r
@[push_cast] def sh15 : Shp := .one (.leaf none)
noncomputable def t15 : List AV → Option AV := TL ar15.e fun x => bindO (F42 x) fun r => some (v15 r)
@[push_cast] def H60 : Nat → Hint
 | 0 => ⟨[0, 5, 6, 7], [0], []⟩
 | 1 => ⟨[], [0, 5, 6, 7], []⟩
 | _ => ⟨[], [], []⟩
def F1060_s1 (l : List Int) (s3 : Unit) (i1 : Nat) (x2 : Int) : Option (Sum (Unit) (Bool)) := iteO (decide (x2 < (-1152921504606846976))) (some (.inr false)) (iteO (decide (x2 > 1152921504606846976)) (some (.inr false)) (iteO (decide ((i1 : Int) > 0)) (bindO (atO l (IntKind.i64.wrap ((i1 : Int) - 1))) fun x4 => iteO (decide (x4 ≥ x2)) (some (.inr false)) (some (.inl ()))) (some (.inl ()))))
def F1060_f1 (l : List Int) (s3 : Unit) : Option (Bool) := some (decide ((l.length : Int) ≤ 200))
def F1060 (N : Nat) (l : List Int) : Option (Bool) := foldN (S := Unit) (F1060_s1 l) (F1060_f1 l) N l 0 ()
@[push_cast] def ar60 : Rs (List Int) := rsO (rL 1 (cI .i64) (cI_inj .i64))
@[push_cast] def v60 (r : Bool) : AV := .bool r
@[push_cast] def sh60 : Shp := .one (.leaf none)
noncomputable def t60 (N : Nat) : List AV → Option AV := TL ar60.e fun x => bindO (F1060 N x) fun r => some (v60 r)
@[push_cast] def H42 : Nat → Hint
 | 1 => ⟨[85, 86, 87], [], []⟩
 | 2 => ⟨[], [85, 86, 87], []⟩
 | _ => ⟨[], [], []⟩
def F1047_s1  (s4 : Unit) (i2 : Nat) (x3 : Int) : Option (Sum (Unit) (Bool)) := iteO (x3 == 0) (some (.inr false)) (iteO (decide (x3 < (-1152921504606846976))) (some (.inr false)) (iteO (decide (x3 > 1152921504606846976)) (some (.inr false)) (some (.inl ()))))
def F1047_f1  (s4 : Unit) : Option (Bool) := some true
def F1047 (N : Nat) (v : Val) : Option (Bool) := iteO (v.valSort == 4) (iteO (v.valSort == 5) (iteO (decide (v.valNum < (-1152921504606846976))) (some false) (iteO (decide (v.valNum > 1152921504606846976)) (some false) (iteO (v.valSort == 1) (some true) (iteO (v.valSort == 3) (some true) (iteO (v.valSort == 2) (iteO (v.valNum == 0) (some true) (some (v.valNum == 1))) (iteO (v.valNum == 0) (bindO (F1060 N v.valSet) fun r6 => some r6) (some false))))))) (iteO (decide ((IntKind.i64.wrap ((v.valAt.length : Int) + (v.valTo.length : Int))) > 0)) (some false) (iteO (decide (v.valNum < (-1152921504606846976))) (some false) (iteO (decide (v.valNum > 1152921504606846976)) (some false) (iteO (v.valSort == 1) (some true) (iteO (v.valSort == 3) (some true) (iteO (v.valSort == 2) (iteO (v.valNum == 0) (some true) (some (v.valNum == 1))) (iteO (v.valNum == 0) (bindO (F1060 N v.valSet) fun r5 => some r5) (some false))))))))) (iteO (decide ((v.valSet.length : Int) > 0)) (some false) (iteO (v.valSort == 5) (iteO (decide (v.valNum < (-1152921504606846976))) (some false) (iteO (decide (v.valNum > 1152921504606846976)) (some false) (iteO (v.valSort == 1) (some true) (iteO (v.valSort == 3) (some true) (iteO (v.valSort == 2) (iteO (v.valNum == 0) (some true) (some (v.valNum == 1))) (iteO (decide (v.valNum < 0)) (some false) (iteO ((v.valAt.length : Int) == (v.valTo.length : Int)) (bindO (F1060 N v.valAt) fun r1 => iteO r1 (foldN (S := Unit) (F1047_s1) (F1047_f1) N v.valTo 0 ()) (some false)) (some false)))))))) (iteO (decide ((IntKind.i64.wrap ((v.valAt.length : Int) + (v.valTo.length : Int))) > 0)) (some false) (iteO (decide (v.valNum < (-1152921504606846976))) (some false) (iteO (decide (v.valNum > 1152921504606846976)) (some false) (iteO (v.valSort == 1) (some true) (iteO (v.valSort == 3) (some true) (iteO (v.valSort == 2) (iteO (v.valNum == 0) (some true) (some (v.valNum == 1))) (some false)))))))))
@[push_cast] def ar42 : Rs Val := rsO rVal
@[push_cast] def v42 (r : Bool) : AV := .bool r
@[push_cast] def sh42 : Shp := .one (.leaf none)
noncomputable def t42 (N : Nat) : List AV → Option AV := TL ar42.e fun x => bindO (F1047 N x) fun r => some (v42 r)
@[push_cast] theorem t60_1 {N : Nat} (z1 : List Int) : t60 N [.sl false 1 (List.map (cI .i64) z1)] = bindO (F1060 N z1) fun r => some (v60 r) :=
 TL_hit ar60.inj z1 (by simp only [push_cast] <;> rfl)
@[push_cast] def H44 : Nat → Hint
 | _ => ⟨[], [], []⟩
def F1049 (N : Nat) (v : Val) : Option (Bool) := bindO (F1047 N v) fun r1 => some (!r1)
@[push_cast] def ar44 : Rs Val := rsO rVal
@[push_cast] def v44 (r : Bool) : AV := .bool r
@[push_cast] def sh44 : Shp := .one (.leaf none)
noncomputable def t44 (N : Nat) : List AV → Option AV := TL ar44.e fun x => bindO (F1049 N x) fun r => some (v44 r)
@[push_cast] theorem t42_1 {N : Nat} (z1 : Int) (z2 : Int) (z3 : List Int) (z4 : List Int) (z5 : List Int) : t42 N [.agg [.int .i64 z1, .int .i64 z2, .sl false 1 (List.map (cI .i64) z3), .sl false 1 (List.map (cI .i64) z4), .sl false 1 (List.map (cI .i64) z5)]] = bindO (F1047 N (⟨z1, z2, z3, z4, z5⟩ : Val)) fun r => some (v42 r) :=
 TL_hit ar42.inj (⟨z1, z2, z3, z4, z5⟩ : Val) (by simp only [push_cast] <;> rfl)
@[push_cast] def H24 : Nat → Hint
 | _ => ⟨[], [], []⟩
@[push_cast] def H43 : Nat → Hint
 | _ => ⟨[], [], []⟩
@[push_cast] def H61 : Nat → Hint
 | 0 => ⟨[0, 1, 7, 8], [], []⟩
 | 1 => ⟨[], [0, 1, 7, 8], []⟩
 | _ => ⟨[], [], []⟩
def F1036_s1 (N : Nat) (s5 : Unit) (i3 : Nat) (x4 : Val) : Option (Sum (Unit) (Bool)) := bindO (F1049 N x4) fun r6 => iteO r6 (some (.inr (!(decide ((i3 : Int) ≥ 0))))) (some (.inl ()))
def F1036_f1  (s5 : Unit) : Option (Bool) := some true
def F1036 (N : Nat) (e : Entry) : Option (Bool) := bindO (F16 N e.entryName) fun r1 => iteO r1 (iteO (decide ((e.entryArgs.length : Int) > 8)) (some false) (bindO (F1047 N e.entryVal) fun r2 => iteO r2 (foldN (S := Unit) (F1036_s1 N) (F1036_f1) N e.entryArgs 0 ()) (some false))) (some false)
@[push_cast] def ar24 : Rs Entry := rsO rEntry
@[push_cast] def v24 (r : Bool) : AV := .bool r
@[push_cast] def sh24 : Shp := .one (.leaf none)
noncomputable def t24 (N : Nat) : List AV → Option AV := TL ar24.e fun x => bindO (F1036 N x) fun r => some (v24 r)
@[push_cast] theorem t44_1 {N : Nat} (z1 : Int) (z2 : Int) (z3 : List Int) (z4 : List Int) (z5 : List Int) : t44 N [.agg [.int .i64 z1, .int .i64 z2, .sl false 1 (List.map (cI .i64) z3), .sl false 1 (List.map (cI .i64) z4), .sl false 1 (List.map (cI .i64) z5)]] = bindO (F1049 N (⟨z1, z2, z3, z4, z5⟩ : Val)) fun r => some (v44 r) :=
 TL_hit ar44.inj (⟨z1, z2, z3, z4, z5⟩ : Val) (by simp only [push_cast] <;> rfl)
@[push_cast] def H62 : Nat → Hint
 | 0 => ⟨[0, 1, 12, 13], [], []⟩
 | 1 => ⟨[], [0, 1, 12, 13], []⟩
 | _ => ⟨[], [], []⟩
def F1062_s1 (s2q : List Int) (s3 : Unit) (i1 : Nat) (x2 : Int) : Option (Sum (Unit) (Bool)) := bindO (atO s2q (i1 : Int)) fun x4 => iteO (x2 == x4) (some (.inl ())) (some (.inr false))
def F1062_f1  (s3 : Unit) : Option (Bool) := some true
def F1062 (N : Nat) (s1q : List Int) (s2q : List Int) : Option (Bool) := iteO ((s1q.length : Int) == (s2q.length : Int)) (foldN (S := Unit) (F1062_s1 s2q) (F1062_f1) N s1q 0 ()) (some false)
@[push_cast] def ar62 : Rs ((List Int) × (List Int)) := rsC (rL 1 (cI .i64) (cI_inj .i64)) (rsO (rL 1 (cI .i64) (cI_inj .i64)))
@[push_cast] def v62 (r : Bool) : AV := .bool r
@[push_cast] def sh62 : Shp := .one (.leaf none)
noncomputable def t62 (N : Nat) : List AV → Option AV := TL ar62.e fun x => bindO (F1062 N x.1 x.2) fun r => some (v62 r)
@[push_cast] def H46 : Nat → Hint
 | _ => ⟨[], [], []⟩
def F1051 (N : Nat) (a : Val) (b : Val) : Option (Bool) := iteO (a.valSort == b.valSort) (iteO (a.valNum == b.valNum) (bindO (F1062 N a.valSet b.valSet) fun r1 => iteO r1 (bindO (F1062 N a.valAt b.valAt) fun r2 => iteO r2 (bindO (F1062 N a.valTo b.valTo) fun r3 => some r3) (some false)) (some false)) (some false)) (some false)
@[push_cast] def ar46 : Rs (Val × Val) := rsC rVal (rsO rVal)
@[push_cast] def v46 (r : Bool) : AV := .bool r
@[push_cast] def sh46 : Shp := .one (.leaf none)
noncomputable def t46 (N : Nat) : List AV → Option AV := TL ar46.e fun x => bindO (F1051 N x.1 x.2) fun r => some (v46 r)
@[push_cast] theorem t62_1 {N : Nat} (z1 : List Int) (z2 : List Int) : t62 N [.sl false 1 (List.map (cI .i64) z1), .sl false 1 (List.map (cI .i64) z2)] = bindO (F1062 N z1 z2) fun r => some (v62 r) :=
 TL_hit ar62.inj (z1, z2) (by simp only [push_cast] <;> rfl)
@[push_cast] def H25 : Nat → Hint
 | _ => ⟨[], [], []⟩
@[push_cast] def H45 : Nat → Hint
 | 0 => ⟨[1, 2, 15, 16, 17], [], []⟩
 | 1 => ⟨[], [1, 2, 15, 16, 17], []⟩
 | _ => ⟨[], [], []⟩
def F1037_s1 (N : Nat) (b : Entry) (s3 : Unit) (i1 : Nat) (x2 : Val) : Option (Sum (Unit) (Bool)) := bindO (atO b.entryArgs (i1 : Int)) fun x4 => bindO (F1051 N x2 x4) fun r5 => iteO r5 (some (.inl ())) (some (.inr false))
def F1037_f1  (s3 : Unit) : Option (Bool) := some true
def F1037 (N : Nat) (a : Entry) (b : Entry) : Option (Bool) := iteO (a.entryName.toList == b.entryName.toList) (iteO (a.entryVal.valSort == b.entryVal.valSort) (iteO ((a.entryArgs.length : Int) == (b.entryArgs.length : Int)) (foldN (S := Unit) (F1037_s1 N b) (F1037_f1) N a.entryArgs 0 ()) (some false)) (some false)) (some false)
@[push_cast] def ar25 : Rs (Entry × Entry) := rsC rEntry (rsO rEntry)
@[push_cast] def v25 (r : Bool) : AV := .bool r
@[push_cast] def sh25 : Shp := .one (.leaf none)
noncomputable def t25 (N : Nat) : List AV → Option AV := TL ar25.e fun x => bindO (F1037 N x.1 x.2) fun r => some (v25 r)
@[push_cast] theorem t46_1 {N : Nat} (z1 : Int) (z2 : Int) (z3 : List Int) (z4 : List Int) (z5 : List Int) (z6 : Int) (z7 : Int) (z8 : List Int) (z9 : List Int) (z10 : List Int) : t46 N [.agg [.int .i64 z1, .int .i64 z2, .sl false 1 (List.map (cI .i64) z3), .sl false 1 (List.map (cI .i64) z4), .sl false 1 (List.map (cI .i64) z5)], .agg [.int .i64 z6, .int .i64 z7, .sl false 1 (List.map (cI .i64) z8), .sl false 1 (List.map (cI .i64) z9), .sl false 1 (List.map (cI .i64) z10)]] = bindO (F1051 N (⟨z1, z2, z3, z4, z5⟩ : Val) (⟨z6, z7, z8, z9, z10⟩ : Val)) fun r => some (v46 r) :=
 TL_hit ar46.inj ((⟨z1, z2, z3, z4, z5⟩ : Val), (⟨z6, z7, z8, z9, z10⟩ : Val)) (by simp only [push_cast] <;> rfl)
def F1033_s2 (N : Nat) (i1 : Nat) (m : List Entry) (x2 : Entry) (s5 : Int) : Option (Sum (Int) (Sum Unit Bool)) := iteO (decide (s5 < (i1 : Int))) (bindO (atO m s5) fun x6 => bindO (F1037 N x6 x2) fun r7 => iteO r7 (some (.inr (.inr false))) (some (.inl (IntKind.i64.wrap (s5 + 1))))) (some (.inr (.inl ())))
def F1033_s1 (N : Nat) (m : List Entry) (s3 : Unit) (i1 : Nat) (x2 : Entry) : Option (Sum (Unit) (Bool)) := bindO (F1036 N x2) fun r4 => iteO r4 (whileN (S := Int) (F1033_s2 N i1 m x2) N 0) (some (.inr false))
def F1033_f1  (s3 : Unit) : Option (Bool) := some true
def F1033 (N : Nat) (m : List Entry) : Option (Bool) := iteO (decide ((m.length : Int) > 2000)) (some false) (foldN (S := Unit) (F1033_s1 N m) (F1033_f1) N m 0 ())
@[push_cast] def ar16 : Rs (List Entry) := rsO (rL 7 Entry.cells Entry.cells_inj)
@[push_cast] def v16 (r : Bool) : AV := .bool r
noncomputable def t16 (N : Nat) : List AV → Option AV := TL ar16.e fun x => bindO (F1033 N x) fun r => some (v16 r)
@[push_cast] theorem t24_1 {N : Nat} (z1 : ByteArray) (z3 : Int) (z4 : Int) : t24 N [.agg [.str z1, .sl true 5 [], .int .i64 z3, .int .i64 z4, .sl true 1 [], .sl true 1 [], .sl true 1 []]] = bindO (F1036 N (⟨z1, [], (⟨z3, z4, [], [], []⟩ : Val)⟩ : Entry)) fun r => some (v24 r) :=
 TL_hit ar24.inj (⟨z1, [], (⟨z3, z4, [], [], []⟩ : Val)⟩ : Entry) (by simp only [push_cast] <;> rfl)
@[push_cast] theorem t24_2 {N : Nat} (z1 : ByteArray) (z3 : Int) (z4 : Int) : t24 N [.agg [.str z1, .sl false 5 [], .int .i64 z3, .int .i64 z4, .sl false 1 [], .sl false 1 [], .sl false 1 []]] = bindO (F1036 N (⟨z1, [], (⟨z3, z4, [], [], []⟩ : Val)⟩ : Entry)) fun r => some (v24 r) :=
 TL_hit ar24.inj (⟨z1, [], (⟨z3, z4, [], [], []⟩ : Val)⟩ : Entry) (by simp only [push_cast] <;> rfl)
@[push_cast] theorem t25_1 {N : Nat} (z1 : ByteArray) (z3 : Int) (z4 : Int) (z8 : ByteArray) (z10 : Int) (z11 : Int) : t25 N [.agg [.str z1, .sl true 5 [], .int .i64 z3, .int .i64 z4, .sl true 1 [], .sl true 1 [], .sl true 1 []], .agg [.str z8, .sl true 5 [], .int .i64 z10, .int .i64 z11, .sl true 1 [], .sl true 1 [], .sl true 1 []]] = bindO (F1037 N (⟨z1, [], (⟨z3, z4, [], [], []⟩ : Val)⟩ : Entry) (⟨z8, [], (⟨z10, z11, [], [], []⟩ : Val)⟩ : Entry)) fun r => some (v25 r) :=
 TL_hit ar25.inj ((⟨z1, [], (⟨z3, z4, [], [], []⟩ : Val)⟩ : Entry), (⟨z8, [], (⟨z10, z11, [], [], []⟩ : Val)⟩ : Entry)) (by simp only [push_cast] <;> rfl)
@[push_cast] theorem t25_2 {N : Nat} (z1 : ByteArray) (z3 : Int) (z4 : Int) (z8 : ByteArray) (z10 : Int) (z11 : Int) : t25 N [.agg [.str z1, .sl false 5 [], .int .i64 z3, .int .i64 z4, .sl false 1 [], .sl false 1 [], .sl false 1 []], .agg [.str z8, .sl false 5 [], .int .i64 z10, .int .i64 z11, .sl false 1 [], .sl false 1 [], .sl false 1 []]] = bindO (F1037 N (⟨z1, [], (⟨z3, z4, [], [], []⟩ : Val)⟩ : Entry) (⟨z8, [], (⟨z10, z11, [], [], []⟩ : Val)⟩ : Entry)) fun r => some (v25 r) :=
 TL_hit ar25.inj ((⟨z1, [], (⟨z3, z4, [], [], []⟩ : Val)⟩ : Entry), (⟨z8, [], (⟨z10, z11, [], [], []⟩ : Val)⟩ : Entry)) (by simp only [push_cast] <;> rfl)
@[push_cast] def H47 : Nat → Hint
 | _ => ⟨[], [], []⟩
def F1052 (a : Int) : Option (Int) := iteO (decide (a < 0)) (some (IntKind.i64.wrap (0 - a))) (some a)
@[push_cast] def ar47 : Rs Int := rsO (rI .i64)
@[push_cast] def v47 (r : Int) : AV := .int .i64 r
@[push_cast] def sh47 : Shp := .one (.leaf none)
noncomputable def t47 : List AV → Option AV := TL ar47.e fun x => bindO (F1052 x) fun r => some (v47 r)
@[push_cast] def H70 : Nat → Hint
 | _ => ⟨[], [], []⟩
def F1070 (x : Int) : Option (Bool) := some (!(x == x))
@[push_cast] def ar70 : Rs Int := rsO (rI .i64)
@[push_cast] def v70 (r : Bool) : AV := .bool r
@[push_cast] def sh70 : Shp := .one (.leaf none)
noncomputable def t70 : List AV → Option AV := TL ar70.e fun x => bindO (F1070 x) fun r => some (v70 r)
@[push_cast] def H63 : Nat → Hint
 | _ => ⟨[], [], []⟩
def F1063 (x : Int) (y : Int) : Option (Bool) := bindO (F1070 x) fun r1 => iteO r1 (bindO (F1070 y) fun r2 => iteO r2 (some (decide (x < y))) (some true)) (some (decide (x < y)))
@[push_cast] def ar63 : Rs (Int × Int) := rsC (rI .i64) (rsO (rI .i64))
@[push_cast] def v63 (r : Bool) : AV := .bool r
@[push_cast] def sh63 : Shp := .one (.leaf none)
noncomputable def t63 : List AV → Option AV := TL ar63.e fun x => bindO (F1063 x.1 x.2) fun r => some (v63 r)
@[push_cast] theorem t70_1 (z1 : Int) : t70 [.int .i64 z1] = bindO (F1070 z1) fun r => some (v70 r) :=
 TL_hit ar70.inj z1 (by simp only [push_cast] <;> rfl)
@[push_cast] def H64 : Nat → Hint
 | _ => ⟨[], [], []⟩
def F1064 (x : Int) : Option (Bool) := some (!(x == x))
@[push_cast] def ar64 : Rs Int := rsO (rI .i64)
@[push_cast] def v64 (r : Bool) : AV := .bool r
@[push_cast] def sh64 : Shp := .one (.leaf none)
noncomputable def t64 : List AV → Option AV := TL ar64.e fun x => bindO (F1064 x) fun r => some (v64 r)
@[push_cast] def H48 : Nat → Hint
 | 0 => ⟨[0, 1, 6, 7, 8], [0, 1, 6, 7], []⟩
 | 1 => ⟨[], [0, 1, 6, 7, 8], []⟩
 | _ => ⟨[], [], []⟩
def F1053_s1 (target : Int) (x : List Int) (s1 : Int × Int) : Option (Sum (Int × Int) (Int × Bool)) := iteO (decide (s1.1 < s1.2)) (bindO (atO x (IntKind.i64.wrap ((IntKind.u64.wrap (IntKind.i64.wrap (s1.1 + s1.2))).fdiv (2 ^ (min (1 : Int).toNat (IntKind.u64).bits))))) fun x2 => bindO (F1063 x2 target) fun r3 => iteO r3 (some (.inl (IntKind.i64.wrap ((IntKind.i64.wrap ((IntKind.u64.wrap (IntKind.i64.wrap (s1.1 + s1.2))).fdiv (2 ^ (min (1 : Int).toNat (IntKind.u64).bits)))) + 1), s1.2))) (some (.inl (s1.1, IntKind.i64.wrap ((IntKind.u64.wrap (IntKind.i64.wrap (s1.1 + s1.2))).fdiv (2 ^ (min (1 : Int).toNat (IntKind.u64).bits))))))) (iteO (decide (s1.1 < (x.length : Int))) (bindO (atO x s1.1) fun x4 => iteO (x4 == target) (some (.inr (s1.1, true))) (bindO (F1064 x4) fun r5 => iteO r5 (bindO (F1064 target) fun r6 => some (.inr (s1.1, r6))) (some (.inr (s1.1, false))))) (some (.inr (s1.1, false))))
def F1053 (N : Nat) (x : List Int) (target : Int) : Option (Int × Bool) := whileN (S := Int × Int) (F1053_s1 target x) N (0, (x.length : Int))
@[push_cast] def ar48 : Rs ((List Int) × Int) := rsC (rL 1 (cI .i64) (cI_inj .i64)) (rsO (rI .i64))
@[push_cast] def v48 (r : Int × Bool) : AV := .tuple [.int .i64 r.1, .bool r.2]
@[push_cast] def sh48 : Shp := .tup [.leaf none, .leaf none]
noncomputable def t48 (N : Nat) : List AV → Option AV := TL ar48.e fun x => bindO (F1053 N x.1 x.2) fun r => some (v48 r)
@[push_cast] theorem t63_1 (z1 : Int) (z2 : Int) : t63 [.int .i64 z1, .int .i64 z2] = bindO (F1063 z1 z2) fun r => some (v63 r) :=
 TL_hit ar63.inj (z1, z2) (by simp only [push_cast] <;> rfl)
@[push_cast] theorem t64_1 (z1 : Int) : t64 [.int .i64 z1] = bindO (F1064 z1) fun r => some (v64 r) :=
 TL_hit ar64.inj z1 (by simp only [push_cast] <;> rfl)
@[push_cast] def H29 : Nat → Hint
 | _ => ⟨[], [], []⟩
def F1041 (N : Nat) (a : Val) (i : Int) : Option (Int) := bindO (F1053 N a.valAt i) fun r1 => iteO r1.2 (bindO (atO a.valTo r1.1) fun x2 => some x2) (some 0)
@[push_cast] def ar29 : Rs (Val × Int) := rsC rVal (rsO (rI .i64))
@[push_cast] def v29 (r : Int) : AV := .int .i64 r
@[push_cast] def sh29 : Shp := .one (.leaf none)
noncomputable def t29 (N : Nat) : List AV → Option AV := TL ar29.e fun x => bindO (F1041 N x.1 x.2) fun r => some (v29 r)
@[push_cast] theorem t48_1 {N : Nat} (z1 : List Int) (z2 : Int) : t48 N [.sl false 1 (List.map (cI .i64) z1), .int .i64 z2] = bindO (F1053 N z1 z2) fun r => some (v48 r) :=
 TL_hit ar48.inj (z1, z2) (by simp only [push_cast] <;> rfl)
@[push_cast] def H2001 : Nat → Hint
 | 0 => ⟨[], [0, 8, 9], []⟩
 | _ => ⟨[], [], []⟩
@[push_cast] def ali2001 : Nat → List (Nat × Nat)
 | 4 => [(33, 33)]
 | 8 => [(54, 54), (57, 57), (60, 60)]
 | _ => []
@[push_cast] def H18 : Nat → Hint
 | _ => ⟨[], [], []⟩
@[push_cast] def ali18 : Nat → List (Nat × Nat)
 | 1 => [(6, 6), (9, 9)]
 | _ => []
def F1400 (N : Nat) (u1 : Val) (u2 : Int) (u3 : Int) (h4 : List Entry) (h5 : Bool) : Option (Val × Bool) := iteO (fits (u1.valSet.length) 8) (iteO (fits (u1.valAt.length) 8) (iteO (fits (u1.valTo.length) 8) (bindO (F1053 N u1.valAt u2) fun r1 => iteO r1.2 (iteO (u3 == 0) (iteO (inS r1.1 (IntKind.i64.wrap (r1.1 + 1)) u1.valAt.length) (iteO (decide (r1.1 < (IntKind.i64.wrap (r1.1 + 1)))) (iteO (inS r1.1 (IntKind.i64.wrap (r1.1 + 1)) u1.valTo.length) (iteO h5 (some ((⟨u1.valSort, u1.valNum, u1.valSet, delF u1.valAt r1.1 (IntKind.i64.wrap (r1.1 + 1)), delF u1.valTo r1.1 (IntKind.i64.wrap (r1.1 + 1))⟩ : Val), true)) (some ((⟨u1.valSort, u1.valNum, u1.valSet, delF u1.valAt r1.1 (IntKind.i64.wrap (r1.1 + 1)), delF u1.valTo r1.1 (IntKind.i64.wrap (r1.1 + 1))⟩ : Val), decide ((((delF u1.valAt r1.1 (IntKind.i64.wrap (r1.1 + 1))).length : Int)) > 200)))) (none)) (none)) (none)) (bindO (atO u1.valTo r1.1) fun x2 => iteO h5 (some ((⟨u1.valSort, u1.valNum, u1.valSet, u1.valAt, u1.valTo.set r1.1.toNat u3⟩ : Val), true)) (some ((⟨u1.valSort, u1.valNum, u1.valSet, u1.valAt, u1.valTo.set r1.1.toNat u3⟩ : Val), decide (((u1.valAt.length : Int)) > 200))))) (iteO (u3 == 0) (iteO h5 (some (u1, true)) (some (u1, decide (((u1.valAt.length : Int)) > 200)))) (bindO (F1055 u1.valAt r1.1 ([u2])) fun r3 => bindO (F1055 u1.valTo r1.1 ([u3])) fun r4 => iteO h5 (some ((⟨u1.valSort, u1.valNum, u1.valSet, r3, r4⟩ : Val), true)) (some ((⟨u1.valSort, u1.valNum, u1.valSet, r3, r4⟩ : Val), decide (((r3.length : Int)) > 200)))))) (none)) (none)) (none)
@[push_cast] def ar2001 : Ra ((Val) × ((Int) × ((Int) × (Unit)))) := raK (.ptr 0 0) (wkc_ptr _ _) (raC rVal (raC (rI .i64) (raC (rI .i64) (raN))))
@[push_cast] def st2001 : Rt (((List Entry) × (Bool × Unit)) × (Unit)) := rtC (oVar (rcL 7 Entry.cells Entry.cells_inj (rcB (rcN)))) (rtN)
@[push_cast] def v2001 (u1 : Val) (u2 : Int) (u3 : Int) (h4 : List Entry) (h5 : Bool) (r : Val × Bool) : AV := .agg [.int .i64 r.1.valSort, .int .i64 r.1.valNum, .sl false 1 (List.map (cI .i64) r.1.valSet), .sl false 1 (List.map (cI .i64) r.1.valAt), .sl false 1 (List.map (cI .i64) r.1.valTo)]
@[push_cast] def so2001 (u1 : Val) (u2 : Int) (u3 : Int) (h4 : List Entry) (h5 : Bool) (r : Val × Bool) : Store := [.var [.sl false 7 (List.map Entry.cells h4), .bool r.2]]
@[push_cast] def sh2001 : Shp := .one (.agg [none, none, some 1, some 1, some 1])
@[push_cast] def sw2001 : List ShO := [.var [some 7, none]]
noncomputable def t2001 (N : Nat) : List AV → Store → Option (AV × Store) := TLS (fun x : ((Val) × ((Int) × ((Int) × (Unit)))) × (((List Entry) × (Bool × Unit)) × (Unit)) => ar2001.e x.1) (fun x => st2001.e x.2) fun x => bindO (F1400 N x.1.1 x.1.2.1 x.1.2.2.1 x.2.1.1 x.2.1.2.1) fun r => some (v2001 x.1.1 x.1.2.1 x.1.2.2.1 x.2.1.1 x.2.1.2.1 r, so2001 x.1.1 x.1.2.1 x.1.2.2.1 x.2.1.1 x.2.1.2.1 r)
@[push_cast] def H2002 : Nat → Hint
 | 0 => ⟨[], [0, 6, 7], []⟩
 | 1 => ⟨[0, 1, 2, 6, 7, 42, 43, 44], [0, 6, 7], []⟩
 | 2 => ⟨[], [0, 1, 2, 6, 7, 42, 43, 44], []⟩
 | _ => ⟨[], [], []⟩
@[push_cast] def ali2002 : Nat → List (Nat × Nat)
 | 6 => [(27, 27), (29, 29)]
 | _ => []
def F1401_s1 (N : Nat) (u2 : List Val) (s7 : List Int) (i5 : Nat) (x6 : Int) : Option (Sum (List Int) (Val × Bool)) := bindO (atO u2 1) fun x8 => bindO (F1053 N x8.valSet x6) fun r9 => iteO r9.2 (iteO (fits (s7.length + 1) 8) (some (.inl (s7 ++ ([x6])))) (none)) (some (.inl s7))
def F1401_f1 (h4 : Bool) (s7 : List Int) : Option (Val × Bool) := iteO h4 (some ((⟨4, 0, s7, [], []⟩ : Val), true)) (some ((⟨4, 0, s7, [], []⟩ : Val), decide (((s7.length : Int)) > 200)))
def F1401_s2 (N : Nat) (u2 : List Val) (s13 : List Int) (i11 : Nat) (x12 : Int) : Option (Sum (List Int) (Val × Bool)) := bindO (atO u2 1) fun x14 => bindO (F1053 N x14.valSet x12) fun r15 => iteO r15.2 (some (.inl s13)) (iteO (fits (s13.length + 1) 8) (some (.inl (s13 ++ ([x12])))) (none))
def F1401_f2 (h4 : Bool) (s13 : List Int) : Option (Val × Bool) := iteO h4 (some ((⟨4, 0, s13, [], []⟩ : Val), true)) (some ((⟨4, 0, s13, [], []⟩ : Val), decide (((s13.length : Int)) > 200)))
def F1401 (N : Nat) (u1 : Int) (u2 : List Val) (h3 : List Entry) (h4 : Bool) : Option (Val × Bool) := iteO (u1 == 10) (bindO (atO u2 0) fun x1 => iteO h4 (some ((⟨4, 0, [x1.valNum], [], []⟩ : Val), true)) (some ((⟨4, 0, [x1.valNum], [], []⟩ : Val), false))) (iteO (u1 == 11) (bindO (atO u2 0) fun x2 => iteO (fits (x2.valSet.length) 8) (bindO (atO u2 1) fun x3 => iteO (fits (x2.valSet.length + x3.valSet.length) 8) (iteO h4 (some ((⟨4, 0, compF (sortF (x2.valSet ++ x3.valSet)), [], []⟩ : Val), true)) (some ((⟨4, 0, compF (sortF (x2.valSet ++ x3.valSet)), [], []⟩ : Val), decide ((((compF (sortF (x2.valSet ++ x3.valSet))).length : Int)) > 200)))) (none)) (none)) (iteO (u1 == 12) (bindO (atO u2 0) fun x4 => foldN (S := List Int) (F1401_s1 N u2) (F1401_f1 h4) N x4.valSet 0 ([])) (iteO (u1 == 13) (bindO (atO u2 0) fun x10 => foldN (S := List Int) (F1401_s2 N u2) (F1401_f2 h4) N x10.valSet 0 ([])) (iteO h4 (some ((⟨4, 0, [], [], []⟩ : Val), true)) (some ((⟨4, 0, [], [], []⟩ : Val), false))))))
@[push_cast] def ar2002 : Ra ((Int) × ((List Val) × (Unit))) := raK (.ptr 0 0) (wkc_ptr _ _) (raC (rI .i64) (raC (rL 5 Val.cells Val.cells_inj) (raN)))
@[push_cast] def st2002 : Rt (((List Entry) × (Bool × Unit)) × (Unit)) := rtC (oVar (rcL 7 Entry.cells Entry.cells_inj (rcB (rcN)))) (rtN)
@[push_cast] def v2002 (u1 : Int) (u2 : List Val) (h3 : List Entry) (h4 : Bool) (r : Val × Bool) : AV := .agg [.int .i64 r.1.valSort, .int .i64 r.1.valNum, .sl false 1 (List.map (cI .i64) r.1.valSet), .sl false 1 (List.map (cI .i64) r.1.valAt), .sl false 1 (List.map (cI .i64) r.1.valTo)]
@[push_cast] def so2002 (u1 : Int) (u2 : List Val) (h3 : List Entry) (h4 : Bool) (r : Val × Bool) : Store := [.var [.sl false 7 (List.map Entry.cells h3), .bool r.2]]
@[push_cast] def sh2002 : Shp := .one (.agg [none, none, some 1, some 1, some 1])
@[push_cast] def sw2002 : List ShO := [.var [some 7, none]]
noncomputable def t2002 (N : Nat) : List AV → Store → Option (AV × Store) := TLS (fun x : ((Int) × ((List Val) × (Unit))) × (((List Entry) × (Bool × Unit)) × (Unit)) => ar2002.e x.1) (fun x => st2002.e x.2) fun x => bindO (F1401 N x.1.1 x.1.2.1 x.2.1.1 x.2.1.2.1) fun r => some (v2002 x.1.1 x.1.2.1 x.2.1.1 x.2.1.2.1 r, so2002 x.1.1 x.1.2.1 x.2.1.1 x.2.1.2.1 r)
@[push_cast] def H33 : Nat → Hint
 | _ => ⟨[], [], []⟩
@[push_cast] def H53 : Nat → Hint
 | _ => ⟨[], [], []⟩
@[push_cast] def H69 : Nat → Hint
 | 0 => ⟨[0, 1, 7, 8], [], []⟩
 | 1 => ⟨[], [0, 1, 7, 8], []⟩
 | _ => ⟨[], [], []⟩
@[push_cast] def H54 : Nat → Hint
 | _ => ⟨[], [], []⟩
def F1045_s1 (N : Nat) (k : List Val) (s23 : Unit) (i21 : Nat) (x22 : Int) : Option (Sum (Unit) (Bool)) := bindO (atO k 1) fun x24 => bindO (F1053 N x24.valSet x22) fun r25 => iteO r25.2 (some (.inl ())) (some (.inr (!(decide ((i21 : Int) ≥ 0)))))
def F1045_f1  (s23 : Unit) : Option (Bool) := some true
def F1045 (N : Nat) (op : Int) (k : List Val) : Option (Bool) := iteO (op == 30) (some true) (iteO (op == 32) (bindO (atO k 0) fun x1 => some (x1.valNum == 0)) (iteO (op == 33) (bindO (atO k 0) fun x2 => iteO (x2.valNum == 1) (bindO (atO k 1) fun x3 => some (x3.valNum == 1)) (some false)) (iteO (op == 34) (bindO (atO k 0) fun x4 => iteO (x4.valNum == 1) (some true) (bindO (atO k 1) fun x5 => some (x5.valNum == 1))) (iteO (op == 35) (bindO (atO k 0) fun x6 => iteO (x6.valNum == 0) (some true) (bindO (atO k 1) fun x7 => some (x7.valNum == 1))) (iteO (op == 36) (bindO (atO k 0) fun x8 => bindO (atO k 1) fun x9 => some (x8.valNum == x9.valNum)) (iteO (op == 37) (bindO (atO k 0) fun x10 => bindO (atO k 1) fun x11 => bindO (F1051 N x10 x11) fun r12 => some r12) (iteO (op == 38) (bindO (atO k 0) fun x13 => bindO (atO k 1) fun x14 => some (decide (x13.valNum ≤ x14.valNum))) (iteO (op == 39) (bindO (atO k 0) fun x15 => bindO (atO k 1) fun x16 => some (decide (x15.valNum < x16.valNum))) (iteO (op == 40) (bindO (atO k 1) fun x17 => bindO (atO k 0) fun x18 => bindO (F1053 N x17.valSet x18.valNum) fun r19 => some r19.2) (iteO (op == 41) (bindO (atO k 0) fun x20 => foldN (S := Unit) (F1045_s1 N k) (F1045_f1) N x20.valSet 0 ()) (some false)))))))))))
@[push_cast] def ar33 : Rs (Int × (List Val)) := rsC (rI .i64) (rsO (rL 5 Val.cells Val.cells_inj))
@[push_cast] def v33 (r : Bool) : AV := .bool r
@[push_cast] def sh33 : Shp := .one (.leaf none)
noncomputable def t33 (N : Nat) : List AV → Option AV := TL ar33.e fun x => bindO (F1045 N x.1 x.2) fun r => some (v33 r)
@[push_cast] def H32 : Nat → Hint
 | _ => ⟨[], [], []⟩
def F1044 (b : Bool) : Option (Val) := iteO b (some (⟨2, 1, [], [], []⟩ : Val)) (some (⟨2, 0, [], [], []⟩ : Val))
@[push_cast] def ar32 : Rs Bool := rsO rB
@[push_cast] def v32 (r : Val) : AV := .agg (Val.cells r)
@[push_cast] def sh32 : Shp := .one (.agg [none, none, some 1, some 1, some 1])
noncomputable def t32 : List AV → Option AV := TL ar32.e fun x => bindO (F1044 x) fun r => some (v32 r)
@[push_cast] def H2000 : Nat → Hint
 | 0 => ⟨[0, 3, 4, 5, 13, 14, 15], [0, 3, 4, 5], []⟩
 | 1 => ⟨[], [0, 3, 4, 5, 13, 14, 15], []⟩
 | 2 => ⟨[], [3, 4, 5], []⟩
 | _ => ⟨[], [], []⟩
@[push_cast] def H26 : Nat → Hint
 | 0 => ⟨[1, 3, 8, 9, 20, 21, 22], [3, 8], []⟩
 | 1 => ⟨[], [1, 3, 8, 9, 20, 21, 22], []⟩
 | _ => ⟨[], [], []⟩
@[push_cast] def H27 : Nat → Hint
 | _ => ⟨[], [], []⟩
@[push_cast] def H28 : Nat → Hint
 | _ => ⟨[], [], []⟩
def F1399_s1 (self2000 : Node → (List Entry) → Bool → Option (Val × Bool)) (h2 : List Entry) (s3 : (List Val) × Bool) (i1 : Nat) (x2 : Node) : Option (Sum ((List Val) × Bool) (Val × Bool)) := bindO (self2000 x2 h2 s3.2) fun r4 => iteO (fits (s3.1.length + 1) 88) (some (.inl (s3.1 ++ ([r4.1]), r4.2))) (none)
def F1399_s2 (N : Nat) (s3 : (List Val) × Bool) (u1 : Node) (s7 : Unit) (i5 : Nat) (x6 : Entry) : Option (Sum (Unit) (Val × Bool)) := iteO (x6.entryName.toList == u1.name.toList) (bindO (F1037 N x6 (⟨u1.name, [], (⟨u1.sortf, 0, [], [], []⟩ : Val)⟩ : Entry)) fun r8 => iteO r8 (some (.inr (x6.entryVal, s3.2))) (some (.inl ()))) (some (.inl ()))
def F1399_f2 (s3 : (List Val) × Bool) (u1 : Node) (s7 : Unit) : Option (Val × Bool) := some ((⟨u1.sortf, 0, [], [], []⟩ : Val), s3.2)
def F1399_s3 (N : Nat) (s3 : (List Val) × Bool) (u1 : Node) (s11 : Unit) (i9 : Nat) (x10 : Entry) : Option (Sum (Unit) (Val × Bool)) := iteO (x10.entryName.toList == u1.name.toList) (bindO (F1037 N x10 (⟨u1.name, s3.1, (⟨u1.sortf, 0, [], [], []⟩ : Val)⟩ : Entry)) fun r12 => iteO r12 (some (.inr (x10.entryVal, s3.2))) (some (.inl ()))) (some (.inl ()))
def F1399_f3 (s3 : (List Val) × Bool) (u1 : Node) (s11 : Unit) : Option (Val × Bool) := some ((⟨u1.sortf, 0, [], [], []⟩ : Val), s3.2)
def F1399_f1 (N : Nat) (h2 : List Entry) (u1 : Node) (s3 : (List Val) × Bool) : Option (Val × Bool) := iteO (u1.op == 1) (foldN (S := Unit) (F1399_s2 N s3 u1) (F1399_f2 s3 u1) N h2 0 ()) (iteO (u1.op == 3) (foldN (S := Unit) (F1399_s3 N s3 u1) (F1399_f3 s3 u1) N h2 0 ()) (iteO (u1.op == 2) (iteO (decide (u1.num < (-1152921504606846976))) (some ((⟨1, 0, [], [], []⟩ : Val), true)) (iteO (decide (u1.num > 1152921504606846976)) (some ((⟨1, 0, [], [], []⟩ : Val), true)) (some ((⟨1, u1.num, [], [], []⟩ : Val), s3.2)))) (iteO (u1.op == 4) (bindO (atO s3.1 0) fun x13 => bindO (atO s3.1 1) fun x14 => iteO (decide ((IntKind.i64.wrap (x13.valNum + x14.valNum)) < (-1152921504606846976))) (some ((⟨1, 0, [], [], []⟩ : Val), true)) (iteO (decide ((IntKind.i64.wrap (x13.valNum + x14.valNum)) > 1152921504606846976)) (some ((⟨1, 0, [], [], []⟩ : Val), true)) (some ((⟨1, IntKind.i64.wrap (x13.valNum + x14.valNum), [], [], []⟩ : Val), s3.2)))) (iteO (u1.op == 5) (bindO (atO s3.1 0) fun x15 => bindO (atO s3.1 1) fun x16 => iteO (decide ((IntKind.i64.wrap (x15.valNum - x16.valNum)) < (-1152921504606846976))) (some ((⟨1, 0, [], [], []⟩ : Val), true)) (iteO (decide ((IntKind.i64.wrap (x15.valNum - x16.valNum)) > 1152921504606846976)) (some ((⟨1, 0, [], [], []⟩ : Val), true)) (some ((⟨1, IntKind.i64.wrap (x15.valNum - x16.valNum), [], [], []⟩ : Val), s3.2)))) (iteO (u1.op == 6) (bindO (atO s3.1 0) fun x17 => iteO (decide ((IntKind.i64.wrap (0 - x17.valNum)) < (-1152921504606846976))) (some ((⟨1, 0, [], [], []⟩ : Val), true)) (iteO (decide ((IntKind.i64.wrap (0 - x17.valNum)) > 1152921504606846976)) (some ((⟨1, 0, [], [], []⟩ : Val), true)) (some ((⟨1, IntKind.i64.wrap (0 - x17.valNum), [], [], []⟩ : Val), s3.2)))) (iteO (u1.op == 7) (bindO (atO s3.1 0) fun x18 => iteO (u1.num == 0) (iteO (decide ((IntKind.i64.wrap (u1.num * x18.valNum)) < (-1152921504606846976))) (some ((⟨1, 0, [], [], []⟩ : Val), true)) (iteO (decide ((IntKind.i64.wrap (u1.num * x18.valNum)) > 1152921504606846976)) (some ((⟨1, 0, [], [], []⟩ : Val), true)) (some ((⟨1, IntKind.i64.wrap (u1.num * x18.valNum), [], [], []⟩ : Val), s3.2)))) (bindO (F1052 u1.num) fun r19 => iteO (decide (r19 = 0)) (none) (iteO (decide (x18.valNum > (IntKind.i64.wrap ((1152921504606846976 : Int).tdiv r19)))) (some ((⟨1, 0, [], [], []⟩ : Val), true)) (bindO (F1052 u1.num) fun r20 => iteO (decide (r20 = 0)) (none) (iteO (decide (x18.valNum < (IntKind.i64.wrap (0 - (IntKind.i64.wrap ((1152921504606846976 : Int).tdiv r20)))))) (some ((⟨1, 0, [], [], []⟩ : Val), true)) (iteO (decide ((IntKind.i64.wrap (u1.num * x18.valNum)) < (-1152921504606846976))) (some ((⟨1, 0, [], [], []⟩ : Val), true)) (iteO (decide ((IntKind.i64.wrap (u1.num * x18.valNum)) > 1152921504606846976)) (some ((⟨1, 0, [], [], []⟩ : Val), true)) (some ((⟨1, IntKind.i64.wrap (u1.num * x18.valNum), [], [], []⟩ : Val), s3.2))))))))) (iteO (u1.op == 8) (bindO (atO s3.1 0) fun x21 => iteO (x21.valNum == 1) (bindO (atO s3.1 1) fun x22 => some (x22, s3.2)) (bindO (atO s3.1 2) fun x23 => some (x23, s3.2))) (iteO (u1.op == 14) (bindO (atO s3.1 0) fun x24 => bindO (atO s3.1 1) fun x25 => bindO (F1041 N x24 x25.valNum) fun r26 => iteO (decide (r26 < (-1152921504606846976))) (some ((⟨1, 0, [], [], []⟩ : Val), true)) (iteO (decide (r26 > 1152921504606846976)) (some ((⟨1, 0, [], [], []⟩ : Val), true)) (some ((⟨1, r26, [], [], []⟩ : Val), s3.2)))) (iteO (u1.op == 16) (bindO (atO s3.1 0) fun x27 => iteO (decide (x27.valNum < (-1152921504606846976))) (some ((⟨1, 0, [], [], []⟩ : Val), true)) (iteO (decide (x27.valNum > 1152921504606846976)) (some ((⟨1, 0, [], [], []⟩ : Val), true)) (some ((⟨1, x27.valNum, [], [], []⟩ : Val), s3.2)))) (iteO (u1.op == 15) (bindO (atO s3.1 0) fun x28 => bindO (atO s3.1 1) fun x29 => bindO (atO s3.1 2) fun x30 => bindO (F1400 N x28 x29.valNum x30.valNum h2 s3.2) fun r31 => some (r31.1, r31.2)) (iteO (u1.op == 9) (bindO (F1401 N u1.op s3.1 h2 s3.2) fun r32 => some (r32.1, r32.2)) (iteO (u1.op == 10) (bindO (F1401 N u1.op s3.1 h2 s3.2) fun r33 => some (r33.1, r33.2)) (iteO (u1.op == 11) (bindO (F1401 N u1.op s3.1 h2 s3.2) fun r34 => some (r34.1, r34.2)) (iteO (u1.op == 12) (bindO (F1401 N u1.op s3.1 h2 s3.2) fun r35 => some (r35.1, r35.2)) (iteO (u1.op == 13) (bindO (F1401 N u1.op s3.1 h2 s3.2) fun r36 => some (r36.1, r36.2)) (bindO (F1045 N u1.op s3.1) fun r37 => bindO (F1044 r37) fun r38 => some (r38, s3.2)))))))))))))))))
def F1399b (self2000 : Node → (List Entry) → Bool → Option (Val × Bool)) (N : Nat) (u1 : Node) (h2 : List Entry) (h3 : Bool) : Option (Val × Bool) := iteO (decide (0 ≤ 0 ∧ 0 ≤ (u1.kids.length : Int) ∧ (u1.kids.length : Int) * 88 ≤ 140737488355328 ∧ (u1.kids.length : Int) ≤ 9223372036854775807)) (foldN (S := (List Val) × Bool) (F1399_s1 self2000 h2) (F1399_f1 N h2 u1) N u1.kids 0 ([], h3)) (none)
def F1399 : Nat → Node → (List Entry) → Bool → Option (Val × Bool)
 | 0 => fun _ _ _ => none
 | N + 1 => fun u1 h2 h3 => F1399b (F1399 N) N u1 h2 h3
@[push_cast] def ar2000 : Ra ((Node) × (Unit)) := raK (.ptr 0 0) (wkc_ptr _ _) (raC rNode (raN))
@[push_cast] def st2000 : Rt (((List Entry) × (Bool × Unit)) × (Unit)) := rtC (oVar (rcL 7 Entry.cells Entry.cells_inj (rcB (rcN)))) (rtN)
@[push_cast] def v2000 (u1 : Node) (h2 : List Entry) (h3 : Bool) (r : Val × Bool) : AV := .agg [.int .i64 r.1.valSort, .int .i64 r.1.valNum, .sl false 1 (List.map (cI .i64) r.1.valSet), .sl false 1 (List.map (cI .i64) r.1.valAt), .sl false 1 (List.map (cI .i64) r.1.valTo)]
@[push_cast] def so2000 (u1 : Node) (h2 : List Entry) (h3 : Bool) (r : Val × Bool) : Store := [.var [.sl false 7 (List.map Entry.cells h2), .bool r.2]]
@[push_cast] def sh2000 : Shp := .one (.agg [none, none, some 1, some 1, some 1])
@[push_cast] def sw2000 : List ShO := [.var [some 7, none]]
noncomputable def t2000 (N : Nat) : List AV → Store → Option (AV × Store) := TLS (fun x : ((Node) × (Unit)) × (((List Entry) × (Bool × Unit)) × (Unit)) => ar2000.e x.1) (fun x => st2000.e x.2) fun x => bindO (F1399 N x.1.1 x.2.1.1 x.2.1.2.1) fun r => some (v2000 x.1.1 x.2.1.1 x.2.1.2.1 r, so2000 x.1.1 x.2.1.1 x.2.1.2.1 r)
noncomputable def ts2000 (self2000 : Node → (List Entry) → Bool → Option (Val × Bool)) : List AV → Store → Option (AV × Store) := TLS (fun x : ((Node) × (Unit)) × (((List Entry) × (Bool × Unit)) × (Unit)) => ar2000.e x.1) (fun x => st2000.e x.2) fun x => bindO (self2000 x.1.1 x.2.1.1 x.2.1.2.1) fun r => some (v2000 x.1.1 x.2.1.1 x.2.1.2.1 r, so2000 x.1.1 x.2.1.1 x.2.1.2.1 r)
@[push_cast] theorem t2000_1 (self2000 : Node → (List Entry) → Bool → Option (Val × Bool)) (z1 : Int) (z2 : Int) (z3 : ByteArray) (z4 : Int) (z5 : List Node) (z6 : List Entry) (z7 : Bool) (z8 : AObj) (z9 : AObj) (z10 : AObj) (z11 : AObj) : lensRun 1 [.keep, .keep] (ts2000 self2000) [.ptr 0 0, .agg [.int .i64 z1, .int .i64 z2, .str z3, .int .i64 z4, .sl false 5 (List.map Node.cells z5)]] [.var [.sl false 7 (List.map Entry.cells z6), .bool z7], z8, z9, z10, z11] = bindO (self2000 (⟨z1, z2, z3, z4, z5⟩ : Node) z6 z7) fun r => some (.agg [.int .i64 r.1.valSort, .int .i64 r.1.valNum, .sl false 1 (List.map (cI .i64) r.1.valSet), .sl false 1 (List.map (cI .i64) r.1.valAt), .sl false 1 (List.map (cI .i64) r.1.valTo)], [.var [.sl false 7 (List.map Entry.cells z6), .bool r.2], z8, z9, z10, z11]) :=
 lens_hit (X := ((Node) × (Unit)) × (((List Entry) × (Bool × Unit)) × (Unit))) (F := fun x => self2000 x.1.1 x.2.1.1 x.2.1.2.1) (v := fun x r => v2000 x.1.1 x.2.1.1 x.2.1.2.1 r) (so := fun x r => so2000 x.1.1 x.2.1.1 x.2.1.2.1 r) (args2 := [.ptr 0 0, .agg [.int .i64 z1, .int .i64 z2, .str z3, .int .i64 z4, .sl false 5 (List.map Node.cells z5)]]) (σ2 := [.var [.sl false 7 (List.map Entry.cells z6), .bool z7], z8, z9, z10, z11]) (ras_inj ar2000 st2000) [some 0] (((⟨z1, z2, z3, z4, z5⟩ : Node), ()), ((z6, (z7, ())), ())) rfl rfl rfl (by (try simp only [push_cast]) <;> rfl) (by (try simp only [push_cast]) <;> rfl) (fun _ => (by (try simp only [push_cast]) <;> rfl)) (fun _ => (by (try simp only [push_cast]) <;> rfl)) (fun _ => rfl)
@[push_cast] theorem t25_3 {N : Nat} (z1 : ByteArray) (z2 : List Val) (z3 : Int) (z4 : Int) (z5 : List Int) (z6 : List Int) (z7 : List Int) (z8 : ByteArray) (z10 : Int) (z11 : Int) : t25 N [.agg [.str z1, .sl false 5 (List.map Val.cells z2), .int .i64 z3, .int .i64 z4, .sl false 1 (List.map (cI .i64) z5), .sl false 1 (List.map (cI .i64) z6), .sl false 1 (List.map (cI .i64) z7)], .agg [.str z8, .sl true 0 [], .int .i64 z10, .int .i64 z11, .sl true 1 [], .sl true 1 [], .sl true 1 []]] = bindO (F1037 N (⟨z1, z2, (⟨z3, z4, z5, z6, z7⟩ : Val)⟩ : Entry) (⟨z8, [], (⟨z10, z11, [], [], []⟩ : Val)⟩ : Entry)) fun r => some (v25 r) :=
 TL_hit ar25.inj ((⟨z1, z2, (⟨z3, z4, z5, z6, z7⟩ : Val)⟩ : Entry), (⟨z8, [], (⟨z10, z11, [], [], []⟩ : Val)⟩ : Entry)) (by simp only [push_cast] <;> rfl)
@[push_cast] theorem t25_4 {N : Nat} (z1 : ByteArray) (z2 : List Val) (z3 : Int) (z4 : Int) (z5 : List Int) (z6 : List Int) (z7 : List Int) (z8 : ByteArray) (z10 : Int) (z11 : Int) : t25 N [.agg [.str z1, .sl false 5 (List.map Val.cells z2), .int .i64 z3, .int .i64 z4, .sl false 1 (List.map (cI .i64) z5), .sl false 1 (List.map (cI .i64) z6), .sl false 1 (List.map (cI .i64) z7)], .agg [.str z8, .sl false 0 [], .int .i64 z10, .int .i64 z11, .sl false 1 [], .sl false 1 [], .sl false 1 []]] = bindO (F1037 N (⟨z1, z2, (⟨z3, z4, z5, z6, z7⟩ : Val)⟩ : Entry) (⟨z8, [], (⟨z10, z11, [], [], []⟩ : Val)⟩ : Entry)) fun r => some (v25 r) :=
 TL_hit ar25.inj ((⟨z1, z2, (⟨z3, z4, z5, z6, z7⟩ : Val)⟩ : Entry), (⟨z8, [], (⟨z10, z11, [], [], []⟩ : Val)⟩ : Entry)) (by simp only [push_cast] <;> rfl)
@[push_cast] theorem t25_5 {N : Nat} (z1 : ByteArray) (z2 : List Val) (z3 : Int) (z4 : Int) (z5 : List Int) (z6 : List Int) (z7 : List Int) (z8 : ByteArray) (z9 : List Val) (z10 : Int) (z11 : Int) : t25 N [.agg [.str z1, .sl false 5 (List.map Val.cells z2), .int .i64 z3, .int .i64 z4, .sl false 1 (List.map (cI .i64) z5), .sl false 1 (List.map (cI .i64) z6), .sl false 1 (List.map (cI .i64) z7)], .agg [.str z8, .sl false 5 (List.map Val.cells z9), .int .i64 z10, .int .i64 z11, .sl false 1 [], .sl false 1 [], .sl false 1 []]] = bindO (F1037 N (⟨z1, z2, (⟨z3, z4, z5, z6, z7⟩ : Val)⟩ : Entry) (⟨z8, z9, (⟨z10, z11, [], [], []⟩ : Val)⟩ : Entry)) fun r => some (v25 r) :=
 TL_hit ar25.inj ((⟨z1, z2, (⟨z3, z4, z5, z6, z7⟩ : Val)⟩ : Entry), (⟨z8, z9, (⟨z10, z11, [], [], []⟩ : Val)⟩ : Entry)) (by simp only [push_cast] <;> rfl)
@[push_cast] theorem t47_1 (z1 : Int) : t47 [.int .i64 z1] = bindO (F1052 z1) fun r => some (v47 r) :=
 TL_hit ar47.inj z1 (by simp only [push_cast] <;> rfl)
@[push_cast] theorem t29_1 {N : Nat} (z1 : Int) (z2 : Int) (z3 : List Int) (z4 : List Int) (z5 : List Int) (z6 : Int) : t29 N [.agg [.int .i64 z1, .int .i64 z2, .sl false 1 (List.map (cI .i64) z3), .sl false 1 (List.map (cI .i64) z4), .sl false 1 (List.map (cI .i64) z5)], .int .i64 z6] = bindO (F1041 N (⟨z1, z2, z3, z4, z5⟩ : Val) z6) fun r => some (v29 r) :=
 TL_hit ar29.inj ((⟨z1, z2, z3, z4, z5⟩ : Val), z6) (by simp only [push_cast] <;> rfl)
@[push_cast] theorem t2001_1 {N : Nat} (z1 : Int) (z2 : Int) (z3 : List Int) (z4 : List Int) (z5 : List Int) (z6 : Int) (z7 : Int) (z8 : List Entry) (z9 : Bool) (z10 : AObj) (z11 : AObj) (z12 : AObj) : lensRun 1 [.keep, .keep, .keep, .keep] (t2001 N) [.ptr 0 0, .agg [.int .i64 z1, .int .i64 z2, .sl false 1 (List.map (cI .i64) z3), .sl false 1 (List.map (cI .i64) z4), .sl false 1 (List.map (cI .i64) z5)], .int .i64 z6, .int .i64 z7] [.var [.sl false 7 (List.map Entry.cells z8), .bool z9], z10, z11, z12] = bindO (F1400 N (⟨z1, z2, z3, z4, z5⟩ : Val) z6 z7 z8 z9) fun r => some (.agg [.int .i64 r.1.valSort, .int .i64 r.1.valNum, .sl false 1 (List.map (cI .i64) r.1.valSet), .sl false 1 (List.map (cI .i64) r.1.valAt), .sl false 1 (List.map (cI .i64) r.1.valTo)], [.var [.sl false 7 (List.map Entry.cells z8), .bool r.2], z10, z11, z12]) :=
 lens_hit (X := ((Val) × ((Int) × ((Int) × (Unit)))) × (((List Entry) × (Bool × Unit)) × (Unit))) (F := fun x => F1400 N x.1.1 x.1.2.1 x.1.2.2.1 x.2.1.1 x.2.1.2.1) (v := fun x r => v2001 x.1.1 x.1.2.1 x.1.2.2.1 x.2.1.1 x.2.1.2.1 r) (so := fun x r => so2001 x.1.1 x.1.2.1 x.1.2.2.1 x.2.1.1 x.2.1.2.1 r) (args2 := [.ptr 0 0, .agg [.int .i64 z1, .int .i64 z2, .sl false 1 (List.map (cI .i64) z3), .sl false 1 (List.map (cI .i64) z4), .sl false 1 (List.map (cI .i64) z5)], .int .i64 z6, .int .i64 z7]) (σ2 := [.var [.sl false 7 (List.map Entry.cells z8), .bool z9], z10, z11, z12]) (ras_inj ar2001 st2001) [some 0] (((⟨z1, z2, z3, z4, z5⟩ : Val), (z6, (z7, ()))), ((z8, (z9, ())), ())) rfl rfl rfl (by (try simp only [push_cast]) <;> rfl) (by (try simp only [push_cast]) <;> rfl) (fun _ => (by (try simp only [push_cast]) <;> rfl)) (fun _ => (by (try simp only [push_cast]) <;> rfl)) (fun _ => rfl)
@[push_cast] theorem t2002_1 {N : Nat} (z1 : Int) (z2 : List Entry) (z3 : Bool) (z4 : AObj) (z5 : AObj) (z6 : List Val) : lensRun 1 [.keep, .keep, .give] (t2002 N) [.ptr 0 0, .int .i64 z1, .rs 3 0] [.var [.sl false 7 (List.map Entry.cells z2), .bool z3], z4, z5, .row 5 0 (List.map Val.cells z6)] = bindO (F1401 N z1 z6 z2 z3) fun r => some (.agg [.int .i64 r.1.valSort, .int .i64 r.1.valNum, .sl false 1 (List.map (cI .i64) r.1.valSet), .sl false 1 (List.map (cI .i64) r.1.valAt), .sl false 1 (List.map (cI .i64) r.1.valTo)], [.var [.sl false 7 (List.map Entry.cells z2), .bool r.2], z4, z5, .frz 5 0 (List.map Val.cells z6)]) :=
 lens_hit (X := ((Int) × ((List Val) × (Unit))) × (((List Entry) × (Bool × Unit)) × (Unit))) (F := fun x => F1401 N x.1.1 x.1.2.1 x.2.1.1 x.2.1.2.1) (v := fun x r => v2002 x.1.1 x.1.2.1 x.2.1.1 x.2.1.2.1 r) (so := fun x r => so2002 x.1.1 x.1.2.1 x.2.1.1 x.2.1.2.1 r) (args2 := [.ptr 0 0, .int .i64 z1, .sl false 5 (List.map Val.cells z6)]) (σ2 := [.var [.sl false 7 (List.map Entry.cells z2), .bool z3], z4, z5, .frz 5 0 (List.map Val.cells z6)]) (ras_inj ar2002 st2002) [some 0] ((z1, (z6, ())), ((z2, (z3, ())), ())) rfl rfl rfl (by (try simp only [push_cast]) <;> rfl) (by (try simp only [push_cast]) <;> rfl) (fun _ => (by (try simp only [push_cast]) <;> rfl)) (fun _ => (by (try simp only [push_cast]) <;> rfl)) (fun _ => rfl)
@[push_cast] theorem t33_1 {N : Nat} (z1 : Int) (z2 : List Val) : t33 N [.int .i64 z1, .sl false 5 (List.map Val.cells z2)] = bindO (F1045 N z1 z2) fun r => some (v33 r) :=
 TL_hit ar33.inj (z1, z2) (by simp only [push_cast] <;> rfl)
@[push_cast] theorem t32_1 (z1 : Bool) : t32 [.bool z1] = bindO (F1044 z1) fun r => some (v32 r) :=
 TL_hit ar32.inj z1 (by simp only [push_cast] <;> rfl)
@[push_cast] def H11 : Nat → Hint
 | _ => ⟨[], [], []⟩
def F1031 (N : Nat) (n : Node) (m : List Entry) (sortq : Int) : Option (Val × Int) := bindO (F14 N n sortq) fun r1 => iteO (r1 == 0) (bindO (F42 n) fun r2 => iteO r2 (some ((⟨0, 0, [], [], []⟩ : Val), 3)) (bindO (F1033 N m) fun r3 => iteO r3 (bindO (F1399 N n m false) fun r4 => iteO r4.2 (some ((⟨0, 0, [], [], []⟩ : Val), 2)) (iteO (fits (r4.1.valSet.length) 8) (iteO (fits (r4.1.valAt.length) 8) (iteO (fits (r4.1.valTo.length) 8) (some (r4.1, 0)) (none)) (none)) (none))) (some ((⟨0, 0, [], [], []⟩ : Val), 3)))) (some ((⟨0, 0, [], [], []⟩ : Val), r1))
@[push_cast] def ar11 : Rs (Node × (List Entry) × Int) := rsC rNode (rsC (rL 7 Entry.cells Entry.cells_inj) (rsO (rI .i64)))
@[push_cast] def v11 (r : Val × Int) : AV := .tuple [.agg (Val.cells r.1), .int .i64 r.2]
@[push_cast] def sh11 : Shp := .tup [.agg [none, none, some 1, some 1, some 1], .leaf none]
noncomputable def t11 (N : Nat) : List AV → Option AV := TL ar11.e fun x => bindO (F1031 N x.1 x.2.1 x.2.2) fun r => some (v11 r)
@[push_cast] theorem t14_1 {N : Nat} (z1 : Int) (z2 : Int) (z3 : ByteArray) (z4 : Int) (z5 : List Node) (z6 : Int) : t14 N [.agg [.int .i64 z1, .int .i64 z2, .str z3, .int .i64 z4, .sl false 5 (List.map Node.cells z5)], .int .i64 z6] = bindO (F14 N (⟨z1, z2, z3, z4, z5⟩ : Node) z6) fun r => some (v14 r) :=
 TL_hit ar14.inj ((⟨z1, z2, z3, z4, z5⟩ : Node), z6) (by simp only [push_cast] <;> rfl)
@[push_cast] theorem t15_1 (z1 : Int) (z2 : Int) (z3 : ByteArray) (z4 : Int) (z5 : List Node) : t15 [.agg [.int .i64 z1, .int .i64 z2, .str z3, .int .i64 z4, .sl false 5 (List.map Node.cells z5)]] = bindO (F42 (⟨z1, z2, z3, z4, z5⟩ : Node)) fun r => some (v15 r) :=
 TL_hit ar15.inj (⟨z1, z2, z3, z4, z5⟩ : Node) (by simp only [push_cast] <;> rfl)
@[push_cast] theorem t16_1 {N : Nat} (z1 : List Entry) : t16 N [.sl false 7 (List.map Entry.cells z1)] = bindO (F1033 N z1) fun r => some (v16 r) :=
 TL_hit ar16.inj z1 (by simp only [push_cast] <;> rfl)
@[push_cast] theorem t2000_2 {N : Nat} (z1 : Int) (z2 : Int) (z3 : ByteArray) (z4 : Int) (z5 : List Node) (z6 : AObj) (z7 : AObj) (z8 : List Entry) (z9 : Bool) : lensRun 1 [.keep, .keep] (t2000 N) [.ptr 2 0, .agg [.int .i64 z1, .int .i64 z2, .str z3, .int .i64 z4, .sl false 5 (List.map Node.cells z5)]] [z6, z7, .var [.sl false 7 (List.map Entry.cells z8), .bool z9]] = bindO (F1399 N (⟨z1, z2, z3, z4, z5⟩ : Node) z8 z9) fun r => some (.agg [.int .i64 r.1.valSort, .int .i64 r.1.valNum, .sl false 1 (List.map (cI .i64) r.1.valSet), .sl false 1 (List.map (cI .i64) r.1.valAt), .sl false 1 (List.map (cI .i64) r.1.valTo)], [z6, z7, .var [.sl false 7 (List.map Entry.cells z8), .bool r.2]]) :=
 lens_hit (X := ((Node) × (Unit)) × (((List Entry) × (Bool × Unit)) × (Unit))) (F := fun x => F1399 N x.1.1 x.2.1.1 x.2.1.2.1) (v := fun x r => v2000 x.1.1 x.2.1.1 x.2.1.2.1 r) (so := fun x r => so2000 x.1.1 x.2.1.1 x.2.1.2.1 r) (args2 := [.ptr 2 0, .agg [.int .i64 z1, .int .i64 z2, .str z3, .int .i64 z4, .sl false 5 (List.map Node.cells z5)]]) (σ2 := [z6, z7, .var [.sl false 7 (List.map Entry.cells z8), .bool z9]]) (ras_inj ar2000 st2000) [some 2] (((⟨z1, z2, z3, z4, z5⟩ : Node), ()), ((z8, (z9, ())), ())) rfl rfl rfl (by (try simp only [push_cast]) <;> rfl) (by (try simp only [push_cast]) <;> rfl) (fun _ => (by (try simp only [push_cast]) <;> rfl)) (fun _ => (by (try simp only [push_cast]) <;> rfl)) (fun _ => rfl)
@[push_cast] def H8 : Nat → Hint
 | _ => ⟨[], [], []⟩
def F1029 (N : Nat) (n : Node) (m : List Entry) : Option (Val × Int) := bindO (F1031 N n m 0) fun r1 => some (r1.1, r1.2)
@[push_cast] def ar8 : Rs (Node × (List Entry)) := rsC rNode (rsO (rL 7 Entry.cells Entry.cells_inj))
@[push_cast] def v8 (r : Val × Int) : AV := .tuple [.agg (Val.cells r.1), .int .i64 r.2]
@[push_cast] def sh8 : Shp := .tup [.agg [none, none, some 1, some 1, some 1], .leaf none]
noncomputable def t8 (N : Nat) : List AV → Option AV := TL ar8.e fun x => bindO (F1029 N x.1 x.2) fun r => some (v8 r)
@[push_cast] theorem t11_1 {N : Nat} (z1 : Int) (z2 : Int) (z3 : ByteArray) (z4 : Int) (z5 : List Node) (z6 : List Entry) (z7 : Int) : t11 N [.agg [.int .i64 z1, .int .i64 z2, .str z3, .int .i64 z4, .sl false 5 (List.map Node.cells z5)], .sl false 7 (List.map Entry.cells z6), .int .i64 z7] = bindO (F1031 N (⟨z1, z2, z3, z4, z5⟩ : Node) z6 z7) fun r => some (v11 r) :=
 TL_hit ar11.inj ((⟨z1, z2, z3, z4, z5⟩ : Node), z6, z7) (by simp only [push_cast] <;> rfl)
@[push_cast] def H4 : Nat → Hint
 | _ => ⟨[], [], []⟩
def F1027 (N : Nat) : Option (Bool) := bindO (F1029 N (⟨1, 1, (⟨#[120]⟩ : ByteArray), 0, []⟩ : Node) ([(⟨(⟨#[120]⟩ : ByteArray), [], (⟨1, 2, [], [], []⟩ : Val)⟩ : Entry)])) fun r1 => iteO (r1.2 == 0) (iteO (r1.1.valSort == 1) (some (r1.1.valNum == 2)) (some false)) (some false)
@[push_cast] def ar4 : Rs Unit := rsN
@[push_cast] def v4 (r : Bool) : AV := .bool r
@[push_cast] def sh4 : Shp := .one (.leaf none)
noncomputable def t4 (N : Nat) : List AV → Option AV := TL ar4.e fun x => bindO (F1027 N) fun r => some (v4 r)
@[push_cast] theorem t8_1 {N : Nat} (z1 : Int) (z2 : Int) (z3 : ByteArray) (z4 : Int) (z7 : ByteArray) (z9 : Int) (z10 : Int) : t8 N [.agg [.int .i64 z1, .int .i64 z2, .str z3, .int .i64 z4, .sl true 5 []], .sl true 7 [[.str z7, .sl false 5 [], .int .i64 z9, .int .i64 z10, .sl false 1 [], .sl false 1 [], .sl false 1 []]]] = bindO (F1029 N (⟨z1, z2, z3, z4, []⟩ : Node) ([(⟨z7, [], (⟨z9, z10, [], [], []⟩ : Val)⟩ : Entry)])) fun r => some (v8 r) :=
 TL_hit ar8.inj ((⟨z1, z2, z3, z4, []⟩ : Node), [(⟨z7, [], (⟨z9, z10, [], [], []⟩ : Val)⟩ : Entry)]) (by simp only [push_cast] <;> rfl)
@[push_cast] theorem t8_2 {N : Nat} (z1 : Int) (z2 : Int) (z3 : ByteArray) (z4 : Int) (z7 : ByteArray) (z9 : Int) (z10 : Int) : t8 N [.agg [.int .i64 z1, .int .i64 z2, .str z3, .int .i64 z4, .sl false 5 []], .sl false 7 [[.str z7, .sl false 5 [], .int .i64 z9, .int .i64 z10, .sl false 1 [], .sl false 1 [], .sl false 1 []]]] = bindO (F1029 N (⟨z1, z2, z3, z4, []⟩ : Node) ([(⟨z7, [], (⟨z9, z10, [], [], []⟩ : Val)⟩ : Entry)])) fun r => some (v8 r) :=
 TL_hit ar8.inj ((⟨z1, z2, z3, z4, []⟩ : Node), [(⟨z7, [], (⟨z9, z10, [], [], []⟩ : Val)⟩ : Entry)]) (by simp only [push_cast] <;> rfl)
@[push_cast] def H5 : Nat → Hint
 | 0 => ⟨[], [1], []⟩
 | _ => ⟨[], [], []⟩
def F28b (self5 : Node → Option (Int)) (N : Nat) (n : Node) : Option (Int) := iteO (n.op == 1) (some n.sortf) (iteO (n.op == 3) (some n.sortf) (iteO (n.op == 2) (some 1) (iteO (n.op == 4) (some 1) (iteO (n.op == 5) (some 1) (iteO (n.op == 6) (some 1) (iteO (n.op == 7) (some 1) (iteO (n.op == 14) (some 1) (iteO (n.op == 16) (some 1) (iteO (n.op == 8) (iteO (decide ((n.kids.length : Int) < 2)) (some 0) (bindO (atO n.kids 1) fun x1 => bindO (self5 x1) fun r2 => some r2)) (iteO (n.op == 9) (some 4) (iteO (n.op == 10) (some 4) (iteO (n.op == 11) (some 4) (iteO (n.op == 12) (some 4) (iteO (n.op == 13) (some 4) (iteO (n.op == 15) (some 5) (iteO (decide (n.op ≥ 30)) (iteO (decide (n.op ≤ 42)) (some 2) (some 0)) (some 0)))))))))))))))))
def F28 : Nat → Node → Option (Int)
 | 0 => fun _ => none
 | N + 1 => fun n => F28b (F28 N) N n
@[push_cast] def ar5 : Rs Node := rsO rNode
@[push_cast] def v5 (r : Int) : AV := .int .i64 r
@[push_cast] def sh5 : Shp := .one (.leaf none)
noncomputable def t5 (N : Nat) : List AV → Option AV := TL ar5.e fun x => bindO (F28 N x) fun r => some (v5 r)
noncomputable def ts5 (self5 : Node → Option (Int)) : List AV → Option AV := TL ar5.e fun x => bindO (self5 x) fun r => some (v5 r)
@[push_cast] theorem t5_1 (self5 : Node → Option (Int)) (z1 : Int) (z2 : Int) (z3 : ByteArray) (z4 : Int) (z5 : List Node) : ts5 self5 [.agg [.int .i64 z1, .int .i64 z2, .str z3, .int .i64 z4, .sl false 5 (List.map Node.cells z5)]] = bindO (self5 (⟨z1, z2, z3, z4, z5⟩ : Node)) fun r => some (v5 r) :=
 TL_hit ar5.inj (⟨z1, z2, z3, z4, z5⟩ : Node) (by simp only [push_cast] <;> rfl)
@[push_cast] def H13 : Nat → Hint
 | _ => ⟨[], [], []⟩
def F1032 (v : Val) : Option (Bool) := iteO (decide ((v.valSet.length : Int) ≤ 250)) (iteO (decide ((v.valAt.length : Int) ≤ 250)) (some (decide ((v.valTo.length : Int) ≤ 250))) (some false)) (some false)
@[push_cast] def ar13 : Rs Val := rsO rVal
@[push_cast] def v13 (r : Bool) : AV := .bool r
@[push_cast] def sh13 : Shp := .one (.leaf none)
noncomputable def t13 : List AV → Option AV := TL ar13.e fun x => bindO (F1032 x) fun r => some (v13 r)
@[push_cast] def H10 : Nat → Hint
 | 0 => ⟨[16, 17, 18], [], []⟩
 | 1 => ⟨[], [16, 17, 18], []⟩
 | _ => ⟨[], [], []⟩
def F1030_s1  (s4 : Unit) (i2 : Nat) (x3 : Val) : Option (Sum (Unit) (Bool)) := bindO (F1032 x3) fun r5 => iteO r5 (some (.inl ())) (some (.inr false))
def F1030_f1  (s4 : Unit) : Option (Bool) := some true
def F1030 (N : Nat) (e : Entry) : Option (Bool) := iteO (decide ((e.entryArgs.length : Int) > 10)) (some false) (bindO (F1032 e.entryVal) fun r1 => iteO r1 (foldN (S := Unit) (F1030_s1) (F1030_f1) N e.entryArgs 0 ()) (some false))
@[push_cast] def ar10 : Rs Entry := rsO rEntry
@[push_cast] def v10 (r : Bool) : AV := .bool r
@[push_cast] def sh10 : Shp := .one (.leaf none)
noncomputable def t10 (N : Nat) : List AV → Option AV := TL ar10.e fun x => bindO (F1030 N x) fun r => some (v10 r)
@[push_cast] theorem t13_1 (z1 : Int) (z2 : Int) (z3 : List Int) (z4 : List Int) (z5 : List Int) : t13 [.agg [.int .i64 z1, .int .i64 z2, .sl false 1 (List.map (cI .i64) z3), .sl false 1 (List.map (cI .i64) z4), .sl false 1 (List.map (cI .i64) z5)]] = bindO (F1032 (⟨z1, z2, z3, z4, z5⟩ : Val)) fun r => some (v13 r) :=
 TL_hit ar13.inj (⟨z1, z2, z3, z4, z5⟩ : Val) (by simp only [push_cast] <;> rfl)
@[push_cast] def H6 : Nat → Hint
 | 0 => ⟨[8, 9, 10], [], []⟩
 | 1 => ⟨[], [8, 9, 10], []⟩
 | _ => ⟨[], [], []⟩
def F1028_s1 (N : Nat) (s3 : Unit) (i1 : Nat) (x2 : Entry) : Option (Sum (Unit) (Bool)) := bindO (F1030 N x2) fun r4 => iteO r4 (some (.inl ())) (some (.inr false))
def F1028_f1  (s3 : Unit) : Option (Bool) := some true
def F1028 (N : Nat) (m : List Entry) : Option (Bool) := iteO (decide ((m.length : Int) > 60)) (some false) (foldN (S := Unit) (F1028_s1 N) (F1028_f1) N m 0 ())
@[push_cast] def ar6 : Rs (List Entry) := rsO (rL 7 Entry.cells Entry.cells_inj)
@[push_cast] def v6 (r : Bool) : AV := .bool r
@[push_cast] def sh6 : Shp := .one (.leaf none)
noncomputable def t6 (N : Nat) : List AV → Option AV := TL ar6.e fun x => bindO (F1028 N x) fun r => some (v6 r)
@[push_cast] theorem t10_1 {N : Nat} (z1 : ByteArray) (z2 : List Val) (z3 : Int) (z4 : Int) (z5 : List Int) (z6 : List Int) (z7 : List Int) : t10 N [.agg [.str z1, .sl false 5 (List.map Val.cells z2), .int .i64 z3, .int .i64 z4, .sl false 1 (List.map (cI .i64) z5), .sl false 1 (List.map (cI .i64) z6), .sl false 1 (List.map (cI .i64) z7)]] = bindO (F1030 N (⟨z1, z2, (⟨z3, z4, z5, z6, z7⟩ : Val)⟩ : Entry)) fun r => some (v10 r) :=
 TL_hit ar10.inj (⟨z1, z2, (⟨z3, z4, z5, z6, z7⟩ : Val)⟩ : Entry) (by simp only [push_cast] <;> rfl)
@[push_cast] def H7 : Nat → Hint
 | 0 => ⟨[3, 7, 8, 9], [3], []⟩
 | 1 => ⟨[], [3, 7, 8, 9], []⟩
 | _ => ⟨[], [], []⟩
def F27_s1 (self7 : Node → Option (Int)) (s3 : Int) (i1 : Nat) (x2 : Node) : Option (Sum (Int) (Int)) := bindO (self7 x2) fun r4 => some (.inl (IntKind.i64.wrap (s3 + r4)))
def F27_f1  (s3 : Int) : Option (Int) := some s3
def F27b (self7 : Node → Option (Int)) (N : Nat) (n : Node) : Option (Int) := foldN (S := Int) (F27_s1 self7) (F27_f1) N n.kids 0 1
def F27 : Nat → Node → Option (Int)
 | 0 => fun _ => none
 | N + 1 => fun n => F27b (F27 N) N n
@[push_cast] def ar7 : Rs Node := rsO rNode
@[push_cast] def v7 (r : Int) : AV := .int .i64 r
@[push_cast] def sh7 : Shp := .one (.leaf none)
noncomputable def t7 (N : Nat) : List AV → Option AV := TL ar7.e fun x => bindO (F27 N x) fun r => some (v7 r)
noncomputable def ts7 (self7 : Node → Option (Int)) : List AV → Option AV := TL ar7.e fun x => bindO (self7 x) fun r => some (v7 r)
@[push_cast] theorem t7_1 (self7 : Node → Option (Int)) (z1 : Int) (z2 : Int) (z3 : ByteArray) (z4 : Int) (z5 : List Node) : ts7 self7 [.agg [.int .i64 z1, .int .i64 z2, .str z3, .int .i64 z4, .sl false 5 (List.map Node.cells z5)]] = bindO (self7 (⟨z1, z2, z3, z4, z5⟩ : Node)) fun r => some (v7 r) :=
 TL_hit ar7.inj (⟨z1, z2, z3, z4, z5⟩ : Node) (by simp only [push_cast] <;> rfl)
@[push_cast] def H12 : Nat → Hint
 | 0 => ⟨[0, 1, 12, 13], [], []⟩
 | 1 => ⟨[], [0, 1, 12, 13], []⟩
 | _ => ⟨[], [], []⟩
def F189_s1 (b : List Int) (s3 : Unit) (i1 : Nat) (x2 : Int) : Option (Sum (Unit) (Bool)) := bindO (atO b (i1 : Int)) fun x4 => iteO (x2 == x4) (some (.inl ())) (some (.inr false))
def F189_f1  (s3 : Unit) : Option (Bool) := some true
def F189 (N : Nat) (a : List Int) (b : List Int) : Option (Bool) := iteO ((a.length : Int) == (b.length : Int)) (foldN (S := Unit) (F189_s1 b) (F189_f1) N a 0 ()) (some false)
@[push_cast] def ar12 : Rs ((List Int) × (List Int)) := rsC (rL 1 (cI .i64) (cI_inj .i64)) (rsO (rL 1 (cI .i64) (cI_inj .i64)))
@[push_cast] def v12 (r : Bool) : AV := .bool r
@[push_cast] def sh12 : Shp := .one (.leaf none)
noncomputable def t12 (N : Nat) : List AV → Option AV := TL ar12.e fun x => bindO (F189 N x.1 x.2) fun r => some (v12 r)
@[push_cast] def H9 : Nat → Hint
 | _ => ⟨[], [], []⟩
def F183 (N : Nat) (a : Val) (b : Val) : Option (Bool) := iteO (a.valSort == b.valSort) (iteO (a.valNum == b.valNum) (bindO (F189 N a.valSet b.valSet) fun r1 => iteO r1 (bindO (F189 N a.valAt b.valAt) fun r2 => iteO r2 (bindO (F189 N a.valTo b.valTo) fun r3 => some r3) (some false)) (some false)) (some false)) (some false)
@[push_cast] def ar9 : Rs (Val × Val) := rsC rVal (rsO rVal)
@[push_cast] def v9 (r : Bool) : AV := .bool r
@[push_cast] def sh9 : Shp := .one (.leaf none)
noncomputable def t9 (N : Nat) : List AV → Option AV := TL ar9.e fun x => bindO (F183 N x.1 x.2) fun r => some (v9 r)
@[push_cast] theorem t12_1 {N : Nat} (z1 : List Int) (z2 : List Int) : t12 N [.sl false 1 (List.map (cI .i64) z1), .sl false 1 (List.map (cI .i64) z2)] = bindO (F189 N z1 z2) fun r => some (v12 r) :=
 TL_hit ar12.inj (z1, z2) (by simp only [push_cast] <;> rfl)
@[push_cast] def H3 : Nat → Hint
 | _ => ⟨[], [], []⟩
def F1026 (N : Nat) (a : Node) (i : Node) (j : Node) (x : Node) (m : List Entry) : Option (Bool) := bindO (F1027 N) fun r1 => iteO r1 (bindO (F28 N a) fun r2 => iteO (r2 == 5) (bindO (F28 N i) fun r3 => iteO (r3 == 1) (bindO (F28 N j) fun r4 => iteO (r4 == 1) (bindO (F28 N x) fun r5 => iteO (r5 == 1) (bindO (F1028 N m) fun r6 => iteO r6 (bindO (F27 N (⟨14, 0, (⟨#[]⟩ : ByteArray), 0, [(⟨15, 0, (⟨#[]⟩ : ByteArray), 0, [a, i, x]⟩ : Node), j]⟩ : Node)) fun r7 => iteO (decide (r7 > 240)) (some true) (bindO (F1029 N (⟨14, 0, (⟨#[]⟩ : ByteArray), 0, [(⟨15, 0, (⟨#[]⟩ : ByteArray), 0, [a, i, x]⟩ : Node), j]⟩ : Node) m) fun r8 => bindO (F1029 N i m) fun r9 => bindO (F1029 N j m) fun r10 => iteO (r8.2 == 0) (iteO (r9.2 == 0) (iteO (r10.2 == 0) (iteO (r9.1.valNum == r10.1.valNum) (bindO (F1029 N x m) fun r16 => bindO (F1029 N (⟨16, 0, (⟨#[]⟩ : ByteArray), 0, [(⟨15, 0, (⟨#[]⟩ : ByteArray), 0, [a, i, x]⟩ : Node)]⟩ : Node) m) fun r17 => bindO (F1029 N (⟨16, 0, (⟨#[]⟩ : ByteArray), 0, [a]⟩ : Node) m) fun r18 => iteO (r16.2 == 0) (bindO (F183 N r8.1 r16.1) fun r19 => iteO r19 (iteO (r17.2 == 0) (iteO (r18.2 == 0) (bindO (F183 N r17.1 r18.1) fun r20 => some r20) (some false)) (some false)) (some false)) (some false)) (bindO (F1029 N (⟨14, 0, (⟨#[]⟩ : ByteArray), 0, [a, j]⟩ : Node) m) fun r11 => bindO (F1029 N (⟨16, 0, (⟨#[]⟩ : ByteArray), 0, [(⟨15, 0, (⟨#[]⟩ : ByteArray), 0, [a, i, x]⟩ : Node)]⟩ : Node) m) fun r12 => bindO (F1029 N (⟨16, 0, (⟨#[]⟩ : ByteArray), 0, [a]⟩ : Node) m) fun r13 => iteO (r11.2 == 0) (bindO (F183 N r8.1 r11.1) fun r14 => iteO r14 (iteO (r12.2 == 0) (iteO (r13.2 == 0) (bindO (F183 N r12.1 r13.1) fun r15 => some r15) (some false)) (some false)) (some false)) (some false))) (some true)) (some true)) (some true))) (some true)) (some true)) (some true)) (some true)) (some true)) (some false)
@[push_cast] def ar3 : Rs (Node × Node × Node × Node × (List Entry)) := rsC rNode (rsC rNode (rsC rNode (rsC rNode (rsO (rL 7 Entry.cells Entry.cells_inj)))))
@[push_cast] def v3 (r : Bool) : AV := .bool r
@[push_cast] def sh3 : Shp := .one (.leaf none)
noncomputable def t3 (N : Nat) : List AV → Option AV := TL ar3.e fun x => bindO (F1026 N x.1 x.2.1 x.2.2.1 x.2.2.2.1 x.2.2.2.2) fun r => some (v3 r)
@[push_cast] theorem t4_1 {N : Nat}  : t4 N [] = bindO (F1027 N) fun r => some (v4 r) :=
 TL_hit ar4.inj () (by simp only [push_cast] <;> rfl)
@[push_cast] theorem t5_2 {N : Nat} (z1 : Int) (z2 : Int) (z3 : ByteArray) (z4 : Int) (z5 : List Node) : t5 N [.agg [.int .i64 z1, .int .i64 z2, .str z3, .int .i64 z4, .sl false 5 (List.map Node.cells z5)]] = bindO (F28 N (⟨z1, z2, z3, z4, z5⟩ : Node)) fun r => some (v5 r) :=
 TL_hit ar5.inj (⟨z1, z2, z3, z4, z5⟩ : Node) (by simp only [push_cast] <;> rfl)
@[push_cast] theorem t6_1 {N : Nat} (z1 : List Entry) : t6 N [.sl false 7 (List.map Entry.cells z1)] = bindO (F1028 N z1) fun r => some (v6 r) :=
 TL_hit ar6.inj z1 (by simp only [push_cast] <;> rfl)
@[push_cast] theorem t7_2 {N : Nat} (z1 : Int) (z2 : Int) (z3 : ByteArray) (z4 : Int) (z6 : Int) (z7 : Int) (z8 : ByteArray) (z9 : Int) (z11 : Int) (z12 : Int) (z13 : ByteArray) (z14 : Int) (z15 : List Node) (z16 : Int) (z17 : Int) (z18 : ByteArray) (z19 : Int) (z20 : List Node) (z21 : Int) (z22 : Int) (z23 : ByteArray) (z24 : Int) (z25 : List Node) (z26 : Int) (z27 : Int) (z28 : ByteArray) (z29 : Int) (z30 : List Node) : t7 N [.agg [.int .i64 z1, .int .i64 z2, .str z3, .int .i64 z4, .sl true 5 [[.int .i64 z6, .int .i64 z7, .str z8, .int .i64 z9, .sl false 5 [[.int .i64 z11, .int .i64 z12, .str z13, .int .i64 z14, .sl false 5 (List.map Node.cells z15)], [.int .i64 z16, .int .i64 z17, .str z18, .int .i64 z19, .sl false 5 (List.map Node.cells z20)], [.int .i64 z21, .int .i64 z22, .str z23, .int .i64 z24, .sl false 5 (List.map Node.cells z25)]]], [.int .i64 z26, .int .i64 z27, .str z28, .int .i64 z29, .sl false 5 (List.map Node.cells z30)]]]] = bindO (F27 N (⟨z1, z2, z3, z4, [(⟨z6, z7, z8, z9, [(⟨z11, z12, z13, z14, z15⟩ : Node), (⟨z16, z17, z18, z19, z20⟩ : Node), (⟨z21, z22, z23, z24, z25⟩ : Node)]⟩ : Node), (⟨z26, z27, z28, z29, z30⟩ : Node)]⟩ : Node)) fun r => some (v7 r) :=
 TL_hit ar7.inj (⟨z1, z2, z3, z4, [(⟨z6, z7, z8, z9, [(⟨z11, z12, z13, z14, z15⟩ : Node), (⟨z16, z17, z18, z19, z20⟩ : Node), (⟨z21, z22, z23, z24, z25⟩ : Node)]⟩ : Node), (⟨z26, z27, z28, z29, z30⟩ : Node)]⟩ : Node) (by simp only [push_cast] <;> rfl)
@[push_cast] theorem t7_3 {N : Nat} (z1 : Int) (z2 : Int) (z3 : ByteArray) (z4 : Int) (z6 : Int) (z7 : Int) (z8 : ByteArray) (z9 : Int) (z11 : Int) (z12 : Int) (z13 : ByteArray) (z14 : Int) (z15 : List Node) (z16 : Int) (z17 : Int) (z18 : ByteArray) (z19 : Int) (z20 : List Node) (z21 : Int) (z22 : Int) (z23 : ByteArray) (z24 : Int) (z25 : List Node) (z26 : Int) (z27 : Int) (z28 : ByteArray) (z29 : Int) (z30 : List Node) : t7 N [.agg [.int .i64 z1, .int .i64 z2, .str z3, .int .i64 z4, .sl false 5 [[.int .i64 z6, .int .i64 z7, .str z8, .int .i64 z9, .sl false 5 [[.int .i64 z11, .int .i64 z12, .str z13, .int .i64 z14, .sl false 5 (List.map Node.cells z15)], [.int .i64 z16, .int .i64 z17, .str z18, .int .i64 z19, .sl false 5 (List.map Node.cells z20)], [.int .i64 z21, .int .i64 z22, .str z23, .int .i64 z24, .sl false 5 (List.map Node.cells z25)]]], [.int .i64 z26, .int .i64 z27, .str z28, .int .i64 z29, .sl false 5 (List.map Node.cells z30)]]]] = bindO (F27 N (⟨z1, z2, z3, z4, [(⟨z6, z7, z8, z9, [(⟨z11, z12, z13, z14, z15⟩ : Node), (⟨z16, z17, z18, z19, z20⟩ : Node), (⟨z21, z22, z23, z24, z25⟩ : Node)]⟩ : Node), (⟨z26, z27, z28, z29, z30⟩ : Node)]⟩ : Node)) fun r => some (v7 r) :=
 TL_hit ar7.inj (⟨z1, z2, z3, z4, [(⟨z6, z7, z8, z9, [(⟨z11, z12, z13, z14, z15⟩ : Node), (⟨z16, z17, z18, z19, z20⟩ : Node), (⟨z21, z22, z23, z24, z25⟩ : Node)]⟩ : Node), (⟨z26, z27, z28, z29, z30⟩ : Node)]⟩ : Node) (by simp only [push_cast] <;> rfl)
@[push_cast] theorem t8_3 {N : Nat} (z1 : Int) (z2 : Int) (z3 : ByteArray) (z4 : Int) (z6 : Int) (z7 : Int) (z8 : ByteArray) (z9 : Int) (z11 : Int) (z12 : Int) (z13 : ByteArray) (z14 : Int) (z15 : List Node) (z16 : Int) (z17 : Int) (z18 : ByteArray) (z19 : Int) (z20 : List Node) (z21 : Int) (z22 : Int) (z23 : ByteArray) (z24 : Int) (z25 : List Node) (z26 : Int) (z27 : Int) (z28 : ByteArray) (z29 : Int) (z30 : List Node) (z31 : List Entry) : t8 N [.agg [.int .i64 z1, .int .i64 z2, .str z3, .int .i64 z4, .sl true 5 [[.int .i64 z6, .int .i64 z7, .str z8, .int .i64 z9, .sl false 5 [[.int .i64 z11, .int .i64 z12, .str z13, .int .i64 z14, .sl false 5 (List.map Node.cells z15)], [.int .i64 z16, .int .i64 z17, .str z18, .int .i64 z19, .sl false 5 (List.map Node.cells z20)], [.int .i64 z21, .int .i64 z22, .str z23, .int .i64 z24, .sl false 5 (List.map Node.cells z25)]]], [.int .i64 z26, .int .i64 z27, .str z28, .int .i64 z29, .sl false 5 (List.map Node.cells z30)]]], .sl false 7 (List.map Entry.cells z31)] = bindO (F1029 N (⟨z1, z2, z3, z4, [(⟨z6, z7, z8, z9, [(⟨z11, z12, z13, z14, z15⟩ : Node), (⟨z16, z17, z18, z19, z20⟩ : Node), (⟨z21, z22, z23, z24, z25⟩ : Node)]⟩ : Node), (⟨z26, z27, z28, z29, z30⟩ : Node)]⟩ : Node) z31) fun r => some (v8 r) :=
 TL_hit ar8.inj ((⟨z1, z2, z3, z4, [(⟨z6, z7, z8, z9, [(⟨z11, z12, z13, z14, z15⟩ : Node), (⟨z16, z17, z18, z19, z20⟩ : Node), (⟨z21, z22, z23, z24, z25⟩ : Node)]⟩ : Node), (⟨z26, z27, z28, z29, z30⟩ : Node)]⟩ : Node), z31) (by simp only [push_cast] <;> rfl)
@[push_cast] theorem t8_4 {N : Nat} (z1 : Int) (z2 : Int) (z3 : ByteArray) (z4 : Int) (z6 : Int) (z7 : Int) (z8 : ByteArray) (z9 : Int) (z11 : Int) (z12 : Int) (z13 : ByteArray) (z14 : Int) (z15 : List Node) (z16 : Int) (z17 : Int) (z18 : ByteArray) (z19 : Int) (z20 : List Node) (z21 : Int) (z22 : Int) (z23 : ByteArray) (z24 : Int) (z25 : List Node) (z26 : Int) (z27 : Int) (z28 : ByteArray) (z29 : Int) (z30 : List Node) (z31 : List Entry) : t8 N [.agg [.int .i64 z1, .int .i64 z2, .str z3, .int .i64 z4, .sl false 5 [[.int .i64 z6, .int .i64 z7, .str z8, .int .i64 z9, .sl false 5 [[.int .i64 z11, .int .i64 z12, .str z13, .int .i64 z14, .sl false 5 (List.map Node.cells z15)], [.int .i64 z16, .int .i64 z17, .str z18, .int .i64 z19, .sl false 5 (List.map Node.cells z20)], [.int .i64 z21, .int .i64 z22, .str z23, .int .i64 z24, .sl false 5 (List.map Node.cells z25)]]], [.int .i64 z26, .int .i64 z27, .str z28, .int .i64 z29, .sl false 5 (List.map Node.cells z30)]]], .sl false 7 (List.map Entry.cells z31)] = bindO (F1029 N (⟨z1, z2, z3, z4, [(⟨z6, z7, z8, z9, [(⟨z11, z12, z13, z14, z15⟩ : Node), (⟨z16, z17, z18, z19, z20⟩ : Node), (⟨z21, z22, z23, z24, z25⟩ : Node)]⟩ : Node), (⟨z26, z27, z28, z29, z30⟩ : Node)]⟩ : Node) z31) fun r => some (v8 r) :=
 TL_hit ar8.inj ((⟨z1, z2, z3, z4, [(⟨z6, z7, z8, z9, [(⟨z11, z12, z13, z14, z15⟩ : Node), (⟨z16, z17, z18, z19, z20⟩ : Node), (⟨z21, z22, z23, z24, z25⟩ : Node)]⟩ : Node), (⟨z26, z27, z28, z29, z30⟩ : Node)]⟩ : Node), z31) (by simp only [push_cast] <;> rfl)
@[push_cast] theorem t8_5 {N : Nat} (z1 : Int) (z2 : Int) (z3 : ByteArray) (z4 : Int) (z5 : List Node) (z6 : List Entry) : t8 N [.agg [.int .i64 z1, .int .i64 z2, .str z3, .int .i64 z4, .sl false 5 (List.map Node.cells z5)], .sl false 7 (List.map Entry.cells z6)] = bindO (F1029 N (⟨z1, z2, z3, z4, z5⟩ : Node) z6) fun r => some (v8 r) :=
 TL_hit ar8.inj ((⟨z1, z2, z3, z4, z5⟩ : Node), z6) (by simp only [push_cast] <;> rfl)
@[push_cast] theorem t8_6 {N : Nat} (z1 : Int) (z2 : Int) (z3 : ByteArray) (z4 : Int) (z6 : Int) (z7 : Int) (z8 : ByteArray) (z9 : Int) (z10 : List Node) (z11 : Int) (z12 : Int) (z13 : ByteArray) (z14 : Int) (z15 : List Node) (z16 : List Entry) : t8 N [.agg [.int .i64 z1, .int .i64 z2, .str z3, .int .i64 z4, .sl true 5 [[.int .i64 z6, .int .i64 z7, .str z8, .int .i64 z9, .sl false 5 (List.map Node.cells z10)], [.int .i64 z11, .int .i64 z12, .str z13, .int .i64 z14, .sl false 5 (List.map Node.cells z15)]]], .sl false 7 (List.map Entry.cells z16)] = bindO (F1029 N (⟨z1, z2, z3, z4, [(⟨z6, z7, z8, z9, z10⟩ : Node), (⟨z11, z12, z13, z14, z15⟩ : Node)]⟩ : Node) z16) fun r => some (v8 r) :=
 TL_hit ar8.inj ((⟨z1, z2, z3, z4, [(⟨z6, z7, z8, z9, z10⟩ : Node), (⟨z11, z12, z13, z14, z15⟩ : Node)]⟩ : Node), z16) (by simp only [push_cast] <;> rfl)
@[push_cast] theorem t8_7 {N : Nat} (z1 : Int) (z2 : Int) (z3 : ByteArray) (z4 : Int) (z6 : Int) (z7 : Int) (z8 : ByteArray) (z9 : Int) (z10 : List Node) (z11 : Int) (z12 : Int) (z13 : ByteArray) (z14 : Int) (z15 : List Node) (z16 : List Entry) : t8 N [.agg [.int .i64 z1, .int .i64 z2, .str z3, .int .i64 z4, .sl false 5 [[.int .i64 z6, .int .i64 z7, .str z8, .int .i64 z9, .sl false 5 (List.map Node.cells z10)], [.int .i64 z11, .int .i64 z12, .str z13, .int .i64 z14, .sl false 5 (List.map Node.cells z15)]]], .sl false 7 (List.map Entry.cells z16)] = bindO (F1029 N (⟨z1, z2, z3, z4, [(⟨z6, z7, z8, z9, z10⟩ : Node), (⟨z11, z12, z13, z14, z15⟩ : Node)]⟩ : Node) z16) fun r => some (v8 r) :=
 TL_hit ar8.inj ((⟨z1, z2, z3, z4, [(⟨z6, z7, z8, z9, z10⟩ : Node), (⟨z11, z12, z13, z14, z15⟩ : Node)]⟩ : Node), z16) (by simp only [push_cast] <;> rfl)
@[push_cast] theorem t8_8 {N : Nat} (z1 : Int) (z2 : Int) (z3 : ByteArray) (z4 : Int) (z6 : Int) (z7 : Int) (z8 : ByteArray) (z9 : Int) (z11 : Int) (z12 : Int) (z13 : ByteArray) (z14 : Int) (z15 : List Node) (z16 : Int) (z17 : Int) (z18 : ByteArray) (z19 : Int) (z20 : List Node) (z21 : Int) (z22 : Int) (z23 : ByteArray) (z24 : Int) (z25 : List Node) (z26 : List Entry) : t8 N [.agg [.int .i64 z1, .int .i64 z2, .str z3, .int .i64 z4, .sl true 5 [[.int .i64 z6, .int .i64 z7, .str z8, .int .i64 z9, .sl false 5 [[.int .i64 z11, .int .i64 z12, .str z13, .int .i64 z14, .sl false 5 (List.map Node.cells z15)], [.int .i64 z16, .int .i64 z17, .str z18, .int .i64 z19, .sl false 5 (List.map Node.cells z20)], [.int .i64 z21, .int .i64 z22, .str z23, .int .i64 z24, .sl false 5 (List.map Node.cells z25)]]]]], .sl false 7 (List.map Entry.cells z26)] = bindO (F1029 N (⟨z1, z2, z3, z4, [(⟨z6, z7, z8, z9, [(⟨z11, z12, z13, z14, z15⟩ : Node), (⟨z16, z17, z18, z19, z20⟩ : Node), (⟨z21, z22, z23, z24, z25⟩ : Node)]⟩ : Node)]⟩ : Node) z26) fun r => some (v8 r) :=
 TL_hit ar8.inj ((⟨z1, z2, z3, z4, [(⟨z6, z7, z8, z9, [(⟨z11, z12, z13, z14, z15⟩ : Node), (⟨z16, z17, z18, z19, z20⟩ : Node), (⟨z21, z22, z23, z24, z25⟩ : Node)]⟩ : Node)]⟩ : Node), z26) (by simp only [push_cast] <;> rfl)
@[push_cast] theorem t8_9 {N : Nat} (z1 : Int) (z2 : Int) (z3 : ByteArray) (z4 : Int) (z6 : Int) (z7 : Int) (z8 : ByteArray) (z9 : Int) (z11 : Int) (z12 : Int) (z13 : ByteArray) (z14 : Int) (z15 : List Node) (z16 : Int) (z17 : Int) (z18 : ByteArray) (z19 : Int) (z20 : List Node) (z21 : Int) (z22 : Int) (z23 : ByteArray) (z24 : Int) (z25 : List Node) (z26 : List Entry) : t8 N [.agg [.int .i64 z1, .int .i64 z2, .str z3, .int .i64 z4, .sl false 5 [[.int .i64 z6, .int .i64 z7, .str z8, .int .i64 z9, .sl false 5 [[.int .i64 z11, .int .i64 z12, .str z13, .int .i64 z14, .sl false 5 (List.map Node.cells z15)], [.int .i64 z16, .int .i64 z17, .str z18, .int .i64 z19, .sl false 5 (List.map Node.cells z20)], [.int .i64 z21, .int .i64 z22, .str z23, .int .i64 z24, .sl false 5 (List.map Node.cells z25)]]]]], .sl false 7 (List.map Entry.cells z26)] = bindO (F1029 N (⟨z1, z2, z3, z4, [(⟨z6, z7, z8, z9, [(⟨z11, z12, z13, z14, z15⟩ : Node), (⟨z16, z17, z18, z19, z20⟩ : Node), (⟨z21, z22, z23, z24, z25⟩ : Node)]⟩ : Node)]⟩ : Node) z26) fun r => some (v8 r) :=
 TL_hit ar8.inj ((⟨z1, z2, z3, z4, [(⟨z6, z7, z8, z9, [(⟨z11, z12, z13, z14, z15⟩ : Node), (⟨z16, z17, z18, z19, z20⟩ : Node), (⟨z21, z22, z23, z24, z25⟩ : Node)]⟩ : Node)]⟩ : Node), z26) (by simp only [push_cast] <;> rfl)
@[push_cast] theorem t8_10 {N : Nat} (z1 : Int) (z2 : Int) (z3 : ByteArray) (z4 : Int) (z6 : Int) (z7 : Int) (z8 : ByteArray) (z9 : Int) (z10 : List Node) (z11 : List Entry) : t8 N [.agg [.int .i64 z1, .int .i64 z2, .str z3, .int .i64 z4, .sl true 5 [[.int .i64 z6, .int .i64 z7, .str z8, .int .i64 z9, .sl false 5 (List.map Node.cells z10)]]], .sl false 7 (List.map Entry.cells z11)] = bindO (F1029 N (⟨z1, z2, z3, z4, [(⟨z6, z7, z8, z9, z10⟩ : Node)]⟩ : Node) z11) fun r => some (v8 r) :=
 TL_hit ar8.inj ((⟨z1, z2, z3, z4, [(⟨z6, z7, z8, z9, z10⟩ : Node)]⟩ : Node), z11) (by simp only [push_cast] <;> rfl)
@[push_cast] theorem t8_11 {N : Nat} (z1 : Int) (z2 : Int) (z3 : ByteArray) (z4 : Int) (z6 : Int) (z7 : Int) (z8 : ByteArray) (z9 : Int) (z10 : List Node) (z11 : List Entry) : t8 N [.agg [.int .i64 z1, .int .i64 z2, .str z3, .int .i64 z4, .sl false 5 [[.int .i64 z6, .int .i64 z7, .str z8, .int .i64 z9, .sl false 5 (List.map Node.cells z10)]]], .sl false 7 (List.map Entry.cells z11)] = bindO (F1029 N (⟨z1, z2, z3, z4, [(⟨z6, z7, z8, z9, z10⟩ : Node)]⟩ : Node) z11) fun r => some (v8 r) :=
 TL_hit ar8.inj ((⟨z1, z2, z3, z4, [(⟨z6, z7, z8, z9, z10⟩ : Node)]⟩ : Node), z11) (by simp only [push_cast] <;> rfl)
@[push_cast] theorem t9_1 {N : Nat} (z1 : Int) (z2 : Int) (z3 : List Int) (z4 : List Int) (z5 : List Int) (z6 : Int) (z7 : Int) (z8 : List Int) (z9 : List Int) (z10 : List Int) : t9 N [.agg [.int .i64 z1, .int .i64 z2, .sl false 1 (List.map (cI .i64) z3), .sl false 1 (List.map (cI .i64) z4), .sl false 1 (List.map (cI .i64) z5)], .agg [.int .i64 z6, .int .i64 z7, .sl false 1 (List.map (cI .i64) z8), .sl false 1 (List.map (cI .i64) z9), .sl false 1 (List.map (cI .i64) z10)]] = bindO (F183 N (⟨z1, z2, z3, z4, z5⟩ : Val) (⟨z6, z7, z8, z9, z10⟩ : Val)) fun r => some (v9 r) :=
 TL_hit ar9.inj ((⟨z1, z2, z3, z4, z5⟩ : Val), (⟨z6, z7, z8, z9, z10⟩ : Val)) (by simp only [push_cast] <;> rfl)
structure Decl where
 declName : ByteArray
 declSort : Int
 deriving Inhabited
def F39_s1 (self79 : Node → Option (Int)) (s3 : Int) (i1 : Nat) (x2 : Node) : Option (Sum (Int) (Int)) := bindO (self79 x2) fun r4 => some (.inl (max s3 r4))
def F39_f1  (s3 : Int) : Option (Int) := some (IntKind.i64.wrap (s3 + 1))
def F39b (self79 : Node → Option (Int)) (N : Nat) (n : Node) : Option (Int) := foldN (S := Int) (F39_s1 self79) (F39_f1) N n.kids 0 0
def F39 : Nat → Node → Option (Int)
 | 0 => fun _ => none
 | N + 1 => fun n => F39b (F39 N) N n
def F75 (c : Int) : Option (Bool) := iteO (decide (c ≥ 97)) (iteO (decide (c ≤ 122)) (some true) (iteO (decide (c ≥ 65)) (some (decide (c ≤ 90))) (some false))) (iteO (decide (c ≥ 65)) (some (decide (c ≤ 90))) (some false))
def F121  : Option (List ByteArray) := some ([(⟨#[116, 114, 117, 101]⟩ : ByteArray), (⟨#[102, 97, 108, 115, 101]⟩ : ByteArray), (⟨#[105, 110]⟩ : ByteArray), (⟨#[115, 117, 98]⟩ : ByteArray), (⟨#[101, 109, 112, 116, 121]⟩ : ByteArray), (⟨#[115, 105, 110, 103]⟩ : ByteArray), (⟨#[99, 117, 112]⟩ : ByteArray), (⟨#[99, 97, 112]⟩ : ByteArray), (⟨#[100, 105, 102, 102]⟩ : ByteArray), (⟨#[115, 101, 108]⟩ : ByteArray), (⟨#[115, 116, 111]⟩ : ByteArray), (⟨#[118, 108, 101, 110]⟩ : ByteArray), (⟨#[105, 116, 101]⟩ : ByteArray)])
def F76_s1 (s : ByteArray) (s4 : Unit) (i2 : Nat) (x3 : ByteArray) : Option (Sum (Unit) (Bool)) := iteO (x3.toList == s.toList) (some (.inr true)) (some (.inl ()))
def F76_f1  (s4 : Unit) : Option (Bool) := some false
def F76 (N : Nat) (s : ByteArray) : Option (Bool) := bindO (F121) fun r1 => foldN (S := Unit) (F76_s1 s) (F76_f1) N r1 0 ()
def F77 (c : Int) : Option (Bool) := iteO (decide (c ≥ 48)) (some (decide (c ≤ 57))) (some false)
def F17_s1 (s : ByteArray) (s3 : Int) : Option (Sum (Int) (Bool)) := iteO (decide (s3 < (s.size : Int))) (iteO (inB s3 s.size) (bindO (F75 (bt s s3)) fun r4 => iteO r4 (some (.inl (IntKind.i64.wrap (s3 + 1)))) (bindO (F77 (bt s s3)) fun r5 => iteO r5 (some (.inl (IntKind.i64.wrap (s3 + 1)))) (iteO ((bt s s3) == 46) (some (.inl (IntKind.i64.wrap (s3 + 1)))) (some (.inr false))))) (none)) (some (.inr true))
def F17 (N : Nat) (s : ByteArray) : Option (Bool) := iteO ((s.size : Int) == 0) (some false) (iteO (decide ((s.size : Int) > 24)) (some false) (iteO (inB 0 s.size) (bindO (F75 (bt s 0)) fun r1 => iteO r1 (bindO (F76 N s) fun r2 => iteO r2 (some false) (whileN (S := Int) (F17_s1 s) N 1)) (some false)) (none)))
def F118 (N : Nat) (n : Node) : Option (Bool) := iteO (n.op == 1) (bindO (F17 N n.name) fun r2 => iteO r2 (iteO (decide (n.sortf < 1)) (some false) (iteO (decide (n.sortf > 5)) (some false) (iteO (n.op == 2) (iteO (decide (n.num ≥ (-1000000000000))) (some (decide (n.num ≤ 1000000000000))) (some false)) (iteO (n.op == 7) (iteO (decide (n.num ≥ (-1000000000000))) (some (decide (n.num ≤ 1000000000000))) (some false)) (iteO (n.op == 42) (iteO (decide (n.num ≥ 0)) (some (decide (n.num < 200))) (some false)) (some (n.num == 0))))))) (some false)) (iteO (n.op == 3) (bindO (F17 N n.name) fun r1 => iteO r1 (iteO (decide (n.sortf < 1)) (some false) (iteO (decide (n.sortf > 5)) (some false) (iteO (n.op == 2) (iteO (decide (n.num ≥ (-1000000000000))) (some (decide (n.num ≤ 1000000000000))) (some false)) (iteO (n.op == 7) (iteO (decide (n.num ≥ (-1000000000000))) (some (decide (n.num ≤ 1000000000000))) (some false)) (iteO (n.op == 42) (iteO (decide (n.num ≥ 0)) (some (decide (n.num < 200))) (some false)) (some (n.num == 0))))))) (some false)) (iteO (n.name.toList == (⟨#[]⟩ : ByteArray).toList) (iteO (n.sortf == 0) (iteO (n.op == 2) (iteO (decide (n.num ≥ (-1000000000000))) (some (decide (n.num ≤ 1000000000000))) (some false)) (iteO (n.op == 7) (iteO (decide (n.num ≥ (-1000000000000))) (some (decide (n.num ≤ 1000000000000))) (some false)) (iteO (n.op == 42) (iteO (decide (n.num ≥ 0)) (some (decide (n.num < 200))) (some false)) (some (n.num == 0))))) (some false)) (some false)))
def F119 (s : Int) : Option (Bool) := iteO (s == 1) (some true) (iteO (s == 3) (some true) (iteO (s == 4) (some true) (some (s == 5))))
def F120 (op : Int) : Option ((List Int) × Bool) := iteO (op == 1) (some ([], true)) (iteO (op == 2) (some ([], true)) (iteO (op == 9) (some ([], true)) (iteO (op == 30) (some ([], true)) (iteO (op == 31) (some ([], true)) (iteO (op == 6) (some ([1], true)) (iteO (op == 7) (some ([1], true)) (iteO (op == 10) (some ([1], true)) (iteO (op == 4) (some ([1, 1], true)) (iteO (op == 5) (some ([1, 1], true)) (iteO (op == 38) (some ([1, 1], true)) (iteO (op == 39) (some ([1, 1], true)) (iteO (op == 11) (some ([4, 4], true)) (iteO (op == 12) (some ([4, 4], true)) (iteO (op == 13) (some ([4, 4], true)) (iteO (op == 41) (some ([4, 4], true)) (iteO (op == 40) (some ([1, 4], true)) (iteO (op == 14) (some ([5, 1], true)) (iteO (op == 15) (some ([5, 1, 1], true)) (iteO (op == 16) (some ([5], true)) (iteO (op == 32) (some ([2], true)) (iteO (op == 33) (some ([2, 2], true)) (iteO (op == 34) (some ([2, 2], true)) (iteO (op == 35) (some ([2, 2], true)) (iteO (op == 36) (some ([2, 2], true)) (some ([], false))))))))))))))))))))))))))
def F72_s1 (self80 : Node → Option (Bool)) (s4 : Unit) (i2 : Nat) (x3 : Node) : Option (Sum (Unit) (Bool)) := bindO (self80 x3) fun r5 => iteO r5 (some (.inl ())) (some (.inr false))
def F72_s2 (N : Nat) (n : Node) (s23 : Unit) (i21 : Nat) (x22 : Int) : Option (Sum (Unit) (Bool)) := bindO (atO n.kids (i21 : Int)) fun x24 => bindO (F28 N x24) fun r25 => iteO (r25 == x22) (some (.inl ())) (some (.inr false))
def F72_f2  (s23 : Unit) : Option (Bool) := some true
def F72_f1 (N : Nat) (n : Node) (s4 : Unit) : Option (Bool) := iteO (n.op == 3) (some (decide ((n.kids.length : Int) ≤ 8))) (iteO (n.op == 42) (iteO (decide ((n.kids.length : Int) ≥ 1)) (some (decide ((n.kids.length : Int) ≤ 40))) (some false)) (iteO (n.op == 37) (iteO ((n.kids.length : Int) == 2) (bindO (atO n.kids 0) fun x6 => bindO (F28 N x6) fun r7 => bindO (atO n.kids 1) fun x8 => bindO (F28 N x8) fun r9 => iteO (r7 == r9) (bindO (F28 N x6) fun r10 => bindO (F119 r10) fun r11 => some r11) (some false)) (some false)) (iteO (n.op == 8) (iteO ((n.kids.length : Int) == 3) (bindO (atO n.kids 0) fun x12 => bindO (F28 N x12) fun r13 => iteO (r13 == 2) (bindO (atO n.kids 1) fun x14 => bindO (F28 N x14) fun r15 => bindO (atO n.kids 2) fun x16 => bindO (F28 N x16) fun r17 => iteO (r15 == r17) (bindO (F28 N x14) fun r18 => bindO (F119 r18) fun r19 => some r19) (some false)) (some false)) (some false)) (bindO (F120 n.op) fun r20 => iteO r20.2 (iteO ((r20.1.length : Int) == (n.kids.length : Int)) (foldN (S := Unit) (F72_s2 N n) (F72_f2) N r20.1 0 ()) (some false)) (some false)))))
def F72b (self80 : Node → Option (Bool)) (N : Nat) (n : Node) : Option (Bool) := bindO (F118 N n) fun r1 => iteO r1 (foldN (S := Unit) (F72_s1 self80) (F72_f1 N n) N n.kids 0 ()) (some false)
def F72 : Nat → Node → Option (Bool)
 | 0 => fun _ => none
 | N + 1 => fun n => F72b (F72 N) N n
def F168 (a : Decl) (b : Decl) : Option (Bool) := iteO (Op.bytesLess a.declName.toList b.declName.toList) (some true) (iteO (a.declName.toList == b.declName.toList) (some (decide (a.declSort < b.declSort))) (some false))
def F140_s1 (d : Decl) (s3 : (List Decl) × Bool) (i1 : Nat) (x2 : Decl) : Option (Sum ((List Decl) × Bool) (List Decl)) := iteO ((x2.declName.toList == d.declName.toList) && (x2.declSort == d.declSort)) (iteO (fits (s3.1.length + 1) 24) (some (.inl (s3.1 ++ ([x2]), true))) (none)) (iteO s3.2 (iteO (fits (s3.1.length + 1) 24) (some (.inl (s3.1 ++ ([x2]), s3.2))) (none)) (bindO (F168 d x2) fun r4 => iteO r4 (iteO (fits (s3.1.length + 1) 24) (iteO (fits (s3.1.length + 1 + 1) 24) (some (.inl ((s3.1 ++ ([d])) ++ ([x2]), true))) (none)) (none)) (iteO (fits (s3.1.length + 1) 24) (some (.inl (s3.1 ++ ([x2]), s3.2))) (none))))
def F140_f1 (d : Decl) (s3 : (List Decl) × Bool) : Option (List Decl) := iteO s3.2 (some s3.1) (iteO (fits (s3.1.length + 1) 24) (some (s3.1 ++ ([d]))) (none))
def F140 (N : Nat) (l : List Decl) (d : Decl) : Option (List Decl) := foldN (S := (List Decl) × Bool) (F140_s1 d) (F140_f1 d) N l 0 ([], false)
def F95_s1 (self36 : (List Decl) → Node → Option (List Decl)) (s4 : List Decl) (i2 : Nat) (x3 : Node) : Option (Sum (List Decl) (List Decl)) := bindO (self36 s4 x3) fun r5 => some (.inl r5)
def F95_f1  (s4 : List Decl) : Option (List Decl) := some s4
def F95_s2 (self36 : (List Decl) → Node → Option (List Decl)) (s8 : List Decl) (i6 : Nat) (x7 : Node) : Option (Sum (List Decl) (List Decl)) := bindO (self36 s8 x7) fun r9 => some (.inl r9)
def F95_f2  (s8 : List Decl) : Option (List Decl) := some s8
def F95b (self36 : (List Decl) → Node → Option (List Decl)) (N : Nat) (l : List Decl) (n : Node) : Option (List Decl) := iteO (n.op == 1) (bindO (F140 N l (⟨n.name, n.sortf⟩ : Decl)) fun r1 => foldN (S := List Decl) (F95_s1 self36) (F95_f1) N n.kids 0 r1) (foldN (S := List Decl) (F95_s2 self36) (F95_f2) N n.kids 0 l)
def F95 : Nat → (List Decl) → Node → Option (List Decl)
 | 0 => fun _ _ => none
 | N + 1 => fun l n => F95b (F95 N) N l n
def F47 (N : Nat) (n : Node) : Option (List Decl) := bindO (F95 N ([]) n) fun r1 => some r1
def F92_s1 (self106 : Node → ByteArray → Option (Bool)) (name : ByteArray) (s3 : Unit) (i1 : Nat) (x2 : Node) : Option (Sum (Unit) (Bool)) := bindO (self106 x2 name) fun r4 => iteO r4 (some (.inr true)) (some (.inl ()))
def F92_f1  (s3 : Unit) : Option (Bool) := some false
def F92_s2 (self106 : Node → ByteArray → Option (Bool)) (name : ByteArray) (s7 : Unit) (i5 : Nat) (x6 : Node) : Option (Sum (Unit) (Bool)) := bindO (self106 x6 name) fun r8 => iteO r8 (some (.inr true)) (some (.inl ()))
def F92_f2  (s7 : Unit) : Option (Bool) := some false
def F92_s3 (self106 : Node → ByteArray → Option (Bool)) (name : ByteArray) (s11 : Unit) (i9 : Nat) (x10 : Node) : Option (Sum (Unit) (Bool)) := bindO (self106 x10 name) fun r12 => iteO r12 (some (.inr true)) (some (.inl ()))
def F92_f3  (s11 : Unit) : Option (Bool) := some false
def F92b (self106 : Node → ByteArray → Option (Bool)) (N : Nat) (n : Node) (name : ByteArray) : Option (Bool) := iteO (n.op == 3) (iteO (n.name.toList == name.toList) (iteO ((n.kids.length : Int) == 0) (some true) (foldN (S := Unit) (F92_s1 self106 name) (F92_f1) N n.kids 0 ())) (foldN (S := Unit) (F92_s2 self106 name) (F92_f2) N n.kids 0 ())) (foldN (S := Unit) (F92_s3 self106 name) (F92_f3) N n.kids 0 ())
def F92 : Nat → Node → ByteArray → Option (Bool)
 | 0 => fun _ _ => none
 | N + 1 => fun n name => F92b (F92 N) N n name
def F41_s2 (N : Nat) (n : Node) (s7 : Unit) (i5 : Nat) (x6 : Decl) : Option (Sum (Unit) (Bool)) := bindO (F92 N n x6.declName) fun r8 => iteO r8 (some (.inr false)) (some (.inl ()))
def F41_f2  (s7 : Unit) : Option (Bool) := some true
def F41_s1 (N : Nat) (n : Node) (r1 : List Decl) (s2 : Int) : Option (Sum (Int) (Bool)) := iteO (decide (s2 < (r1.length : Int))) (bindO (atO r1 (IntKind.i64.wrap (s2 - 1))) fun x3 => bindO (atO r1 s2) fun x4 => iteO (x3.declName.toList == x4.declName.toList) (some (.inr false)) (some (.inl (IntKind.i64.wrap (s2 + 1))))) (bindO (foldN (S := Unit) (F41_s2 N n) (F41_f2) N r1 0 ()) fun yy => some (.inr yy))
def F41 (N : Nat) (n : Node) : Option (Bool) := bindO (F47 N n) fun r1 => whileN (S := Int) (F41_s1 N n r1) N 1
def F15 (N : Nat) (n : Node) (sortq : Int) : Option (Int) := iteO (decide (sortq < 0)) (some 1) (iteO (decide (sortq > 5)) (some 1) (bindO (F27 N n) fun r1 => iteO (decide (r1 > 4000)) (some 2) (bindO (F39 N n) fun r2 => iteO (decide (r2 > 100)) (some 2) (bindO (F72 N n) fun r3 => iteO r3 (bindO (F41 N n) fun r4 => iteO r4 (iteO (sortq == 0) (some 0) (bindO (F28 N n) fun r5 => iteO (r5 == sortq) (some 0) (some 10))) (some 3)) (some 3)))))
def F181 (n : Int) : Option (Bool) := iteO (decide (n ≥ (-1152921504606846976))) (some (decide (n ≤ 1152921504606846976))) (some false)
def F182_s1 (l : List Int) (s3 : Unit) (i1 : Nat) (x2 : Int) : Option (Sum (Unit) (Bool)) := bindO (F181 x2) fun r4 => iteO r4 (iteO (decide ((i1 : Int) > 0)) (bindO (atO l (IntKind.i64.wrap ((i1 : Int) - 1))) fun x5 => iteO (decide (x5 ≥ x2)) (some (.inr false)) (some (.inl ()))) (some (.inl ()))) (some (.inr false))
def F182_f1 (l : List Int) (s3 : Unit) : Option (Bool) := some (decide ((l.length : Int) ≤ 200))
def F182 (N : Nat) (l : List Int) : Option (Bool) := foldN (S := Unit) (F182_s1 l) (F182_f1 l) N l 0 ()
def F171_s1  (s6 : Unit) (i4 : Nat) (x5 : Int) : Option (Sum (Unit) (Bool)) := iteO (x5 == 0) (some (.inr false)) (bindO (F181 x5) fun r7 => iteO r7 (some (.inl ())) (some (.inr false)))
def F171_f1 (v : Val) (s6 : Unit) : Option (Bool) := iteO (v.valSort == 2) (iteO (v.valNum == 0) (iteO ((v.valSet.length : Int) == 0) (some ((v.valAt.length : Int) == 0)) (some false)) (iteO (v.valNum == 1) (iteO ((v.valSet.length : Int) == 0) (some ((v.valAt.length : Int) == 0)) (some false)) (some false))) (iteO (v.valSort == 5) (iteO (decide (v.valNum ≥ 0)) (some ((v.valSet.length : Int) == 0)) (some false)) (iteO (v.valSort == 4) (iteO (v.valNum == 0) (some ((v.valAt.length : Int) == 0)) (some false)) (iteO ((v.valSet.length : Int) == 0) (some ((v.valAt.length : Int) == 0)) (some false))))
def F171 (N : Nat) (v : Val) : Option (Bool) := iteO (decide (v.valSort < 1)) (some false) (iteO (decide (v.valSort > 5)) (some false) (bindO (F181 v.valNum) fun r1 => iteO r1 (bindO (F182 N v.valSet) fun r2 => iteO r2 (bindO (F182 N v.valAt) fun r3 => iteO r3 (iteO ((v.valTo.length : Int) == (v.valAt.length : Int)) (foldN (S := Unit) (F171_s1) (F171_f1 v) N v.valTo 0 ()) (some false)) (some false)) (some false)) (some false)))
def F157_s1 (N : Nat) (s5 : Unit) (i3 : Nat) (x4 : Val) : Option (Sum (Unit) (Bool)) := bindO (F171 N x4) fun r6 => iteO r6 (some (.inl ())) (some (.inr false))
def F157_f1  (s5 : Unit) : Option (Bool) := some true
def F157 (N : Nat) (e : Entry) : Option (Bool) := bindO (F17 N e.entryName) fun r1 => iteO r1 (iteO (decide ((e.entryArgs.length : Int) > 8)) (some false) (bindO (F171 N e.entryVal) fun r2 => iteO r2 (foldN (S := Unit) (F157_s1 N) (F157_f1) N e.entryArgs 0 ()) (some false))) (some false)
def F172_s1 (N : Nat) (b : List Val) (s3 : Unit) (i1 : Nat) (x2 : Val) : Option (Sum (Unit) (Bool)) := bindO (atO b (i1 : Int)) fun x4 => bindO (F183 N x2 x4) fun r5 => iteO r5 (some (.inl ())) (some (.inr false))
def F172_f1  (s3 : Unit) : Option (Bool) := some true
def F172 (N : Nat) (a : List Val) (b : List Val) : Option (Bool) := iteO ((a.length : Int) == (b.length : Int)) (foldN (S := Unit) (F172_s1 N b) (F172_f1) N a 0 ()) (some false)
def F158 (N : Nat) (a : Entry) (b : Entry) : Option (Bool) := iteO (a.entryName.toList == b.entryName.toList) (iteO (a.entryVal.valSort == b.entryVal.valSort) (bindO (F172 N a.entryArgs b.entryArgs) fun r1 => some r1) (some false)) (some false)
def F126_s2 (N : Nat) (i1 : Nat) (m : List Entry) (x2 : Entry) (s5 : Int) : Option (Sum (Int) (Sum Unit Bool)) := iteO (decide (s5 < (i1 : Int))) (bindO (atO m s5) fun x6 => bindO (F158 N x6 x2) fun r7 => iteO r7 (some (.inr (.inr false))) (some (.inl (IntKind.i64.wrap (s5 + 1))))) (some (.inr (.inl ())))
def F126_s1 (N : Nat) (m : List Entry) (s3 : Unit) (i1 : Nat) (x2 : Entry) : Option (Sum (Unit) (Bool)) := bindO (F157 N x2) fun r4 => iteO r4 (whileN (S := Int) (F126_s2 N i1 m x2) N 0) (some (.inr false))
def F126_f1  (s3 : Unit) : Option (Bool) := some true
def F126 (N : Nat) (m : List Entry) : Option (Bool) := iteO (decide ((m.length : Int) > 2000)) (some false) (foldN (S := Unit) (F126_s1 N m) (F126_f1) N m 0 ())
def F159_s1 (N : Nat) (args : List Val) (name : ByteArray) (sortq : Int) (s3 : Unit) (i1 : Nat) (x2 : Entry) : Option (Sum (Unit) (Val)) := iteO (x2.entryName.toList == name.toList) (iteO (x2.entryVal.valSort == sortq) (bindO (F172 N x2.entryArgs args) fun r4 => iteO r4 (some (.inr x2.entryVal)) (some (.inl ()))) (some (.inl ()))) (some (.inl ()))
def F159_f1 (sortq : Int) (s3 : Unit) : Option (Val) := some (⟨sortq, 0, [], [], []⟩ : Val)
def F159 (N : Nat) (m : List Entry) (name : ByteArray) (args : List Val) (sortq : Int) : Option (Val) := foldN (S := Unit) (F159_s1 N args name sortq) (F159_f1 sortq) N m 0 ()
def F173 (n : Int) : Option (Val × Bool) := bindO (F181 n) fun r1 => some ((⟨1, n, [], [], []⟩ : Val), r1)
def F174 (c : Int) (n : Int) : Option (Val × Bool) := iteO (n == 0) (bindO (F173 (IntKind.i64.wrap (c * n))) fun r4 => some (r4.1, r4.2)) (iteO (c == 0) (bindO (F173 (IntKind.i64.wrap (c * n))) fun r3 => some (r3.1, r3.2)) (iteO (decide (c < 0)) (iteO (decide ((IntKind.i64.wrap (0 - c)) = 0)) (none) (iteO (decide ((IntKind.i64.wrap (0 - n)) > (IntKind.i64.wrap ((1152921504606846976 : Int).tdiv (IntKind.i64.wrap (0 - c)))))) (some ((⟨1, 0, [], [], []⟩ : Val), false)) (iteO (decide ((IntKind.i64.wrap (0 - n)) < (IntKind.i64.wrap (0 - (IntKind.i64.wrap ((1152921504606846976 : Int).tdiv (IntKind.i64.wrap (0 - c)))))))) (some ((⟨1, 0, [], [], []⟩ : Val), false)) (bindO (F173 (IntKind.i64.wrap ((IntKind.i64.wrap (0 - c)) * (IntKind.i64.wrap (0 - n))))) fun r1 => some (r1.1, r1.2))))) (iteO (decide (c = 0)) (none) (iteO (decide (n > (IntKind.i64.wrap ((1152921504606846976 : Int).tdiv c)))) (some ((⟨1, 0, [], [], []⟩ : Val), false)) (iteO (decide (n < (IntKind.i64.wrap (0 - (IntKind.i64.wrap ((1152921504606846976 : Int).tdiv c)))))) (some ((⟨1, 0, [], [], []⟩ : Val), false)) (bindO (F173 (IntKind.i64.wrap (c * n))) fun r2 => some (r2.1, r2.2)))))))
def F184_s1 (n : Int) (s3 : Unit) (i1 : Nat) (x2 : Int) : Option (Sum (Unit) (Bool)) := iteO (x2 == n) (some (.inr true)) (some (.inl ()))
def F184_f1  (s3 : Unit) : Option (Bool) := some false
def F184 (N : Nat) (l : List Int) (n : Int) : Option (Bool) := foldN (S := Unit) (F184_s1 n) (F184_f1) N l 0 ()
def F185_s1 (n : Int) (s4 : (List Int) × Bool) (i2 : Nat) (x3 : Int) : Option (Sum ((List Int) × Bool) (List Int)) := iteO s4.2 (iteO (fits (s4.1.length + 1) 8) (some (.inl (s4.1 ++ ([x3]), s4.2))) (none)) (iteO (decide (n < x3)) (iteO (fits (s4.1.length + 1) 8) (iteO (fits (s4.1.length + 1 + 1) 8) (some (.inl ((s4.1 ++ ([n])) ++ ([x3]), true))) (none)) (none)) (iteO (fits (s4.1.length + 1) 8) (some (.inl (s4.1 ++ ([x3]), s4.2))) (none)))
def F185_f1 (n : Int) (s4 : (List Int) × Bool) : Option (List Int) := iteO s4.2 (some s4.1) (iteO (fits (s4.1.length + 1) 8) (some (s4.1 ++ ([n]))) (none))
def F185 (N : Nat) (l : List Int) (n : Int) : Option (List Int) := bindO (F184 N l n) fun r1 => foldN (S := (List Int) × Bool) (F185_s1 n) (F185_f1 n) N l 0 ([], r1)
def F175_s1 (N : Nat) (b : List Int) (op : Int) (s3 : List Int) (i1 : Nat) (x2 : Int) : Option (Sum (List Int) (List Int)) := bindO (F184 N b x2) fun r4 => iteO (op == 11) (iteO (fits (s3.length + 1) 8) (some (.inl (s3 ++ ([x2])))) (none)) (iteO (op == 12) (iteO r4 (iteO (fits (s3.length + 1) 8) (some (.inl (s3 ++ ([x2])))) (none)) (iteO (op == 13) (iteO (fits (s3.length + 1) 8) (some (.inl (s3 ++ ([x2])))) (none)) (some (.inl s3)))) (iteO (op == 13) (iteO r4 (some (.inl s3)) (iteO (fits (s3.length + 1) 8) (some (.inl (s3 ++ ([x2])))) (none))) (some (.inl s3))))
def F175_s3 (N : Nat) (s10 : List Int) (i8 : Nat) (x9 : Int) : Option (Sum (List Int) (List Int)) := bindO (F185 N s10 x9) fun r11 => some (.inl r11)
def F175_f3  (s10 : List Int) : Option (List Int) := some s10
def F175_f1 (N : Nat) (b : List Int) (op : Int) (s3 : List Int) : Option (List Int) := iteO (op == 11) (foldN (S := List Int) (F175_s3 N) (F175_f3) N b 0 s3) (some s3)
def F175 (N : Nat) (op : Int) (a : List Int) (b : List Int) : Option (List Int) := foldN (S := List Int) (F175_s1 N b op) (F175_f1 N b op) N a 0 ([])
def F176_s1 (i : Int) (v : Val) (s3 : Unit) (i1 : Nat) (x2 : Int) : Option (Sum (Unit) (Int)) := iteO (x2 == i) (bindO (atO v.valTo (i1 : Int)) fun x4 => some (.inr x4)) (some (.inl ()))
def F176_f1  (s3 : Unit) : Option (Int) := some 0
def F176 (N : Nat) (v : Val) (i : Int) : Option (Int) := foldN (S := Unit) (F176_s1 i v) (F176_f1) N v.valAt 0 ()
def F177_s3 (N : Nat) (i : Int) (v : Val) (x : Int) (s10 : (List Int) × (List Int)) (i8 : Nat) (x9 : Int) : Option (Sum ((List Int) × (List Int)) (Val)) := bindO (F176 N v x9) fun r11 => iteO (x9 == i) (iteO (x == 0) (some (.inl (s10.1, s10.2))) (iteO (fits (s10.1.length + 1) 8) (iteO (fits (s10.2.length + 1) 8) (some (.inl (s10.1 ++ ([x9]), s10.2 ++ ([x])))) (none)) (none))) (iteO (r11 == 0) (some (.inl (s10.1, s10.2))) (iteO (fits (s10.1.length + 1) 8) (iteO (fits (s10.2.length + 1) 8) (some (.inl (s10.1 ++ ([x9]), s10.2 ++ ([r11])))) (none)) (none)))
def F177_f3 (v : Val) (s10 : (List Int) × (List Int)) : Option (Val) := some (⟨5, v.valNum, [], s10.1, s10.2⟩ : Val)
def F177 (N : Nat) (v : Val) (i : Int) (x : Int) : Option (Val) := bindO (F185 N v.valAt i) fun r1 => foldN (S := (List Int) × (List Int)) (F177_s3 N i v x) (F177_f3 v) N r1 0 ([], [])
def F186 (b : Bool) : Option (Val) := iteO b (some (⟨2, 1, [], [], []⟩ : Val)) (some (⟨2, 0, [], [], []⟩ : Val))
def F178_s1 (N : Nat) (v : List Val) (s36 : Unit) (i34 : Nat) (x35 : Int) : Option (Sum (Unit) (Val)) := bindO (atO v 1) fun x37 => bindO (F184 N x37.valSet x35) fun r38 => iteO r38 (some (.inl ())) (bindO (F186 false) fun r39 => some (.inr r39))
def F178_f1  (s36 : Unit) : Option (Val) := bindO (F186 true) fun r40 => some r40
def F178 (N : Nat) (op : Int) (v : List Val) : Option (Val) := iteO (op == 30) (bindO (F186 true) fun r1 => some r1) (iteO (op == 32) (bindO (atO v 0) fun x2 => bindO (F186 (x2.valNum == 0)) fun r3 => some r3) (iteO (op == 33) (bindO (atO v 0) fun x4 => iteO (x4.valNum == 1) (bindO (atO v 1) fun x5 => bindO (F186 (x5.valNum == 1)) fun r6 => some r6) (bindO (F186 false) fun r7 => some r7)) (iteO (op == 34) (bindO (atO v 0) fun x8 => iteO (x8.valNum == 1) (bindO (F186 true) fun r11 => some r11) (bindO (atO v 1) fun x9 => bindO (F186 (x9.valNum == 1)) fun r10 => some r10)) (iteO (op == 35) (bindO (atO v 0) fun x12 => iteO (x12.valNum == 0) (bindO (F186 true) fun r15 => some r15) (bindO (atO v 1) fun x13 => bindO (F186 (x13.valNum == 1)) fun r14 => some r14)) (iteO (op == 36) (bindO (atO v 0) fun x16 => bindO (atO v 1) fun x17 => bindO (F186 (x16.valNum == x17.valNum)) fun r18 => some r18) (iteO (op == 37) (bindO (atO v 0) fun x19 => bindO (atO v 1) fun x20 => bindO (F183 N x19 x20) fun r21 => bindO (F186 r21) fun r22 => some r22) (iteO (op == 38) (bindO (atO v 0) fun x23 => bindO (atO v 1) fun x24 => bindO (F186 (decide (x23.valNum ≤ x24.valNum))) fun r25 => some r25) (iteO (op == 39) (bindO (atO v 0) fun x26 => bindO (atO v 1) fun x27 => bindO (F186 (decide (x26.valNum < x27.valNum))) fun r28 => some r28) (iteO (op == 40) (bindO (atO v 1) fun x29 => bindO (atO v 0) fun x30 => bindO (F184 N x29.valSet x30.valNum) fun r31 => bindO (F186 r31) fun r32 => some r32) (iteO (op == 41) (bindO (atO v 0) fun x33 => foldN (S := Unit) (F178_s1 N v) (F178_f1) N x33.valSet 0 ()) (bindO (F186 false) fun r41 => some r41)))))))))))
def F160 (N : Nat) (n : Node) (v : List Val) : Option (Val × Bool) := iteO (n.op == 2) (bindO (F173 n.num) fun r1 => some (r1.1, r1.2)) (iteO (n.op == 4) (bindO (atO v 0) fun x2 => bindO (atO v 1) fun x3 => bindO (F173 (IntKind.i64.wrap (x2.valNum + x3.valNum))) fun r4 => some (r4.1, r4.2)) (iteO (n.op == 5) (bindO (atO v 0) fun x5 => bindO (atO v 1) fun x6 => bindO (F173 (IntKind.i64.wrap (x5.valNum - x6.valNum))) fun r7 => some (r7.1, r7.2)) (iteO (n.op == 6) (bindO (atO v 0) fun x8 => bindO (F173 (IntKind.i64.wrap (0 - x8.valNum))) fun r9 => some (r9.1, r9.2)) (iteO (n.op == 7) (bindO (atO v 0) fun x10 => bindO (F174 n.num x10.valNum) fun r11 => some (r11.1, r11.2)) (iteO (n.op == 8) (bindO (atO v 0) fun x12 => iteO (x12.valNum == 1) (bindO (atO v 1) fun x13 => some (x13, true)) (bindO (atO v 2) fun x14 => some (x14, true))) (iteO (n.op == 10) (bindO (atO v 0) fun x15 => some ((⟨4, 0, [x15.valNum], [], []⟩ : Val), true)) (iteO (n.op == 11) (bindO (atO v 0) fun x16 => bindO (atO v 1) fun x17 => bindO (F175 N n.op x16.valSet x17.valSet) fun r18 => some ((⟨4, 0, r18, [], []⟩ : Val), decide ((r18.length : Int) ≤ 200))) (iteO (n.op == 12) (bindO (atO v 0) fun x19 => bindO (atO v 1) fun x20 => bindO (F175 N n.op x19.valSet x20.valSet) fun r21 => some ((⟨4, 0, r21, [], []⟩ : Val), decide ((r21.length : Int) ≤ 200))) (iteO (n.op == 13) (bindO (atO v 0) fun x22 => bindO (atO v 1) fun x23 => bindO (F175 N n.op x22.valSet x23.valSet) fun r24 => some ((⟨4, 0, r24, [], []⟩ : Val), decide ((r24.length : Int) ≤ 200))) (iteO (n.op == 14) (bindO (atO v 0) fun x25 => bindO (atO v 1) fun x26 => bindO (F176 N x25 x26.valNum) fun r27 => bindO (F173 r27) fun r28 => some (r28.1, r28.2)) (iteO (n.op == 15) (bindO (atO v 0) fun x29 => bindO (atO v 1) fun x30 => bindO (atO v 2) fun x31 => bindO (F177 N x29 x30.valNum x31.valNum) fun r32 => some (r32, decide ((r32.valAt.length : Int) ≤ 200))) (iteO (n.op == 16) (bindO (atO v 0) fun x33 => bindO (F173 x33.valNum) fun r34 => some (r34.1, r34.2)) (iteO (n.op == 9) (some ((⟨4, 0, [], [], []⟩ : Val), true)) (bindO (F178 N n.op v) fun r35 => some (r35, true)))))))))))))))
def F127_s1 (self55 : Node → (List Entry) → Option (Val × Bool)) (m : List Entry) (s3 : (List Val) × Bool) (i1 : Nat) (x2 : Node) : Option (Sum ((List Val) × Bool) (Val × Bool)) := bindO (self55 x2 m) fun r4 => iteO s3.2 (iteO (fits (s3.1.length + 1) 88) (some (.inl (s3.1 ++ ([r4.1]), r4.2))) (none)) (iteO (fits (s3.1.length + 1) 88) (some (.inl (s3.1 ++ ([r4.1]), false))) (none))
def F127_f1 (N : Nat) (m : List Entry) (n : Node) (s3 : (List Val) × Bool) : Option (Val × Bool) := iteO s3.2 (iteO (n.op == 1) (bindO (F159 N m n.name s3.1 n.sortf) fun r8 => some (r8, true)) (iteO (n.op == 3) (bindO (F159 N m n.name s3.1 n.sortf) fun r6 => some (r6, true)) (bindO (F160 N n s3.1) fun r7 => some (r7.1, r7.2)))) (bindO (F28 N n) fun r5 => some ((⟨r5, 0, [], [], []⟩ : Val), false))
def F127b (self55 : Node → (List Entry) → Option (Val × Bool)) (N : Nat) (n : Node) (m : List Entry) : Option (Val × Bool) := foldN (S := (List Val) × Bool) (F127_s1 self55 m) (F127_f1 N m n) N n.kids 0 ([], true)
def F127 : Nat → Node → (List Entry) → Option (Val × Bool)
 | 0 => fun _ _ => none
 | N + 1 => fun n m => F127b (F127 N) N n m
end Go.Abs.Try
