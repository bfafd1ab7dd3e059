import Derived.Test.YtjjajifecniidaaGreatSqW2
import Derived.Test.YtjjajifecniidaaGreatGen3
import Derived.Test.YtjjajifecniidaaGreatSqCl
import Derived.Test.YtjjajifecniidaaGreatSqIns
set_option linter.unusedSimpArgs false
set_option linter.unusedVariables false
namespace Go.Abs.Try
abbrev Z : AV := .top
@[push_cast] theorem Z_eq : Z = AV.top := rfl
open Go.RowKit
set_option maxRecDepth 100000
set_option maxHeartbeats 4000000
def cmpS (a b : ByteArray) : Int := Lib.compareBytes a.data.toList b.data.toList
def F79 (a b : ByteArray) : Option Int := some (cmpS a b)
@[push_cast] def ar95 : Rs (ByteArray × ByteArray) := rsC rS (rsO rS)
@[push_cast] def v95 (r : Int) : AV := .int .i64 r
noncomputable def t95 : List AV → Option AV := TL ar95.e fun x => bindO (F79 x.1 x.2) fun r => some (v95 r)
def F162 (x y c : Int) : Option (Int × Int) := iteO (decide (0 ≤ x ∧ 0 ≤ y ∧ 0 ≤ c ∧ c ≤ 1)) (some ((x + y + c) % 18446744073709551616, (x + y + c) / 18446744073709551616)) none
@[push_cast] def ar102 : Rs (Int × Int × Int) := rsC (rI .u64) (rsC (rI .u64) (rsO (rI .u64)))
@[push_cast] def v102 (r : Int × Int) : AV := .tuple [.int .u64 r.1, .int .u64 r.2]
noncomputable def t102 : List AV → Option AV := TL ar102.e fun x => bindO (F162 x.1 x.2.1 x.2.2) fun r => some (v102 r)
@[push_cast] def H19 : Nat → Hint
 | _ => ⟨[], [], []⟩
def F84 (op : Int) (a : Node) (b : Node) : Option (Node) := some (⟨op, 0, (⟨#[]⟩ : ByteArray), 0, [a, b]⟩ : Node)
@[push_cast] def ar19 : Rs (Int × Node × Node) := rsC (rI .i64) (rsC rNode (rsO rNode))
@[push_cast] def v19 (r : Node) : AV := .agg (Node.cells r)
@[push_cast] def sh19 : Shp := .one (.agg [none, none, none, none, some 5])
noncomputable def t19 : List AV → Option AV := TL ar19.e fun x => bindO (F84 x.1 x.2.1 x.2.2) fun r => some (v19 r)
@[push_cast] def H89 : Nat → Hint
 | 0 => ⟨[], [3], []⟩
 | 1 => ⟨[], [3], []⟩
 | _ => ⟨[], [], []⟩
def F37_s1  (s3 : Int) (x2 : Node) : Option (Sum (Int) (Int)) := some (.inl (IntKind.i64.wrap (s3 + 1)))
def F37_f1  (s3 : Int) : Option (Int) := some s3
def F37 (n : Node) : Option (Int) := bindO (walkO n) fun l1 => foldO (S := Int) (F37_s1) (F37_f1) l1 0
@[push_cast] def ar89 : Rs Node := rsO rNode
@[push_cast] def v89 (r : Int) : AV := .int .i64 r
@[push_cast] def sh89 : Shp := .one (.leaf none)
noncomputable def t89 : List AV → Option AV := TL ar89.e fun x => bindO (F37 x) fun r => some (v89 r)
@[push_cast] def H90 : Nat → Hint
 | 0 => ⟨[3, 7, 8, 9], [3], []⟩
 | 1 => ⟨[], [3, 7, 8, 9], []⟩
 | _ => ⟨[], [], []⟩
def F38_s1 (self90 : Node → Option (Int)) (s3 : Int) (i1 : Nat) (x2 : Node) : Option (Sum (Int) (Int)) := bindO (self90 x2) fun r4 => some (.inl (max s3 r4))
def F38_f1  (s3 : Int) : Option (Int) := some (IntKind.i64.wrap (s3 + 1))
def F38b (self90 : Node → Option (Int)) (N : Nat) (n : Node) : Option (Int) := foldN (S := Int) (F38_s1 self90) (F38_f1) N n.kids 0 0
def F38 : Nat → Node → Option (Int)
 | 0 => fun _ => none
 | N + 1 => fun n => F38b (F38 N) N n
@[push_cast] def ar90 : Rs Node := rsO rNode
@[push_cast] def v90 (r : Int) : AV := .int .i64 r
@[push_cast] def sh90 : Shp := .one (.leaf none)
noncomputable def t90 (N : Nat) : List AV → Option AV := TL ar90.e fun x => bindO (F38 N x) fun r => some (v90 r)
noncomputable def ts90 (self90 : Node → Option (Int)) : List AV → Option AV := TL ar90.e fun x => bindO (self90 x) fun r => some (v90 r)
@[push_cast] theorem t90_1 (self90 : Node → Option (Int)) (z1 : Int) (z2 : Int) (z3 : ByteArray) (z4 : Int) (z5 : List Node) : ts90 self90 [.agg [.int .i64 z1, .int .i64 z2, .str z3, .int .i64 z4, .sl false 5 (List.map Node.cells z5)]] = bindO (self90 (⟨z1, z2, z3, z4, z5⟩ : Node)) fun r => some (v90 r) :=
 TL_hit ar90.inj (⟨z1, z2, z3, z4, z5⟩ : Node) (by simp only [push_cast] <;> rfl)
@[push_cast] def H56 : Nat → Hint
 | _ => ⟨[], [], []⟩
def F70 (N : Nat) (n : Node) : Option (Bool) := bindO (F37 n) fun r1 => iteO (decide (r1 ≤ 4000)) (bindO (F38 N n) fun r2 => some (decide (r2 ≤ 100))) (some false)
@[push_cast] def ar56 : Rs Node := rsO rNode
@[push_cast] def v56 (r : Bool) : AV := .bool r
@[push_cast] def sh56 : Shp := .one (.leaf none)
noncomputable def t56 (N : Nat) : List AV → Option AV := TL ar56.e fun x => bindO (F70 N x) fun r => some (v56 r)
@[push_cast] theorem t89_1 (z1 : Int) (z2 : Int) (z3 : ByteArray) (z4 : Int) (z5 : List Node) : t89 [.agg [.int .i64 z1, .int .i64 z2, .str z3, .int .i64 z4, .sl false 5 (List.map Node.cells z5)]] = bindO (F37 (⟨z1, z2, z3, z4, z5⟩ : Node)) fun r => some (v89 r) :=
 TL_hit ar89.inj (⟨z1, z2, z3, z4, z5⟩ : Node) (by simp only [push_cast] <;> rfl)
@[push_cast] theorem t90_2 {N : Nat} (z1 : Int) (z2 : Int) (z3 : ByteArray) (z4 : Int) (z5 : List Node) : t90 N [.agg [.int .i64 z1, .int .i64 z2, .str z3, .int .i64 z4, .sl false 5 (List.map Node.cells z5)]] = bindO (F38 N (⟨z1, z2, z3, z4, z5⟩ : Node)) fun r => some (v90 r) :=
 TL_hit ar90.inj (⟨z1, z2, z3, z4, z5⟩ : Node) (by simp only [push_cast] <;> rfl)
@[push_cast] def H143 : Nat → Hint
 | _ => ⟨[], [], []⟩
def F73 (c : Int) : Option (Bool) := iteO (decide (c ≥ 97)) (iteO (decide (c ≤ 122)) (some true) (iteO (decide (c ≥ 65)) (some (decide (c ≤ 90))) (some false))) (iteO (decide (c ≥ 65)) (some (decide (c ≤ 90))) (some false))
@[push_cast] def ar143 : Rs Int := rsO (rI .u8)
@[push_cast] def v143 (r : Bool) : AV := .bool r
@[push_cast] def sh143 : Shp := .one (.leaf none)
noncomputable def t143 : List AV → Option AV := TL ar143.e fun x => bindO (F73 x) fun r => some (v143 r)
@[push_cast] def H144 : Nat → Hint
 | _ => ⟨[], [], []⟩
def F74 (s : ByteArray) : Option (Bool) := iteO (s.toList == (⟨#[116, 114, 117, 101]⟩ : ByteArray).toList) (some true) (iteO (s.toList == (⟨#[102, 97, 108, 115, 101]⟩ : ByteArray).toList) (some true) (iteO (s.toList == (⟨#[105, 110]⟩ : ByteArray).toList) (some true) (iteO (s.toList == (⟨#[115, 117, 98]⟩ : ByteArray).toList) (some true) (iteO (s.toList == (⟨#[101, 109, 112, 116, 121]⟩ : ByteArray).toList) (some true) (iteO (s.toList == (⟨#[115, 105, 110, 103]⟩ : ByteArray).toList) (some true) (iteO (s.toList == (⟨#[99, 117, 112]⟩ : ByteArray).toList) (some true) (iteO (s.toList == (⟨#[99, 97, 112]⟩ : ByteArray).toList) (some true) (iteO (s.toList == (⟨#[100, 105, 102, 102]⟩ : ByteArray).toList) (some true) (iteO (s.toList == (⟨#[115, 101, 108]⟩ : ByteArray).toList) (some true) (iteO (s.toList == (⟨#[115, 116, 111]⟩ : ByteArray).toList) (some true) (iteO (s.toList == (⟨#[118, 108, 101, 110]⟩ : ByteArray).toList) (some true) (iteO (s.toList == (⟨#[105, 116, 101]⟩ : ByteArray).toList) (some true) (some false)))))))))))))
@[push_cast] def ar144 : Rs ByteArray := rsO rS
@[push_cast] def v144 (r : Bool) : AV := .bool r
@[push_cast] def sh144 : Shp := .one (.leaf none)
noncomputable def t144 : List AV → Option AV := TL ar144.e fun x => bindO (F74 x) fun r => some (v144 r)
@[push_cast] def H125 : Nat → Hint
 | 0 => ⟨[0, 24, 25], [], []⟩
 | 1 => ⟨[], [0, 24, 25], []⟩
 | _ => ⟨[], [], []⟩
def F16_s1 (s : ByteArray) (s5 : Unit) (i3 : Nat) (x4 : Nat) : Option (Sum (Unit) (Bool)) := bindO (F73 (bt s (i3 : Int))) fun r6 => iteO r6 (some (.inl ())) (iteO (decide ((bt s (i3 : Int)) < 48)) (iteO ((bt s (i3 : Int)) == 46) (some (.inl ())) (some (.inr false))) (iteO (decide ((bt s (i3 : Int)) > 57)) (iteO ((bt s (i3 : Int)) == 46) (some (.inl ())) (some (.inr false))) (some (.inl ()))))
def F16_f1  (s5 : Unit) : Option (Bool) := some true
def F16 (N : Nat) (s : ByteArray) : Option (Bool) := iteO (decide ((s.size : Int) < 1)) (some false) (iteO (decide ((s.size : Int) > 24)) (some false) (iteO (inB 0 s.size) (bindO (F73 (bt s 0)) fun r1 => iteO r1 (bindO (F74 s) fun r2 => iteO r2 (some false) (foldN (S := Unit) (F16_s1 s) (F16_f1) N (List.range s.size) 0 ())) (some false)) (none)))
@[push_cast] def ar125 : Rs ByteArray := rsO rS
@[push_cast] def v125 (r : Bool) : AV := .bool r
@[push_cast] def sh125 : Shp := .one (.leaf none)
noncomputable def t125 (N : Nat) : List AV → Option AV := TL ar125.e fun x => bindO (F16 N x) fun r => some (v125 r)
@[push_cast] theorem t143_1 (z1 : Int) : t143 [.int .u8 z1] = bindO (F73 z1) fun r => some (v143 r) :=
 TL_hit ar143.inj z1 (by simp only [push_cast] <;> rfl)
@[push_cast] theorem t144_1 (z1 : ByteArray) : t144 [.str z1] = bindO (F74 z1) fun r => some (v144 r) :=
 TL_hit ar144.inj z1 (by simp only [push_cast] <;> rfl)
@[push_cast] def H92 : Nat → Hint
 | 0 => ⟨[], [1], []⟩
 | _ => ⟨[], [], []⟩
def F116 (N : Nat) (n : Node) : Option (Bool) := iteO (n.op == 1) (bindO (F16 N n.name) fun r2 => iteO r2 (iteO (decide (n.sortf < 1)) (some false) (iteO (decide (n.sortf > 5)) (some false) (iteO (n.op == 2) (iteO (decide (n.num ≥ (-1000000000000))) (some (decide (n.num ≤ 1000000000000))) (some false)) (iteO (n.op == 7) (iteO (decide (n.num ≥ (-1000000000000))) (some (decide (n.num ≤ 1000000000000))) (some false)) (iteO (n.op == 42) (iteO (decide (n.num ≥ 0)) (some (decide (n.num < 200))) (some false)) (some (n.num == 0))))))) (some false)) (bindO (F16 N n.name) fun r1 => iteO ((n.op == 3) == r1) (iteO (n.op == 3) (iteO (decide (n.sortf < 1)) (some false) (iteO (decide (n.sortf > 5)) (some false) (iteO (n.op == 2) (iteO (decide (n.num ≥ (-1000000000000))) (some (decide (n.num ≤ 1000000000000))) (some false)) (iteO (n.op == 7) (iteO (decide (n.num ≥ (-1000000000000))) (some (decide (n.num ≤ 1000000000000))) (some false)) (iteO (n.op == 42) (iteO (decide (n.num ≥ 0)) (some (decide (n.num < 200))) (some false)) (some (n.num == 0))))))) (iteO (n.name.toList == (⟨#[]⟩ : ByteArray).toList) (iteO (n.sortf == 0) (iteO (n.op == 2) (iteO (decide (n.num ≥ (-1000000000000))) (some (decide (n.num ≤ 1000000000000))) (some false)) (iteO (n.op == 7) (iteO (decide (n.num ≥ (-1000000000000))) (some (decide (n.num ≤ 1000000000000))) (some false)) (iteO (n.op == 42) (iteO (decide (n.num ≥ 0)) (some (decide (n.num < 200))) (some false)) (some (n.num == 0))))) (some false)) (some false))) (some false))
@[push_cast] def ar92 : Rs Node := rsO rNode
@[push_cast] def v92 (r : Bool) : AV := .bool r
@[push_cast] def sh92 : Shp := .one (.leaf none)
noncomputable def t92 (N : Nat) : List AV → Option AV := TL ar92.e fun x => bindO (F116 N x) fun r => some (v92 r)
@[push_cast] theorem t125_1 {N : Nat} (z1 : ByteArray) : t125 N [.str z1] = bindO (F16 N z1) fun r => some (v125 r) :=
 TL_hit ar125.inj z1 (by simp only [push_cast] <;> rfl)
@[push_cast] def H35 : Nat → Hint
 | 0 => ⟨[1], [1], []⟩
 | 1 => ⟨[], [1], []⟩
 | 2 => ⟨[], [1], []⟩
 | _ => ⟨[], [], []⟩
def F36_s1  (s1 : Int × Int × ByteArray × Int × (List Node)) : Option (Sum (Int × Int × ByteArray × Int × (List Node)) (Int)) := iteO (s1.1 == 8) (iteO (decide ((s1.2.2.2.2.length : Int) < 2)) (some (.inr 0)) (bindO (atO s1.2.2.2.2 1) fun x2 => some (.inl (x2.op, x2.sortf, x2.name, x2.num, x2.kids)))) (iteO (s1.1 == 1) (some (.inr s1.2.1)) (iteO (s1.1 == 3) (some (.inr s1.2.1)) (iteO (s1.1 == 2) (some (.inr 1)) (iteO (s1.1 == 4) (some (.inr 1)) (iteO (s1.1 == 5) (some (.inr 1)) (iteO (s1.1 == 6) (some (.inr 1)) (iteO (s1.1 == 7) (some (.inr 1)) (iteO (s1.1 == 14) (some (.inr 1)) (iteO (s1.1 == 16) (some (.inr 1)) (iteO (s1.1 == 9) (some (.inr 4)) (iteO (s1.1 == 10) (some (.inr 4)) (iteO (s1.1 == 11) (some (.inr 4)) (iteO (s1.1 == 12) (some (.inr 4)) (iteO (s1.1 == 13) (some (.inr 4)) (iteO (s1.1 == 15) (some (.inr 5)) (iteO (decide (s1.1 ≥ 30)) (iteO (decide (s1.1 ≤ 42)) (some (.inr 2)) (some (.inr 0))) (some (.inr 0))))))))))))))))))
def F36 (N : Nat) (n : Node) : Option (Int) := whileN (S := Int × Int × ByteArray × Int × (List Node)) (F36_s1) N (n.op, n.sortf, n.name, n.num, n.kids)
@[push_cast] def ar35 : Rs Node := rsO rNode
@[push_cast] def v35 (r : Int) : AV := .int .i64 r
@[push_cast] def sh35 : Shp := .one (.leaf none)
noncomputable def t35 (N : Nat) : List AV → Option AV := TL ar35.e fun x => bindO (F36 N x) fun r => some (v35 r)
@[push_cast] def H126 : Nat → Hint
 | _ => ⟨[], [], []⟩
def F153 (op : Int) : Option ((List Int) × Bool) := iteO (op == 2) (some ([], true)) (iteO (op == 9) (some ([], true)) (iteO (op == 30) (some ([], true)) (iteO (op == 31) (some ([], true)) (iteO (op == 1) (some ([], true)) (iteO (op == 4) (some ([1, 1], true)) (iteO (op == 5) (some ([1, 1], true)) (iteO (op == 38) (some ([1, 1], true)) (iteO (op == 39) (some ([1, 1], true)) (iteO (op == 6) (some ([1], true)) (iteO (op == 7) (some ([1], true)) (iteO (op == 10) (some ([1], true)) (iteO (op == 11) (some ([4, 4], true)) (iteO (op == 12) (some ([4, 4], true)) (iteO (op == 13) (some ([4, 4], true)) (iteO (op == 41) (some ([4, 4], true)) (iteO (op == 40) (some ([1, 4], true)) (iteO (op == 14) (some ([5, 1], true)) (iteO (op == 15) (some ([5, 1, 1], true)) (iteO (op == 16) (some ([5], true)) (iteO (op == 32) (some ([2], true)) (iteO (op == 33) (some ([2, 2], true)) (iteO (op == 34) (some ([2, 2], true)) (iteO (op == 35) (some ([2, 2], true)) (iteO (op == 36) (some ([2, 2], true)) (some ([], false))))))))))))))))))))))))))
@[push_cast] def ar126 : Rs Int := rsO (rI .i64)
@[push_cast] def v126 (r : (List Int) × Bool) : AV := .tuple [.sl false 1 (List.map (cI .i64) r.1), .bool r.2]
@[push_cast] def sh126 : Shp := .tup [.leaf (some 1), .leaf none]
noncomputable def t126 : List AV → Option AV := TL ar126.e fun x => bindO (F153 x) fun r => some (v126 r)
@[push_cast] def H127 : Nat → Hint
 | 0 => ⟨[0, 1, 12, 13], [], []⟩
 | 1 => ⟨[], [0, 1, 12, 13], []⟩
 | _ => ⟨[], [], []⟩
def F154_s1 (s2q : List Int) (s3 : Unit) (i1 : Nat) (x2 : Int) : Option (Sum (Unit) (Bool)) := bindO (atO s2q (i1 : Int)) fun x4 => iteO (x2 == x4) (some (.inl ())) (some (.inr false))
def F154_f1  (s3 : Unit) : Option (Bool) := some true
def F154 (N : Nat) (s1q : List Int) (s2q : List Int) : Option (Bool) := iteO ((s1q.length : Int) == (s2q.length : Int)) (foldN (S := Unit) (F154_s1 s2q) (F154_f1) N s1q 0 ()) (some false)
@[push_cast] def ar127 : Rs ((List Int) × (List Int)) := rsC (rL 1 (cI .i64) (cI_inj .i64)) (rsO (rL 1 (cI .i64) (cI_inj .i64)))
@[push_cast] def v127 (r : Bool) : AV := .bool r
@[push_cast] def sh127 : Shp := .one (.leaf none)
noncomputable def t127 (N : Nat) : List AV → Option AV := TL ar127.e fun x => bindO (F154 N x.1 x.2) fun r => some (v127 r)
@[push_cast] def H93 : Nat → Hint
 | 0 => ⟨[1, 3, 14, 15, 16], [1, 3], []⟩
 | 1 => ⟨[], [1, 3, 14, 15, 16], []⟩
 | _ => ⟨[], [], []⟩
@[push_cast] def H128 : Nat → Hint
 | _ => ⟨[], [], []⟩
def F117_s1 (N : Nat) (s3 : List Int) (i1 : Nat) (x2 : Node) : Option (Sum (List Int) (Bool)) := bindO (F36 N x2) fun r4 => bindO (atO s3 (i1 : Int)) fun x5 => some (.inl (s3.set i1 r4))
def F117_f1 (N : Nat) (n : Node) (s3 : List Int) : Option (Bool) := bindO (F153 n.op) fun r6 => iteO r6.2 (bindO (F154 N s3 r6.1) fun r7 => some r7) (iteO (n.op == 8) (iteO (((s3.length : Int)) == 3) (bindO (atO s3 0) fun x8 => iteO (x8 == 2) (bindO (atO s3 1) fun x9 => bindO (atO s3 2) fun x10 => iteO (x9 == x10) (iteO (x9 == 1) (some true) (some (decide (x9 ≥ 3)))) (some false)) (some false)) (some false)) (iteO (n.op == 37) (iteO (((s3.length : Int)) == 2) (bindO (atO s3 0) fun x11 => bindO (atO s3 1) fun x12 => iteO (x11 == x12) (iteO (x11 == 1) (some true) (some (decide (x11 ≥ 3)))) (some false)) (some false)) (iteO (n.op == 3) (some (decide (((s3.length : Int)) ≤ 8))) (iteO (n.op == 42) (iteO (decide (((s3.length : Int)) ≥ 1)) (some (decide (((s3.length : Int)) ≤ 40))) (some false)) (some false)))))
def F117 (N : Nat) (n : Node) : Option (Bool) := iteO (decide (0 ≤ (n.kids.length : Int) ∧ (n.kids.length : Int) ≤ (n.kids.length : Int) ∧ (n.kids.length : Int) * 8 ≤ 140737488355328 ∧ (n.kids.length : Int) ≤ 9223372036854775807)) (foldN (S := List Int) (F117_s1 N) (F117_f1 N n) N n.kids 0 (List.replicate n.kids.length 0)) (none)
@[push_cast] def ar93 : Rs Node := rsO rNode
@[push_cast] def v93 (r : Bool) : AV := .bool r
@[push_cast] def sh93 : Shp := .one (.leaf none)
noncomputable def t93 (N : Nat) : List AV → Option AV := TL ar93.e fun x => bindO (F117 N x) fun r => some (v93 r)
@[push_cast] theorem t35_1 {N : Nat} (z1 : Int) (z2 : Int) (z3 : ByteArray) (z4 : Int) (z5 : List Node) : t35 N [.agg [.int .i64 z1, .int .i64 z2, .str z3, .int .i64 z4, .sl false 5 (List.map Node.cells z5)]] = bindO (F36 N (⟨z1, z2, z3, z4, z5⟩ : Node)) fun r => some (v35 r) :=
 TL_hit ar35.inj (⟨z1, z2, z3, z4, z5⟩ : Node) (by simp only [push_cast] <;> rfl)
@[push_cast] theorem t126_1 (z1 : Int) : t126 [.int .i64 z1] = bindO (F153 z1) fun r => some (v126 r) :=
 TL_hit ar126.inj z1 (by simp only [push_cast] <;> rfl)
@[push_cast] theorem t127_1 {N : Nat} (z1 : List Int) (z2 : List Int) : t127 N [.sl false 1 (List.map (cI .i64) z1), .sl false 1 (List.map (cI .i64) z2)] = bindO (F154 N z1 z2) fun r => some (v127 r) :=
 TL_hit ar127.inj (z1, z2) (by simp only [push_cast] <;> rfl)
@[push_cast] def H57 : Nat → Hint
 | 0 => ⟨[], [2], []⟩
 | 1 => ⟨[], [2], []⟩
 | _ => ⟨[], [], []⟩
def F71_s1 (N : Nat) (s3 : Unit) (x2 : Node) : Option (Sum (Unit) (Bool)) := bindO (F116 N x2) fun r4 => iteO r4 (bindO (F117 N x2) fun r5 => iteO r5 (some (.inl ())) (some (.inr false))) (some (.inr false))
def F71_f1  (s3 : Unit) : Option (Bool) := some true
def F71 (N : Nat) (n : Node) : Option (Bool) := bindO (walkO n) fun l1 => foldO (S := Unit) (F71_s1 N) (F71_f1) l1 ()
@[push_cast] def ar57 : Rs Node := rsO rNode
@[push_cast] def v57 (r : Bool) : AV := .bool r
@[push_cast] def sh57 : Shp := .one (.leaf none)
noncomputable def t57 (N : Nat) : List AV → Option AV := TL ar57.e fun x => bindO (F71 N x) fun r => some (v57 r)
@[push_cast] theorem t92_1 {N : Nat} (z1 : Int) (z2 : Int) (z3 : ByteArray) (z4 : Int) (z5 : List Node) : t92 N [.agg [.int .i64 z1, .int .i64 z2, .str z3, .int .i64 z4, .sl false 5 (List.map Node.cells z5)]] = bindO (F116 N (⟨z1, z2, z3, z4, z5⟩ : Node)) fun r => some (v92 r) :=
 TL_hit ar92.inj (⟨z1, z2, z3, z4, z5⟩ : Node) (by simp only [push_cast] <;> rfl)
@[push_cast] theorem t93_1 {N : Nat} (z1 : Int) (z2 : Int) (z3 : ByteArray) (z4 : Int) (z5 : List Node) : t93 N [.agg [.int .i64 z1, .int .i64 z2, .str z3, .int .i64 z4, .sl false 5 (List.map Node.cells z5)]] = bindO (F117 N (⟨z1, z2, z3, z4, z5⟩ : Node)) fun r => some (v93 r) :=
 TL_hit ar93.inj (⟨z1, z2, z3, z4, z5⟩ : Node) (by simp only [push_cast] <;> rfl)
@[push_cast] def H58 : Nat → Hint
 | 0 => ⟨[], [2], []⟩
 | 1 => ⟨[], [2, 3], []⟩
 | _ => ⟨[], [], []⟩
def F40_s1  (s3 : ByteArray → Option Int) (x2 : Node) : Option (Sum (ByteArray → Option Int) (Bool)) := iteO (x2.op == 3) (optO (s3 x2.name) (fun m4 => iteO ((x2.kids.length : Int) == 0) (iteO (m4 == (-4611686018427387904)) (iteO (x2.op == 1) (some (.inr false)) (some (.inl (putM s3 x2.name (-4611686018427387904))))) (some (.inr false))) (iteO (x2.op == 1) (iteO (m4 == (-4611686018427387904)) (some (.inr false)) (optO (s3 x2.name) (fun m5 => iteO (m5 == x2.sortf) (some (.inl (putM s3 x2.name x2.sortf))) (some (.inr false))) (some (.inl (putM s3 x2.name x2.sortf))))) (some (.inl s3)))) (iteO ((x2.kids.length : Int) == 0) (iteO (x2.op == 1) (optO ((putM s3 x2.name (-4611686018427387904)) x2.name) (fun m6 => iteO (m6 == x2.sortf) (some (.inl (putM (putM s3 x2.name (-4611686018427387904)) x2.name x2.sortf))) (some (.inr false))) (some (.inl (putM (putM s3 x2.name (-4611686018427387904)) x2.name x2.sortf)))) (some (.inl (putM s3 x2.name (-4611686018427387904))))) (iteO (x2.op == 1) (optO (s3 x2.name) (fun m7 => iteO (m7 == x2.sortf) (some (.inl (putM s3 x2.name x2.sortf))) (some (.inr false))) (some (.inl (putM s3 x2.name x2.sortf)))) (some (.inl s3))))) (optO (s3 x2.name) (fun m8 => iteO (x2.op == 1) (iteO (m8 == (-4611686018427387904)) (some (.inr false)) (optO (s3 x2.name) (fun m9 => iteO (m9 == x2.sortf) (some (.inl (putM s3 x2.name x2.sortf))) (some (.inr false))) (some (.inl (putM s3 x2.name x2.sortf))))) (some (.inl s3))) (iteO (x2.op == 1) (optO (s3 x2.name) (fun m10 => iteO (m10 == x2.sortf) (some (.inl (putM s3 x2.name x2.sortf))) (some (.inr false))) (some (.inl (putM s3 x2.name x2.sortf)))) (some (.inl s3))))
def F40_f1  (s3 : ByteArray → Option Int) : Option (Bool) := some true
def F40 (n : Node) : Option (Bool) := bindO (walkO n) fun l1 => foldO (S := ByteArray → Option Int) (F40_s1) (F40_f1) l1 (fun _ => none)
@[push_cast] def ar58 : Rs Node := rsO rNode
@[push_cast] def v58 (r : Bool) : AV := .bool r
@[push_cast] def sh58 : Shp := .one (.leaf none)
noncomputable def t58 : List AV → Option AV := TL ar58.e fun x => bindO (F40 x) fun r => some (v58 r)
theorem mk127 {E : Env} {fr : Fr} {σ : Store} {t : Nat} (hty : E.ty = tys) : run (aOp E fr σ t (.makeMap 127 none)) = newObj σ (.map .string (mS (evI .i64) fun _ => none)) (.map σ.length) := by
 rw [r_makeMap, hty, ← mS_empty (evI .i64)]
 simp only [push_cast, ty127, ty9]
 rfl
@[push_cast] def H34 : Nat → Hint
 | _ => ⟨[], [], []⟩
def F14 (N : Nat) (n : Node) (sortq : Int) : Option (Int) := iteO (decide (sortq < 0)) (some 1) (iteO (decide (sortq > 5)) (some 1) (bindO (F70 N n) fun r1 => iteO r1 (bindO (F71 N n) fun r2 => iteO r2 (bindO (F40 n) fun r3 => iteO r3 (iteO (sortq == 0) (some 0) (bindO (F36 N n) fun r4 => iteO (r4 == sortq) (some 0) (some 10))) (some 3)) (some 3)) (some 2)))
@[push_cast] def ar34 : Rs (Node × Int) := rsC rNode (rsO (rI .i64))
@[push_cast] def v34 (r : Int) : AV := .int .i64 r
@[push_cast] def sh34 : Shp := .one (.leaf none)
noncomputable def t34 (N : Nat) : List AV → Option AV := TL ar34.e fun x => bindO (F14 N x.1 x.2) fun r => some (v34 r)
@[push_cast] theorem t56_1 {N : Nat} (z1 : Int) (z2 : Int) (z3 : ByteArray) (z4 : Int) (z5 : List Node) : t56 N [.agg [.int .i64 z1, .int .i64 z2, .str z3, .int .i64 z4, .sl false 5 (List.map Node.cells z5)]] = bindO (F70 N (⟨z1, z2, z3, z4, z5⟩ : Node)) fun r => some (v56 r) :=
 TL_hit ar56.inj (⟨z1, z2, z3, z4, z5⟩ : Node) (by simp only [push_cast] <;> rfl)
@[push_cast] theorem t57_1 {N : Nat} (z1 : Int) (z2 : Int) (z3 : ByteArray) (z4 : Int) (z5 : List Node) : t57 N [.agg [.int .i64 z1, .int .i64 z2, .str z3, .int .i64 z4, .sl false 5 (List.map Node.cells z5)]] = bindO (F71 N (⟨z1, z2, z3, z4, z5⟩ : Node)) fun r => some (v57 r) :=
 TL_hit ar57.inj (⟨z1, z2, z3, z4, z5⟩ : Node) (by simp only [push_cast] <;> rfl)
@[push_cast] theorem t58_1 (z1 : Int) (z2 : Int) (z3 : ByteArray) (z4 : Int) (z5 : List Node) : t58 [.agg [.int .i64 z1, .int .i64 z2, .str z3, .int .i64 z4, .sl false 5 (List.map Node.cells z5)]] = bindO (F40 (⟨z1, z2, z3, z4, z5⟩ : Node)) fun r => some (v58 r) :=
 TL_hit ar58.inj (⟨z1, z2, z3, z4, z5⟩ : Node) (by simp only [push_cast] <;> rfl)
@[push_cast] def H48 : Nat → Hint
 | _ => ⟨[], [], []⟩
def F112 (x : Int) : Option (Bool) := iteO (decide (x ≥ (-9007199254740992))) (some (decide (x ≤ 9007199254740992))) (some false)
@[push_cast] def ar48 : Rs Int := rsO (rI .i64)
@[push_cast] def v48 (r : Bool) : AV := .bool r
@[push_cast] def sh48 : Shp := .one (.leaf none)
noncomputable def t48 : List AV → Option AV := TL ar48.e fun x => bindO (F112 x) fun r => some (v48 r)
@[push_cast] def H101 : Nat → Hint
 | _ => ⟨[], [], []⟩
def F161 (x : Int) (y : Int) : Option (Int × Int) := some (IntKind.u64.wrap ((IntKind.u64.wrap ((IntKind.u64.wrap ((x.fdiv (2 ^ (min (32 : Int).toNat (IntKind.u64).bits))) * (y.fdiv (2 ^ (min (32 : Int).toNat (IntKind.u64).bits))))) + ((IntKind.u64.wrap ((IntKind.u64.wrap ((x.fdiv (2 ^ (min (32 : Int).toNat (IntKind.u64).bits))) * (IntKind.u64.wrap ((BitVec.ofInt (IntKind.u64).bits y &&& BitVec.ofInt (IntKind.u64).bits 4294967295).toNat)))) + ((IntKind.u64.wrap ((IntKind.u64.wrap ((BitVec.ofInt (IntKind.u64).bits x &&& BitVec.ofInt (IntKind.u64).bits 4294967295).toNat)) * (IntKind.u64.wrap ((BitVec.ofInt (IntKind.u64).bits y &&& BitVec.ofInt (IntKind.u64).bits 4294967295).toNat)))).fdiv (2 ^ (min (32 : Int).toNat (IntKind.u64).bits))))).fdiv (2 ^ (min (32 : Int).toNat (IntKind.u64).bits))))) + ((IntKind.u64.wrap ((IntKind.u64.wrap ((BitVec.ofInt (IntKind.u64).bits (IntKind.u64.wrap ((IntKind.u64.wrap ((x.fdiv (2 ^ (min (32 : Int).toNat (IntKind.u64).bits))) * (IntKind.u64.wrap ((BitVec.ofInt (IntKind.u64).bits y &&& BitVec.ofInt (IntKind.u64).bits 4294967295).toNat)))) + ((IntKind.u64.wrap ((IntKind.u64.wrap ((BitVec.ofInt (IntKind.u64).bits x &&& BitVec.ofInt (IntKind.u64).bits 4294967295).toNat)) * (IntKind.u64.wrap ((BitVec.ofInt (IntKind.u64).bits y &&& BitVec.ofInt (IntKind.u64).bits 4294967295).toNat)))).fdiv (2 ^ (min (32 : Int).toNat (IntKind.u64).bits))))) &&& BitVec.ofInt (IntKind.u64).bits 4294967295).toNat)) + (IntKind.u64.wrap ((IntKind.u64.wrap ((BitVec.ofInt (IntKind.u64).bits x &&& BitVec.ofInt (IntKind.u64).bits 4294967295).toNat)) * (y.fdiv (2 ^ (min (32 : Int).toNat (IntKind.u64).bits))))))).fdiv (2 ^ (min (32 : Int).toNat (IntKind.u64).bits)))), IntKind.u64.wrap (x * y))
@[push_cast] def ar101 : Rs (Int × Int) := rsC (rI .u64) (rsO (rI .u64))
@[push_cast] def v101 (r : Int × Int) : AV := .tuple [.int .u64 r.1, .int .u64 r.2]
@[push_cast] def sh101 : Shp := .tup [.leaf none, .leaf none]
noncomputable def t101 : List AV → Option AV := TL ar101.e fun x => bindO (F161 x.1 x.2) fun r => some (v101 r)
@[push_cast] def H65 : Nat → Hint
 | _ => ⟨[], [], []⟩
def F128 (s : LinearSum) (a : Int) (b : Int) : Option (LinearSum) := bindO (F161 (IntKind.u64.wrap (a)) (IntKind.u64.wrap (b))) fun r1 => iteO (decide (a < 0)) (iteO (decide (b < 0)) (bindO (F162 s.linearSumLo r1.2 0) fun r2 => bindO (F162 (IntKind.u64.wrap (s.linearSumHi)) (IntKind.u64.wrap ((IntKind.u64.wrap (r1.1 - (IntKind.u64.wrap (b)))) - (IntKind.u64.wrap (a)))) r2.2) fun r3 => some (⟨IntKind.i64.wrap (r3.1), r2.1⟩ : LinearSum)) (bindO (F162 s.linearSumLo r1.2 0) fun r4 => bindO (F162 (IntKind.u64.wrap (s.linearSumHi)) (IntKind.u64.wrap (r1.1 - (IntKind.u64.wrap (b)))) r4.2) fun r5 => some (⟨IntKind.i64.wrap (r5.1), r4.1⟩ : LinearSum))) (iteO (decide (b < 0)) (bindO (F162 s.linearSumLo r1.2 0) fun r6 => bindO (F162 (IntKind.u64.wrap (s.linearSumHi)) (IntKind.u64.wrap (r1.1 - (IntKind.u64.wrap (a)))) r6.2) fun r7 => some (⟨IntKind.i64.wrap (r7.1), r6.1⟩ : LinearSum)) (bindO (F162 s.linearSumLo r1.2 0) fun r8 => bindO (F162 (IntKind.u64.wrap (s.linearSumHi)) r1.1 r8.2) fun r9 => some (⟨IntKind.i64.wrap (r9.1), r8.1⟩ : LinearSum)))
@[push_cast] def ar65 : Rs (LinearSum × Int × Int) := rsC rLinearSum (rsC (rI .i64) (rsO (rI .i64)))
@[push_cast] def v65 (r : LinearSum) : AV := .agg (LinearSum.cells r)
@[push_cast] def sh65 : Shp := .one (.agg [none, none])
noncomputable def t65 : List AV → Option AV := TL ar65.e fun x => bindO (F128 x.1 x.2.1 x.2.2) fun r => some (v65 r)
@[push_cast] theorem t101_1 (z1 : Int) (z2 : Int) : t101 [.int .u64 z1, .int .u64 z2] = bindO (F161 z1 z2) fun r => some (v101 r) :=
 TL_hit ar101.inj (z1, z2) (by simp only [push_cast] <;> rfl)
@[push_cast] theorem t102_1 (z1 : Int) (z2 : Int) (z3 : Int) : t102 [.int .u64 z1, .int .u64 z2, .int .u64 z3] = bindO (F162 z1 z2 z3) fun r => some (v102 r) :=
 TL_hit ar102.inj (z1, z2, z3) (by simp only [push_cast] <;> rfl)
@[push_cast] def H66 : Nat → Hint
 | _ => ⟨[], [], []⟩
def F129 (s : LinearSum) : Option (Int × Bool) := iteO (decide ((IntKind.i64.wrap (s.linearSumLo)) < 0)) (iteO (s.linearSumHi == (-1)) (iteO (decide ((IntKind.i64.wrap (s.linearSumLo)) ≥ 0)) (iteO (s.linearSumHi == 0) (bindO (F112 (IntKind.i64.wrap (s.linearSumLo))) fun r1 => some (IntKind.i64.wrap (s.linearSumLo), r1)) (some (0, false))) (bindO (F112 (IntKind.i64.wrap (s.linearSumLo))) fun r2 => some (IntKind.i64.wrap (s.linearSumLo), r2))) (some (0, false))) (iteO (decide ((IntKind.i64.wrap (s.linearSumLo)) ≥ 0)) (iteO (s.linearSumHi == 0) (bindO (F112 (IntKind.i64.wrap (s.linearSumLo))) fun r3 => some (IntKind.i64.wrap (s.linearSumLo), r3)) (some (0, false))) (bindO (F112 (IntKind.i64.wrap (s.linearSumLo))) fun r4 => some (IntKind.i64.wrap (s.linearSumLo), r4)))
@[push_cast] def ar66 : Rs LinearSum := rsO rLinearSum
@[push_cast] def v66 (r : Int × Bool) : AV := .tuple [.int .i64 r.1, .bool r.2]
@[push_cast] def sh66 : Shp := .tup [.leaf none, .leaf none]
noncomputable def t66 : List AV → Option AV := TL ar66.e fun x => bindO (F129 x) fun r => some (v66 r)
@[push_cast] theorem t48_1 (z1 : Int) : t48 [.int .i64 z1] = bindO (F112 z1) fun r => some (v48 r) :=
 TL_hit ar48.inj z1 (by simp only [push_cast] <;> rfl)
@[push_cast] def H94 : Nat → Hint
 | _ => ⟨[], [], []⟩
def F78 (a : Int) (b : Int) : Option (Int) := iteO (decide (a < b)) (some (-1)) (iteO (decide (a > b)) (some 1) (some 0))
@[push_cast] def ar94 : Rs (Int × Int) := rsC (rI .i64) (rsO (rI .i64))
@[push_cast] def v94 (r : Int) : AV := .int .i64 r
@[push_cast] def sh94 : Shp := .one (.leaf none)
noncomputable def t94 : List AV → Option AV := TL ar94.e fun x => bindO (F78 x.1 x.2) fun r => some (v94 r)
@[push_cast] def H96 : Nat → Hint
 | _ => ⟨[], [], []⟩
def F80 (a : Int) (b : Int) : Option (Int) := iteO (decide (a < b)) (some (-1)) (iteO (decide (a > b)) (some 1) (some 0))
@[push_cast] def ar96 : Rs (Int × Int) := rsC (rI .i64) (rsO (rI .i64))
@[push_cast] def v96 (r : Int) : AV := .int .i64 r
@[push_cast] def sh96 : Shp := .one (.leaf none)
noncomputable def t96 : List AV → Option AV := TL ar96.e fun x => bindO (F80 x.1 x.2) fun r => some (v96 r)
@[push_cast] def H61 : Nat → Hint
 | 0 => ⟨[2, 3, 56, 57], [], []⟩
 | 1 => ⟨[], [2, 3, 56, 57], []⟩
 | _ => ⟨[], [], []⟩
def F18_s1 (self61 : Node → Node → Option (Int)) (b : Node) (s8 : Unit) (i6 : Nat) (x7 : Node) : Option (Sum (Unit) (Int)) := bindO (atO b.kids (i6 : Int)) fun x9 => bindO (self61 x7 x9) fun r10 => iteO (r10 == 0) (some (.inl ())) (some (.inr r10))
def F18_f1  (s8 : Unit) : Option (Int) := some 0
def F18b (self61 : Node → Node → Option (Int)) (N : Nat) (a : Node) (b : Node) : Option (Int) := bindO (F78 a.op b.op) fun r1 => iteO (r1 == 0) (bindO (F78 a.sortf b.sortf) fun r2 => iteO (r2 == 0) (bindO (F79 a.name b.name) fun r3 => iteO (r3 == 0) (bindO (F80 a.num b.num) fun r4 => iteO (r4 == 0) (bindO (F78 (a.kids.length : Int) (b.kids.length : Int)) fun r5 => iteO (r5 == 0) (foldN (S := Unit) (F18_s1 self61 b) (F18_f1) N a.kids 0 ()) (some r5)) (some r4)) (some r3)) (some r2)) (some r1)
def F18 : Nat → Node → Node → Option (Int)
 | 0 => fun _ _ => none
 | N + 1 => fun a b => F18b (F18 N) N a b
@[push_cast] def ar61 : Rs (Node × Node) := rsC rNode (rsO rNode)
@[push_cast] def v61 (r : Int) : AV := .int .i64 r
@[push_cast] def sh61 : Shp := .one (.leaf none)
noncomputable def t61 (N : Nat) : List AV → Option AV := TL ar61.e fun x => bindO (F18 N x.1 x.2) fun r => some (v61 r)
noncomputable def ts61 (self61 : Node → Node → Option (Int)) : List AV → Option AV := TL ar61.e fun x => bindO (self61 x.1 x.2) fun r => some (v61 r)
@[push_cast] theorem t94_1 (z1 : Int) (z2 : Int) : t94 [.int .i64 z1, .int .i64 z2] = bindO (F78 z1 z2) fun r => some (v94 r) :=
 TL_hit ar94.inj (z1, z2) (by simp only [push_cast] <;> rfl)
@[push_cast] theorem t95_1 (z1 : ByteArray) (z2 : ByteArray) : t95 [.str z1, .str z2] = bindO (F79 z1 z2) fun r => some (v95 r) :=
 TL_hit ar95.inj (z1, z2) (by simp only [push_cast] <;> rfl)
@[push_cast] theorem t96_1 (z1 : Int) (z2 : Int) : t96 [.int .i64 z1, .int .i64 z2] = bindO (F80 z1 z2) fun r => some (v96 r) :=
 TL_hit ar96.inj (z1, z2) (by simp only [push_cast] <;> rfl)
@[push_cast] theorem t61_1 (self61 : Node → Node → Option (Int)) (z1 : Int) (z2 : Int) (z3 : ByteArray) (z4 : Int) (z5 : List Node) (z6 : Int) (z7 : Int) (z8 : ByteArray) (z9 : Int) (z10 : List Node) : ts61 self61 [.agg [.int .i64 z1, .int .i64 z2, .str z3, .int .i64 z4, .sl false 5 (List.map Node.cells z5)], .agg [.int .i64 z6, .int .i64 z7, .str z8, .int .i64 z9, .sl false 5 (List.map Node.cells z10)]] = bindO (self61 (⟨z1, z2, z3, z4, z5⟩ : Node) (⟨z6, z7, z8, z9, z10⟩ : Node)) fun r => some (v61 r) :=
 TL_hit ar61.inj ((⟨z1, z2, z3, z4, z5⟩ : Node), (⟨z6, z7, z8, z9, z10⟩ : Node)) (by simp only [push_cast] <;> rfl)
@[push_cast] def H47 : Nat → Hint
 | 0 => ⟨[2, 3, 4, 5, 8, 10, 11, 12], [2, 3, 4, 5, 8, 10], [.ownS 3 0 6]⟩
 | 1 => ⟨[], [2, 3, 4, 5, 8, 10, 11, 12], []⟩
 | 2 => ⟨[], [2, 3, 4, 5, 8, 10, 11, 12, 13], []⟩
 | _ => ⟨[], [], []⟩
def F88_s1 (N : Nat) (a : Lin) (b : Lin) (p : Int) (q : Int) (s1 : (List Mono) × Int × Int) : Option (Sum ((List Mono) × Int × Int) (Lin × Bool)) := iteO (decide (s1.2.1 < (a.linMonos.length : Int))) (iteO (s1.2.1 == (a.linMonos.length : Int)) (bindO (atO b.linMonos s1.2.2) fun x21 => bindO (F128 (⟨0, 0⟩ : LinearSum) q x21.monoCoef) fun r22 => bindO (F129 r22) fun r23 => iteO r23.2 (iteO (r23.1 == 0) (some (.inl (s1.1, s1.2.1, IntKind.i64.wrap (s1.2.2 + 1)))) (iteO (fits (s1.1.length + 1) 72) (some (.inl (s1.1 ++ ([(⟨r23.1, x21.monoAtom⟩ : Mono)]), s1.2.1, IntKind.i64.wrap (s1.2.2 + 1)))) (none))) (some (.inr ((⟨[], 0⟩ : Lin), false)))) (iteO (s1.2.2 == (b.linMonos.length : Int)) (bindO (atO a.linMonos s1.2.1) fun x24 => bindO (F128 (⟨0, 0⟩ : LinearSum) p x24.monoCoef) fun r25 => bindO (F129 r25) fun r26 => iteO r26.2 (iteO (r26.1 == 0) (some (.inl (s1.1, IntKind.i64.wrap (s1.2.1 + 1), s1.2.2))) (iteO (fits (s1.1.length + 1) 72) (some (.inl (s1.1 ++ ([(⟨r26.1, x24.monoAtom⟩ : Mono)]), IntKind.i64.wrap (s1.2.1 + 1), s1.2.2))) (none))) (some (.inr ((⟨[], 0⟩ : Lin), false)))) (bindO (atO a.linMonos s1.2.1) fun x27 => bindO (atO b.linMonos s1.2.2) fun x28 => bindO (F18 N x27.monoAtom x28.monoAtom) fun r29 => iteO (decide (r29 ≤ 0)) (bindO (F128 (⟨0, 0⟩ : LinearSum) p x27.monoCoef) fun r30 => iteO (decide (r29 ≥ 0)) (bindO (F128 r30 q x28.monoCoef) fun r31 => bindO (F129 r31) fun r32 => iteO r32.2 (iteO (r32.1 == 0) (some (.inl (s1.1, IntKind.i64.wrap (s1.2.1 + 1), IntKind.i64.wrap (s1.2.2 + 1)))) (iteO (fits (s1.1.length + 1) 72) (some (.inl (s1.1 ++ ([(⟨r32.1, x28.monoAtom⟩ : Mono)]), IntKind.i64.wrap (s1.2.1 + 1), IntKind.i64.wrap (s1.2.2 + 1)))) (none))) (some (.inr ((⟨[], 0⟩ : Lin), false)))) (bindO (F129 r30) fun r33 => iteO r33.2 (iteO (r33.1 == 0) (some (.inl (s1.1, IntKind.i64.wrap (s1.2.1 + 1), s1.2.2))) (iteO (fits (s1.1.length + 1) 72) (some (.inl (s1.1 ++ ([(⟨r33.1, x27.monoAtom⟩ : Mono)]), IntKind.i64.wrap (s1.2.1 + 1), s1.2.2))) (none))) (some (.inr ((⟨[], 0⟩ : Lin), false))))) (iteO (decide (r29 ≥ 0)) (bindO (F128 (⟨0, 0⟩ : LinearSum) q x28.monoCoef) fun r34 => bindO (F129 r34) fun r35 => iteO r35.2 (iteO (r35.1 == 0) (some (.inl (s1.1, s1.2.1, IntKind.i64.wrap (s1.2.2 + 1)))) (iteO (fits (s1.1.length + 1) 72) (some (.inl (s1.1 ++ ([(⟨r35.1, x28.monoAtom⟩ : Mono)]), s1.2.1, IntKind.i64.wrap (s1.2.2 + 1)))) (none))) (some (.inr ((⟨[], 0⟩ : Lin), false)))) (bindO (F129 (⟨0, 0⟩ : LinearSum)) fun r36 => iteO r36.2 (iteO (r36.1 == 0) (some (.inl (s1.1, s1.2.1, s1.2.2))) (iteO (fits (s1.1.length + 1) 72) (some (.inl (s1.1 ++ ([(⟨r36.1, (⟨0, 0, (⟨#[]⟩ : ByteArray), 0, []⟩ : Node)⟩ : Mono)]), s1.2.1, s1.2.2))) (none))) (some (.inr ((⟨[], 0⟩ : Lin), false)))))))) (iteO (decide (s1.2.2 < (b.linMonos.length : Int))) (iteO (s1.2.1 == (a.linMonos.length : Int)) (bindO (atO b.linMonos s1.2.2) fun x2 => bindO (F128 (⟨0, 0⟩ : LinearSum) q x2.monoCoef) fun r3 => bindO (F129 r3) fun r4 => iteO r4.2 (iteO (r4.1 == 0) (some (.inl (s1.1, s1.2.1, IntKind.i64.wrap (s1.2.2 + 1)))) (iteO (fits (s1.1.length + 1) 72) (some (.inl (s1.1 ++ ([(⟨r4.1, x2.monoAtom⟩ : Mono)]), s1.2.1, IntKind.i64.wrap (s1.2.2 + 1)))) (none))) (some (.inr ((⟨[], 0⟩ : Lin), false)))) (iteO (s1.2.2 == (b.linMonos.length : Int)) (bindO (atO a.linMonos s1.2.1) fun x5 => bindO (F128 (⟨0, 0⟩ : LinearSum) p x5.monoCoef) fun r6 => bindO (F129 r6) fun r7 => iteO r7.2 (iteO (r7.1 == 0) (some (.inl (s1.1, IntKind.i64.wrap (s1.2.1 + 1), s1.2.2))) (iteO (fits (s1.1.length + 1) 72) (some (.inl (s1.1 ++ ([(⟨r7.1, x5.monoAtom⟩ : Mono)]), IntKind.i64.wrap (s1.2.1 + 1), s1.2.2))) (none))) (some (.inr ((⟨[], 0⟩ : Lin), false)))) (bindO (atO a.linMonos s1.2.1) fun x8 => bindO (atO b.linMonos s1.2.2) fun x9 => bindO (F18 N x8.monoAtom x9.monoAtom) fun r10 => iteO (decide (r10 ≤ 0)) (bindO (F128 (⟨0, 0⟩ : LinearSum) p x8.monoCoef) fun r11 => iteO (decide (r10 ≥ 0)) (bindO (F128 r11 q x9.monoCoef) fun r12 => bindO (F129 r12) fun r13 => iteO r13.2 (iteO (r13.1 == 0) (some (.inl (s1.1, IntKind.i64.wrap (s1.2.1 + 1), IntKind.i64.wrap (s1.2.2 + 1)))) (iteO (fits (s1.1.length + 1) 72) (some (.inl (s1.1 ++ ([(⟨r13.1, x9.monoAtom⟩ : Mono)]), IntKind.i64.wrap (s1.2.1 + 1), IntKind.i64.wrap (s1.2.2 + 1)))) (none))) (some (.inr ((⟨[], 0⟩ : Lin), false)))) (bindO (F129 r11) fun r14 => iteO r14.2 (iteO (r14.1 == 0) (some (.inl (s1.1, IntKind.i64.wrap (s1.2.1 + 1), s1.2.2))) (iteO (fits (s1.1.length + 1) 72) (some (.inl (s1.1 ++ ([(⟨r14.1, x8.monoAtom⟩ : Mono)]), IntKind.i64.wrap (s1.2.1 + 1), s1.2.2))) (none))) (some (.inr ((⟨[], 0⟩ : Lin), false))))) (iteO (decide (r10 ≥ 0)) (bindO (F128 (⟨0, 0⟩ : LinearSum) q x9.monoCoef) fun r15 => bindO (F129 r15) fun r16 => iteO r16.2 (iteO (r16.1 == 0) (some (.inl (s1.1, s1.2.1, IntKind.i64.wrap (s1.2.2 + 1)))) (iteO (fits (s1.1.length + 1) 72) (some (.inl (s1.1 ++ ([(⟨r16.1, x9.monoAtom⟩ : Mono)]), s1.2.1, IntKind.i64.wrap (s1.2.2 + 1)))) (none))) (some (.inr ((⟨[], 0⟩ : Lin), false)))) (bindO (F129 (⟨0, 0⟩ : LinearSum)) fun r17 => iteO r17.2 (iteO (r17.1 == 0) (some (.inl (s1.1, s1.2.1, s1.2.2))) (iteO (fits (s1.1.length + 1) 72) (some (.inl (s1.1 ++ ([(⟨r17.1, (⟨0, 0, (⟨#[]⟩ : ByteArray), 0, []⟩ : Node)⟩ : Mono)]), s1.2.1, s1.2.2))) (none))) (some (.inr ((⟨[], 0⟩ : Lin), false)))))))) (bindO (F128 (⟨0, 0⟩ : LinearSum) p a.linConst) fun r18 => bindO (F128 r18 q b.linConst) fun r19 => bindO (F129 r19) fun r20 => some (.inr ((⟨s1.1, r20.1⟩ : Lin), r20.2))))
def F88 (N : Nat) (a : Lin) (b : Lin) (p : Int) (q : Int) : Option (Lin × Bool) := whileN (S := (List Mono) × Int × Int) (F88_s1 N a b p q) N ([], 0, 0)
@[push_cast] def ar47 : Rs (Lin × Lin × Int × Int) := rsC rLin (rsC rLin (rsC (rI .i64) (rsO (rI .i64))))
@[push_cast] def v47 (r : Lin × Bool) : AV := .tuple [.agg (Lin.cells r.1), .bool r.2]
@[push_cast] def sh47 : Shp := .tup [.agg [some 6, none], .leaf none]
noncomputable def t47 (N : Nat) : List AV → Option AV := TL ar47.e fun x => bindO (F88 N x.1 x.2.1 x.2.2.1 x.2.2.2) fun r => some (v47 r)
@[push_cast] theorem t65_1 (z1 : Int) (z2 : Int) (z3 : Int) (z4 : Int) : t65 [.agg [.int .i64 z1, .int .u64 z2], .int .i64 z3, .int .i64 z4] = bindO (F128 (⟨z1, z2⟩ : LinearSum) z3 z4) fun r => some (v65 r) :=
 TL_hit ar65.inj ((⟨z1, z2⟩ : LinearSum), z3, z4) (by simp only [push_cast] <;> rfl)
@[push_cast] theorem t66_1 (z1 : Int) (z2 : Int) : t66 [.agg [.int .i64 z1, .int .u64 z2]] = bindO (F129 (⟨z1, z2⟩ : LinearSum)) fun r => some (v66 r) :=
 TL_hit ar66.inj (⟨z1, z2⟩ : LinearSum) (by simp only [push_cast] <;> rfl)
@[push_cast] theorem t61_2 {N : Nat} (z1 : Int) (z2 : Int) (z3 : ByteArray) (z4 : Int) (z5 : List Node) (z6 : Int) (z7 : Int) (z8 : ByteArray) (z9 : Int) (z10 : List Node) : t61 N [.agg [.int .i64 z1, .int .i64 z2, .str z3, .int .i64 z4, .sl false 5 (List.map Node.cells z5)], .agg [.int .i64 z6, .int .i64 z7, .str z8, .int .i64 z9, .sl false 5 (List.map Node.cells z10)]] = bindO (F18 N (⟨z1, z2, z3, z4, z5⟩ : Node) (⟨z6, z7, z8, z9, z10⟩ : Node)) fun r => some (v61 r) :=
 TL_hit ar61.inj ((⟨z1, z2, z3, z4, z5⟩ : Node), (⟨z6, z7, z8, z9, z10⟩ : Node)) (by simp only [push_cast] <;> rfl)
@[push_cast] def H36 : Nat → Hint
 | 0 => ⟨[], [1, 2], []⟩
 | _ => ⟨[], [], []⟩
@[push_cast] def H59 : Nat → Hint
 | _ => ⟨[], [], []⟩
def F85b (self36 : Node → Option (Lin × Bool)) (N : Nat) (n : Node) : Option (Lin × Bool) := iteO (n.op == 2) (bindO (F112 n.num) fun r1 => some ((⟨[], n.num⟩ : Lin), r1)) (iteO (n.op == 6) (bindO (atO n.kids 0) fun x2 => bindO (self36 x2) fun r3 => iteO r3.2 (bindO (F88 N r3.1 (⟨[], 0⟩ : Lin) (-1) 0) fun r4 => some (r4.1, r4.2)) (some ((⟨[], 0⟩ : Lin), false))) (iteO (n.op == 7) (bindO (atO n.kids 0) fun x5 => bindO (self36 x5) fun r6 => iteO r6.2 (bindO (F88 N r6.1 (⟨[], 0⟩ : Lin) n.num 0) fun r7 => some (r7.1, r7.2)) (some ((⟨[], 0⟩ : Lin), false))) (iteO (n.op == 4) (bindO (atO n.kids 0) fun x8 => bindO (self36 x8) fun r9 => bindO (atO n.kids 1) fun x10 => bindO (self36 x10) fun r11 => iteO r9.2 (iteO r11.2 (iteO (n.op == 5) (bindO (F88 N r9.1 r11.1 1 (-1)) fun r12 => some (r12.1, r12.2)) (bindO (F88 N r9.1 r11.1 1 1) fun r13 => some (r13.1, r13.2))) (some ((⟨[], 0⟩ : Lin), false))) (some ((⟨[], 0⟩ : Lin), false))) (iteO (n.op == 5) (bindO (atO n.kids 0) fun x14 => bindO (self36 x14) fun r15 => bindO (atO n.kids 1) fun x16 => bindO (self36 x16) fun r17 => iteO r15.2 (iteO r17.2 (bindO (F88 N r15.1 r17.1 1 (-1)) fun r18 => some (r18.1, r18.2)) (some ((⟨[], 0⟩ : Lin), false))) (some ((⟨[], 0⟩ : Lin), false))) (some ((⟨[(⟨1, n⟩ : Mono)], 0⟩ : Lin), true))))))
def F85 : Nat → Node → Option (Lin × Bool)
 | 0 => fun _ => none
 | N + 1 => fun n => F85b (F85 N) N n
@[push_cast] def ar36 : Rs Node := rsO rNode
@[push_cast] def v36 (r : Lin × Bool) : AV := .tuple [.agg (Lin.cells r.1), .bool r.2]
@[push_cast] def sh36 : Shp := .tup [.agg [some 6, none], .leaf none]
noncomputable def t36 (N : Nat) : List AV → Option AV := TL ar36.e fun x => bindO (F85 N x) fun r => some (v36 r)
noncomputable def ts36 (self36 : Node → Option (Lin × Bool)) : List AV → Option AV := TL ar36.e fun x => bindO (self36 x) fun r => some (v36 r)
@[push_cast] theorem t36_1 (self36 : Node → Option (Lin × Bool)) (z1 : Int) (z2 : Int) (z3 : ByteArray) (z4 : Int) (z5 : List Node) : ts36 self36 [.agg [.int .i64 z1, .int .i64 z2, .str z3, .int .i64 z4, .sl false 5 (List.map Node.cells z5)]] = bindO (self36 (⟨z1, z2, z3, z4, z5⟩ : Node)) fun r => some (v36 r) :=
 TL_hit ar36.inj (⟨z1, z2, z3, z4, z5⟩ : Node) (by simp only [push_cast] <;> rfl)
@[push_cast] theorem t47_1 {N : Nat} (z1 : List Mono) (z2 : Int) (z4 : Int) (z5 : Int) (z6 : Int) : t47 N [.agg [.sl false 6 (List.map Mono.cells z1), .int .i64 z2], .agg [.sl true 6 [], .int .i64 z4], .int .i64 z5, .int .i64 z6] = bindO (F88 N (⟨z1, z2⟩ : Lin) (⟨[], z4⟩ : Lin) z5 z6) fun r => some (v47 r) :=
 TL_hit ar47.inj ((⟨z1, z2⟩ : Lin), (⟨[], z4⟩ : Lin), z5, z6) (by simp only [push_cast] <;> rfl)
@[push_cast] theorem t47_2 {N : Nat} (z1 : List Mono) (z2 : Int) (z4 : Int) (z5 : Int) (z6 : Int) : t47 N [.agg [.sl false 6 (List.map Mono.cells z1), .int .i64 z2], .agg [.sl false 6 [], .int .i64 z4], .int .i64 z5, .int .i64 z6] = bindO (F88 N (⟨z1, z2⟩ : Lin) (⟨[], z4⟩ : Lin) z5 z6) fun r => some (v47 r) :=
 TL_hit ar47.inj ((⟨z1, z2⟩ : Lin), (⟨[], z4⟩ : Lin), z5, z6) (by simp only [push_cast] <;> rfl)
@[push_cast] theorem t47_3 {N : Nat} (z1 : List Mono) (z2 : Int) (z3 : List Mono) (z4 : Int) (z5 : Int) (z6 : Int) : t47 N [.agg [.sl false 6 (List.map Mono.cells z1), .int .i64 z2], .agg [.sl false 6 (List.map Mono.cells z3), .int .i64 z4], .int .i64 z5, .int .i64 z6] = bindO (F88 N (⟨z1, z2⟩ : Lin) (⟨z3, z4⟩ : Lin) z5 z6) fun r => some (v47 r) :=
 TL_hit ar47.inj ((⟨z1, z2⟩ : Lin), (⟨z3, z4⟩ : Lin), z5, z6) (by simp only [push_cast] <;> rfl)
@[push_cast] def H103 : Nat → Hint
 | 0 => ⟨[1, 2, 10, 11, 12], [1, 2], []⟩
 | 1 => ⟨[], [1, 2, 10, 11, 12], []⟩
 | _ => ⟨[], [], []⟩
def F82_s1 (self103 : Node → Option (Node)) (s3 : List Node) (i1 : Nat) (x2 : Nat) : Option (Sum (List Node) (Node)) := bindO (atO s3 (i1 : Int)) fun x4 => bindO (self103 x4) fun r5 => some (.inl (s3.set i1 r5))
def F82_f1 (n : Node) (s3 : List Node) : Option (Node) := some (⟨n.op, n.sortf, n.name, n.num, s3⟩ : Node)
def F82b (self103 : Node → Option (Node)) (N : Nat) (n : Node) : Option (Node) := iteO (fits (n.kids.length) 64) (foldN (S := List Node) (F82_s1 self103) (F82_f1 n) N (List.range ((n.kids.length : Int)).toNat) 0 n.kids) (none)
def F82 : Nat → Node → Option (Node)
 | 0 => fun _ => none
 | N + 1 => fun n => F82b (F82 N) N n
@[push_cast] def ar103 : Rs Node := rsO rNode
@[push_cast] def v103 (r : Node) : AV := .agg (Node.cells r)
@[push_cast] def sh103 : Shp := .one (.agg [none, none, none, none, some 5])
noncomputable def t103 (N : Nat) : List AV → Option AV := TL ar103.e fun x => bindO (F82 N x) fun r => some (v103 r)
noncomputable def ts103 (self103 : Node → Option (Node)) : List AV → Option AV := TL ar103.e fun x => bindO (self103 x) fun r => some (v103 r)
@[push_cast] theorem t103_1 (self103 : Node → Option (Node)) (z1 : Int) (z2 : Int) (z3 : ByteArray) (z4 : Int) (z5 : List Node) : ts103 self103 [.agg [.int .i64 z1, .int .i64 z2, .str z3, .int .i64 z4, .sl false 5 (List.map Node.cells z5)]] = bindO (self103 (⟨z1, z2, z3, z4, z5⟩ : Node)) fun r => some (v103 r) :=
 TL_hit ar103.inj (⟨z1, z2, z3, z4, z5⟩ : Node) (by simp only [push_cast] <;> rfl)
@[push_cast] def H69 : Nat → Hint
 | 0 => ⟨[1, 2, 3, 6, 18, 19], [1, 2, 3, 6], []⟩
 | 1 => ⟨[], [1, 2, 3, 6, 18, 19], []⟩
 | 2 => ⟨[1, 2, 3, 6, 8, 40, 41, 42], [3, 6, 8], []⟩
 | 3 => ⟨[], [1, 2, 3, 6, 8, 40, 41, 42], []⟩
 | _ => ⟨[], [], []⟩
def F22_s1 (N : Nat) (n : Node) (names : List ByteArray) (withq : List Node) (s3 : Unit) (i1 : Nat) (x2 : Nat) : Option (Sum (Unit) (Node)) := bindO (atO names (i1 : Int)) fun x4 => iteO (x4.toList == n.name.toList) (bindO (atO withq (i1 : Int)) fun x5 => bindO (F82 N x5) fun r6 => some (.inr r6)) (some (.inl ()))
def F22_s2 (self69 : Node → (List ByteArray) → (List Node) → Option (Node)) (names : List ByteArray) (withq : List Node) (s9 : List Node) (i7 : Nat) (x8 : Node) : Option (Sum (List Node) (Node)) := bindO (self69 x8 names withq) fun r10 => iteO (fits (s9.length + 1) 64) (some (.inl (s9 ++ ([r10])))) (none)
def F22_f2 (n : Node) (s9 : List Node) : Option (Node) := some (⟨n.op, n.sortf, n.name, n.num, s9⟩ : Node)
def F22_f1 (self69 : Node → (List ByteArray) → (List Node) → Option (Node)) (N : Nat) (n : Node) (names : List ByteArray) (withq : List Node) (s3 : Unit) : Option (Node) := iteO (decide (0 ≤ 0 ∧ 0 ≤ (n.kids.length : Int) ∧ (n.kids.length : Int) * 64 ≤ 140737488355328 ∧ (n.kids.length : Int) ≤ 9223372036854775807)) (foldN (S := List Node) (F22_s2 self69 names withq) (F22_f2 n) N n.kids 0 ([])) (none)
def F22_s3 (self69 : Node → (List ByteArray) → (List Node) → Option (Node)) (names : List ByteArray) (withq : List Node) (s13 : List Node) (i11 : Nat) (x12 : Node) : Option (Sum (List Node) (Node)) := bindO (self69 x12 names withq) fun r14 => iteO (fits (s13.length + 1) 64) (some (.inl (s13 ++ ([r14])))) (none)
def F22_f3 (n : Node) (s13 : List Node) : Option (Node) := some (⟨n.op, n.sortf, n.name, n.num, s13⟩ : Node)
def F22b (self69 : Node → (List ByteArray) → (List Node) → Option (Node)) (N : Nat) (n : Node) (names : List ByteArray) (withq : List Node) : Option (Node) := iteO (n.op == 1) (foldN (S := Unit) (F22_s1 N n names withq) (F22_f1 self69 N n names withq) N (List.range (min (names.length : Int) (withq.length : Int)).toNat) 0 ()) (iteO (decide (0 ≤ 0 ∧ 0 ≤ (n.kids.length : Int) ∧ (n.kids.length : Int) * 64 ≤ 140737488355328 ∧ (n.kids.length : Int) ≤ 9223372036854775807)) (foldN (S := List Node) (F22_s3 self69 names withq) (F22_f3 n) N n.kids 0 ([])) (none))
def F22 : Nat → Node → (List ByteArray) → (List Node) → Option (Node)
 | 0 => fun _ _ _ => none
 | N + 1 => fun n names withq => F22b (F22 N) N n names withq
@[push_cast] def ar69 : Rs (Node × (List ByteArray) × (List Node)) := rsC rNode (rsC (rL 1 cS cS_inj) (rsO (rL 5 Node.cells Node.cells_inj)))
@[push_cast] def v69 (r : Node) : AV := .agg (Node.cells r)
@[push_cast] def sh69 : Shp := .one (.agg [none, none, none, none, some 5])
noncomputable def t69 (N : Nat) : List AV → Option AV := TL ar69.e fun x => bindO (F22 N x.1 x.2.1 x.2.2) fun r => some (v69 r)
noncomputable def ts69 (self69 : Node → (List ByteArray) → (List Node) → Option (Node)) : List AV → Option AV := TL ar69.e fun x => bindO (self69 x.1 x.2.1 x.2.2) fun r => some (v69 r)
@[push_cast] theorem t103_2 {N : Nat} (z1 : Int) (z2 : Int) (z3 : ByteArray) (z4 : Int) (z5 : List Node) : t103 N [.agg [.int .i64 z1, .int .i64 z2, .str z3, .int .i64 z4, .sl false 5 (List.map Node.cells z5)]] = bindO (F82 N (⟨z1, z2, z3, z4, z5⟩ : Node)) fun r => some (v103 r) :=
 TL_hit ar103.inj (⟨z1, z2, z3, z4, z5⟩ : Node) (by simp only [push_cast] <;> rfl)
@[push_cast] theorem t69_1 (self69 : Node → (List ByteArray) → (List Node) → Option (Node)) (z1 : Int) (z2 : Int) (z3 : ByteArray) (z4 : Int) (z5 : List Node) (z6 : List ByteArray) (z7 : List Node) : ts69 self69 [.agg [.int .i64 z1, .int .i64 z2, .str z3, .int .i64 z4, .sl false 5 (List.map Node.cells z5)], .sl false 1 (List.map cS z6), .sl false 5 (List.map Node.cells z7)] = bindO (self69 (⟨z1, z2, z3, z4, z5⟩ : Node) z6 z7) fun r => some (v69 r) :=
 TL_hit ar69.inj ((⟨z1, z2, z3, z4, z5⟩ : Node), z6, z7) (by simp only [push_cast] <;> rfl)
@[push_cast] def H41 : Nat → Hint
 | _ => ⟨[], [], []⟩
def F24 (N : Nat) (n : Node) (name : ByteArray) (withq : Node) : Option (Node) := bindO (F22 N n ([name]) ([withq])) fun r1 => some r1
@[push_cast] def ar41 : Rs (Node × ByteArray × Node) := rsC rNode (rsC rS (rsO rNode))
@[push_cast] def v41 (r : Node) : AV := .agg (Node.cells r)
@[push_cast] def sh41 : Shp := .one (.agg [none, none, none, none, some 5])
noncomputable def t41 (N : Nat) : List AV → Option AV := TL ar41.e fun x => bindO (F24 N x.1 x.2.1 x.2.2) fun r => some (v41 r)
@[push_cast] theorem t69_2 {N : Nat} (z1 : Int) (z2 : Int) (z3 : ByteArray) (z4 : Int) (z5 : List Node) (z7 : ByteArray) (z9 : Int) (z10 : Int) (z11 : ByteArray) (z12 : Int) (z13 : List Node) : t69 N [.agg [.int .i64 z1, .int .i64 z2, .str z3, .int .i64 z4, .sl false 5 (List.map Node.cells z5)], .sl true 1 [[.str z7]], .sl true 5 [[.int .i64 z9, .int .i64 z10, .str z11, .int .i64 z12, .sl false 5 (List.map Node.cells z13)]]] = bindO (F22 N (⟨z1, z2, z3, z4, z5⟩ : Node) ([z7]) ([(⟨z9, z10, z11, z12, z13⟩ : Node)])) fun r => some (v69 r) :=
 TL_hit ar69.inj ((⟨z1, z2, z3, z4, z5⟩ : Node), [z7], [(⟨z9, z10, z11, z12, z13⟩ : Node)]) (by simp only [push_cast] <;> rfl)
@[push_cast] theorem t69_3 {N : Nat} (z1 : Int) (z2 : Int) (z3 : ByteArray) (z4 : Int) (z5 : List Node) (z7 : ByteArray) (z9 : Int) (z10 : Int) (z11 : ByteArray) (z12 : Int) (z13 : List Node) : t69 N [.agg [.int .i64 z1, .int .i64 z2, .str z3, .int .i64 z4, .sl false 5 (List.map Node.cells z5)], .sl false 1 [[.str z7]], .sl false 5 [[.int .i64 z9, .int .i64 z10, .str z11, .int .i64 z12, .sl false 5 (List.map Node.cells z13)]]] = bindO (F22 N (⟨z1, z2, z3, z4, z5⟩ : Node) ([z7]) ([(⟨z9, z10, z11, z12, z13⟩ : Node)])) fun r => some (v69 r) :=
 TL_hit ar69.inj ((⟨z1, z2, z3, z4, z5⟩ : Node), [z7], [(⟨z9, z10, z11, z12, z13⟩ : Node)]) (by simp only [push_cast] <;> rfl)
@[push_cast] def H23 : Nat → Hint
 | 0 => ⟨[1, 2, 10, 11, 12], [1, 2], []⟩
 | 1 => ⟨[], [1, 2, 10, 11, 12], []⟩
 | _ => ⟨[], [], []⟩
def F86_s1 (N : Nat) (s3 : List Mono) (i1 : Nat) (x2 : Nat) : Option (Sum (List Mono) (Lin)) := bindO (atO s3 (i1 : Int)) fun x4 => bindO (F24 N x4.monoAtom (⟨#[]⟩ : ByteArray) (⟨0, 0, (⟨#[]⟩ : ByteArray), 0, []⟩ : Node)) fun r5 => some (.inl (s3.set i1 (⟨x4.monoCoef, r5⟩ : Mono)))
def F86_f1 (f : Lin) (s3 : List Mono) : Option (Lin) := some (⟨s3, f.linConst⟩ : Lin)
def F86 (N : Nat) (f : Lin) : Option (Lin) := iteO (fits (f.linMonos.length) 72) (foldN (S := List Mono) (F86_s1 N) (F86_f1 f) N (List.range ((f.linMonos.length : Int)).toNat) 0 f.linMonos) (none)
@[push_cast] def ar23 : Rs Lin := rsO rLin
@[push_cast] def v23 (r : Lin) : AV := .agg (Lin.cells r)
@[push_cast] def sh23 : Shp := .one (.agg [some 6, none])
noncomputable def t23 (N : Nat) : List AV → Option AV := TL ar23.e fun x => bindO (F86 N x) fun r => some (v23 r)
@[push_cast] theorem t41_1 {N : Nat} (z1 : Int) (z2 : Int) (z3 : ByteArray) (z4 : Int) (z5 : List Node) (z6 : ByteArray) (z7 : Int) (z8 : Int) (z9 : ByteArray) (z10 : Int) : t41 N [.agg [.int .i64 z1, .int .i64 z2, .str z3, .int .i64 z4, .sl false 5 (List.map Node.cells z5)], .str z6, .agg [.int .i64 z7, .int .i64 z8, .str z9, .int .i64 z10, .sl true 5 []]] = bindO (F24 N (⟨z1, z2, z3, z4, z5⟩ : Node) z6 (⟨z7, z8, z9, z10, []⟩ : Node)) fun r => some (v41 r) :=
 TL_hit ar41.inj ((⟨z1, z2, z3, z4, z5⟩ : Node), z6, (⟨z7, z8, z9, z10, []⟩ : Node)) (by simp only [push_cast] <;> rfl)
@[push_cast] theorem t41_2 {N : Nat} (z1 : Int) (z2 : Int) (z3 : ByteArray) (z4 : Int) (z5 : List Node) (z6 : ByteArray) (z7 : Int) (z8 : Int) (z9 : ByteArray) (z10 : Int) : t41 N [.agg [.int .i64 z1, .int .i64 z2, .str z3, .int .i64 z4, .sl false 5 (List.map Node.cells z5)], .str z6, .agg [.int .i64 z7, .int .i64 z8, .str z9, .int .i64 z10, .sl false 5 []]] = bindO (F24 N (⟨z1, z2, z3, z4, z5⟩ : Node) z6 (⟨z7, z8, z9, z10, []⟩ : Node)) fun r => some (v41 r) :=
 TL_hit ar41.inj ((⟨z1, z2, z3, z4, z5⟩ : Node), z6, (⟨z7, z8, z9, z10, []⟩ : Node)) (by simp only [push_cast] <;> rfl)
@[push_cast] def H18 : Nat → Hint
 | _ => ⟨[], [], []⟩
def F29 (N : Nat) (n : Node) : Option (Lin × Int) := bindO (F14 N n 0) fun r1 => iteO (r1 == 0) (bindO (F36 N n) fun r2 => iteO (r2 == 1) (bindO (F85 N n) fun r5 => iteO r5.2 (bindO (F86 N r5.1) fun r6 => some (r6, 0)) (some ((⟨[], 0⟩ : Lin), 2))) (iteO (r2 == 3) (bindO (F85 N n) fun r3 => iteO r3.2 (bindO (F86 N r3.1) fun r4 => some (r4, 0)) (some ((⟨[], 0⟩ : Lin), 2))) (some ((⟨[], 0⟩ : Lin), 10)))) (some ((⟨[], 0⟩ : Lin), r1))
@[push_cast] def ar18 : Rs Node := rsO rNode
@[push_cast] def v18 (r : Lin × Int) : AV := .tuple [.agg (Lin.cells r.1), .int .i64 r.2]
@[push_cast] def sh18 : Shp := .tup [.agg [some 6, none], .leaf none]
noncomputable def t18 (N : Nat) : List AV → Option AV := TL ar18.e fun x => bindO (F29 N x) fun r => some (v18 r)
@[push_cast] theorem t34_1 {N : Nat} (z1 : Int) (z2 : Int) (z3 : ByteArray) (z4 : Int) (z5 : List Node) (z6 : Int) : t34 N [.agg [.int .i64 z1, .int .i64 z2, .str z3, .int .i64 z4, .sl false 5 (List.map Node.cells z5)], .int .i64 z6] = bindO (F14 N (⟨z1, z2, z3, z4, z5⟩ : Node) z6) fun r => some (v34 r) :=
 TL_hit ar34.inj ((⟨z1, z2, z3, z4, z5⟩ : Node), z6) (by simp only [push_cast] <;> rfl)
@[push_cast] theorem t36_2 {N : Nat} (z1 : Int) (z2 : Int) (z3 : ByteArray) (z4 : Int) (z5 : List Node) : t36 N [.agg [.int .i64 z1, .int .i64 z2, .str z3, .int .i64 z4, .sl false 5 (List.map Node.cells z5)]] = bindO (F85 N (⟨z1, z2, z3, z4, z5⟩ : Node)) fun r => some (v36 r) :=
 TL_hit ar36.inj (⟨z1, z2, z3, z4, z5⟩ : Node) (by simp only [push_cast] <;> rfl)
@[push_cast] theorem t23_1 {N : Nat} (z1 : List Mono) (z2 : Int) : t23 N [.agg [.sl false 6 (List.map Mono.cells z1), .int .i64 z2]] = bindO (F86 N (⟨z1, z2⟩ : Lin)) fun r => some (v23 r) :=
 TL_hit ar23.inj (⟨z1, z2⟩ : Lin) (by simp only [push_cast] <;> rfl)
@[push_cast] def H6 : Nat → Hint
 | _ => ⟨[], [], []⟩
def F26 (N : Nat) : Option (Bool) := bindO (F84 4 (⟨1, 1, (⟨#[120]⟩ : ByteArray), 0, []⟩ : Node) (⟨2, 0, (⟨#[]⟩ : ByteArray), 1, []⟩ : Node)) fun r1 => bindO (F84 4 r1 (⟨1, 1, (⟨#[120]⟩ : ByteArray), 0, []⟩ : Node)) fun r2 => bindO (F29 N r2) fun r3 => iteO (r3.2 == 0) (iteO ((r3.1.linMonos.length : Int) == 1) (bindO (atO r3.1.linMonos 0) fun x4 => iteO (x4.monoCoef == 2) (some (r3.1.linConst == 1)) (some false)) (some false)) (some false)
@[push_cast] def ar6 : Rs Unit := rsN
@[push_cast] def v6 (r : Bool) : AV := .bool r
@[push_cast] def sh6 : Shp := .one (.leaf none)
noncomputable def t6 (N : Nat) : List AV → Option AV := TL ar6.e fun x => bindO (F26 N) fun r => some (v6 r)
@[push_cast] theorem t19_1 (z1 : Int) (z2 : Int) (z3 : Int) (z4 : ByteArray) (z5 : Int) (z7 : Int) (z8 : Int) (z9 : ByteArray) (z10 : Int) : t19 [.int .i64 z1, .agg [.int .i64 z2, .int .i64 z3, .str z4, .int .i64 z5, .sl true 5 []], .agg [.int .i64 z7, .int .i64 z8, .str z9, .int .i64 z10, .sl true 5 []]] = bindO (F84 z1 (⟨z2, z3, z4, z5, []⟩ : Node) (⟨z7, z8, z9, z10, []⟩ : Node)) fun r => some (v19 r) :=
 TL_hit ar19.inj (z1, (⟨z2, z3, z4, z5, []⟩ : Node), (⟨z7, z8, z9, z10, []⟩ : Node)) (by simp only [push_cast] <;> rfl)
@[push_cast] theorem t19_2 (z1 : Int) (z2 : Int) (z3 : Int) (z4 : ByteArray) (z5 : Int) (z7 : Int) (z8 : Int) (z9 : ByteArray) (z10 : Int) : t19 [.int .i64 z1, .agg [.int .i64 z2, .int .i64 z3, .str z4, .int .i64 z5, .sl false 5 []], .agg [.int .i64 z7, .int .i64 z8, .str z9, .int .i64 z10, .sl false 5 []]] = bindO (F84 z1 (⟨z2, z3, z4, z5, []⟩ : Node) (⟨z7, z8, z9, z10, []⟩ : Node)) fun r => some (v19 r) :=
 TL_hit ar19.inj (z1, (⟨z2, z3, z4, z5, []⟩ : Node), (⟨z7, z8, z9, z10, []⟩ : Node)) (by simp only [push_cast] <;> rfl)
@[push_cast] theorem t19_3 (z1 : Int) (z2 : Int) (z3 : Int) (z4 : ByteArray) (z5 : Int) (z6 : List Node) (z7 : Int) (z8 : Int) (z9 : ByteArray) (z10 : Int) : t19 [.int .i64 z1, .agg [.int .i64 z2, .int .i64 z3, .str z4, .int .i64 z5, .sl false 5 (List.map Node.cells z6)], .agg [.int .i64 z7, .int .i64 z8, .str z9, .int .i64 z10, .sl true 5 []]] = bindO (F84 z1 (⟨z2, z3, z4, z5, z6⟩ : Node) (⟨z7, z8, z9, z10, []⟩ : Node)) fun r => some (v19 r) :=
 TL_hit ar19.inj (z1, (⟨z2, z3, z4, z5, z6⟩ : Node), (⟨z7, z8, z9, z10, []⟩ : Node)) (by simp only [push_cast] <;> rfl)
@[push_cast] theorem t19_4 (z1 : Int) (z2 : Int) (z3 : Int) (z4 : ByteArray) (z5 : Int) (z6 : List Node) (z7 : Int) (z8 : Int) (z9 : ByteArray) (z10 : Int) : t19 [.int .i64 z1, .agg [.int .i64 z2, .int .i64 z3, .str z4, .int .i64 z5, .sl false 5 (List.map Node.cells z6)], .agg [.int .i64 z7, .int .i64 z8, .str z9, .int .i64 z10, .sl false 5 []]] = bindO (F84 z1 (⟨z2, z3, z4, z5, z6⟩ : Node) (⟨z7, z8, z9, z10, []⟩ : Node)) fun r => some (v19 r) :=
 TL_hit ar19.inj (z1, (⟨z2, z3, z4, z5, z6⟩ : Node), (⟨z7, z8, z9, z10, []⟩ : Node)) (by simp only [push_cast] <;> rfl)
@[push_cast] theorem t18_1 {N : Nat} (z1 : Int) (z2 : Int) (z3 : ByteArray) (z4 : Int) (z5 : List Node) : t18 N [.agg [.int .i64 z1, .int .i64 z2, .str z3, .int .i64 z4, .sl false 5 (List.map Node.cells z5)]] = bindO (F29 N (⟨z1, z2, z3, z4, z5⟩ : Node)) fun r => some (v18 r) :=
 TL_hit ar18.inj (⟨z1, z2, z3, z4, z5⟩ : Node) (by simp only [push_cast] <;> rfl)
@[push_cast] def H8 : Nat → Hint
 | 0 => ⟨[3, 6, 7, 8], [3], []⟩
 | 1 => ⟨[], [3, 6, 7, 8], []⟩
 | _ => ⟨[], [], []⟩
def F1003_s1  (s3 : List Lin) (i1 : Nat) (x2 : Con) : Option (Sum (List Lin) (List Lin)) := iteO (fits (s3.length + 1) 32) (some (.inl (s3 ++ ([x2.conForm])))) (none)
def F1003_f1  (s3 : List Lin) : Option (List Lin) := some s3
def F1003 (N : Nat) (cons : List Con) : Option (List Lin) := foldN (S := List Lin) (F1003_s1) (F1003_f1) N cons 0 ([])
@[push_cast] def ar8 : Rs (List Con) := rsO (rL 3 Con.cells Con.cells_inj)
@[push_cast] def v8 (r : List Lin) : AV := .sl false 2 (List.map Lin.cells r)
@[push_cast] def sh8 : Shp := .one (.leaf (some 2))
noncomputable def t8 (N : Nat) : List AV → Option AV := TL ar8.e fun x => bindO (F1003 N x) fun r => some (v8 r)
@[push_cast] def H20 : Nat → Hint
 | 0 => ⟨[3, 7, 8, 9], [3], []⟩
 | 1 => ⟨[], [3, 7, 8, 9], []⟩
 | _ => ⟨[], [], []⟩
def F27_s1 (self20 : Node → Option (Int)) (s3 : Int) (i1 : Nat) (x2 : Node) : Option (Sum (Int) (Int)) := bindO (self20 x2) fun r4 => some (.inl (IntKind.i64.wrap (s3 + r4)))
def F27_f1  (s3 : Int) : Option (Int) := some s3
def F27b (self20 : Node → Option (Int)) (N : Nat) (n : Node) : Option (Int) := foldN (S := Int) (F27_s1 self20) (F27_f1) N n.kids 0 1
def F27 : Nat → Node → Option (Int)
 | 0 => fun _ => none
 | N + 1 => fun n => F27b (F27 N) N n
@[push_cast] def ar20 : Rs Node := rsO rNode
@[push_cast] def v20 (r : Int) : AV := .int .i64 r
@[push_cast] def sh20 : Shp := .one (.leaf none)
noncomputable def t20 (N : Nat) : List AV → Option AV := TL ar20.e fun x => bindO (F27 N x) fun r => some (v20 r)
noncomputable def ts20 (self20 : Node → Option (Int)) : List AV → Option AV := TL ar20.e fun x => bindO (self20 x) fun r => some (v20 r)
@[push_cast] theorem t20_1 (self20 : Node → Option (Int)) (z1 : Int) (z2 : Int) (z3 : ByteArray) (z4 : Int) (z5 : List Node) : ts20 self20 [.agg [.int .i64 z1, .int .i64 z2, .str z3, .int .i64 z4, .sl false 5 (List.map Node.cells z5)]] = bindO (self20 (⟨z1, z2, z3, z4, z5⟩ : Node)) fun r => some (v20 r) :=
 TL_hit ar20.inj (⟨z1, z2, z3, z4, z5⟩ : Node) (by simp only [push_cast] <;> rfl)
@[push_cast] def H7 : Nat → Hint
 | 0 => ⟨[3, 8, 9, 10], [3], []⟩
 | 1 => ⟨[], [3, 8, 9, 10], []⟩
 | 2 => ⟨[3, 8, 9, 10, 20, 21, 22], [3, 8, 9, 10], []⟩
 | 3 => ⟨[], [3, 8, 9, 10, 20, 21, 22], []⟩
 | _ => ⟨[], [], []⟩
def F32_s2 (N : Nat) (s6 : Unit) (i4 : Nat) (x5 : Mono) : Option (Sum (Unit) (Sum Int Bool)) := bindO (F27 N x5.monoAtom) fun r7 => iteO (decide (r7 > 200)) (some (.inr (.inr false))) (some (.inl ()))
def F32_f2 (s3 : Int) (x2 : Lin) (s6 : Unit) : Option (Sum Int Bool) := some (.inl (IntKind.i64.wrap (s3 + (x2.linMonos.length : Int))))
def F32_s1 (N : Nat) (s3 : Int) (i1 : Nat) (x2 : Lin) : Option (Sum (Int) (Bool)) := foldN (S := Unit) (F32_s2 N) (F32_f2 s3 x2) N x2.linMonos 0 ()
def F32_f1  (s3 : Int) : Option (Bool) := some (decide (s3 ≤ 40))
def F32 (N : Nat) (l : List Lin) : Option (Bool) := foldN (S := Int) (F32_s1 N) (F32_f1) N l 0 0
@[push_cast] def ar7 : Rs (List Lin) := rsO (rL 2 Lin.cells Lin.cells_inj)
@[push_cast] def v7 (r : Bool) : AV := .bool r
@[push_cast] def sh7 : Shp := .one (.leaf none)
noncomputable def t7 (N : Nat) : List AV → Option AV := TL ar7.e fun x => bindO (F32 N x) fun r => some (v7 r)
@[push_cast] theorem t20_2 {N : Nat} (z1 : Int) (z2 : Int) (z3 : ByteArray) (z4 : Int) (z5 : List Node) : t20 N [.agg [.int .i64 z1, .int .i64 z2, .str z3, .int .i64 z4, .sl false 5 (List.map Node.cells z5)]] = bindO (F27 N (⟨z1, z2, z3, z4, z5⟩ : Node)) fun r => some (v20 r) :=
 TL_hit ar20.inj (⟨z1, z2, z3, z4, z5⟩ : Node) (by simp only [push_cast] <;> rfl)
@[push_cast] def H12 : Nat → Hint
 | 0 => ⟨[1, 3, 13, 14, 15], [1, 3], []⟩
 | 1 => ⟨[], [1, 3, 13, 14, 15], []⟩
 | 2 => ⟨[3, 26, 27, 28], [3], []⟩
 | 3 => ⟨[], [3, 26, 27, 28], []⟩
 | _ => ⟨[], [], []⟩
def F1006_s1  (s3 : Int) (i1 : Nat) (x2 : List Mult) : Option (Sum (Int) (Int)) := some (.inl (IntKind.i64.wrap (s3 + (IntKind.i64.wrap ((x2.length : Int) + 1)))))
def F1006_s2 (self12 : Deriv → Option (Int)) (s6 : Int) (i4 : Nat) (x5 : Deriv) : Option (Sum (Int) (Int)) := bindO (self12 x5) fun r7 => some (.inl (IntKind.i64.wrap (s6 + (IntKind.i64.wrap (r7 + 1)))))
def F1006_f2  (s6 : Int) : Option (Int) := some s6
def F1006_f1 (self12 : Deriv → Option (Int)) (N : Nat) (d : Deriv) (s3 : Int) : Option (Int) := foldN (S := Int) (F1006_s2 self12) (F1006_f2) N d.derivKids 0 s3
def F1006b (self12 : Deriv → Option (Int)) (N : Nat) (d : Deriv) : Option (Int) := foldN (S := Int) (F1006_s1) (F1006_f1 self12 N d) N d.derivSteps 0 (d.derivForm.linMonos.length : Int)
def F1006 : Nat → Deriv → Option (Int)
 | 0 => fun _ => none
 | N + 1 => fun d => F1006b (F1006 N) N d
@[push_cast] def ar12 : Rs Deriv := rsO rDeriv
@[push_cast] def v12 (r : Int) : AV := .int .i64 r
@[push_cast] def sh12 : Shp := .one (.leaf none)
noncomputable def t12 (N : Nat) : List AV → Option AV := TL ar12.e fun x => bindO (F1006 N x) fun r => some (v12 r)
noncomputable def ts12 (self12 : Deriv → Option (Int)) : List AV → Option AV := TL ar12.e fun x => bindO (self12 x) fun r => some (v12 r)
@[push_cast] theorem t12_1 (self12 : Deriv → Option (Int)) (z1 : List (List Mult)) (z2 : Bool) (z3 : List Mono) (z4 : Int) (z5 : List Deriv) : ts12 self12 [.agg [.sl false 1 (List.map (cL 2 Mult.cells) z1), .bool z2, .sl false 6 (List.map Mono.cells z3), .int .i64 z4, .sl false 5 (List.map Deriv.cells z5)]] = bindO (self12 (⟨z1, z2, (⟨z3, z4⟩ : Lin), z5⟩ : Deriv)) fun r => some (v12 r) :=
 TL_hit ar12.inj (⟨z1, z2, (⟨z3, z4⟩ : Lin), z5⟩ : Deriv) (by simp only [push_cast] <;> rfl)
@[push_cast] def H60 : Nat → Hint
 | 0 => ⟨[], [1], []⟩
 | _ => ⟨[], [], []⟩
def F62 (N : Nat) (n : Node) : Option (Bool) := iteO (n.op == 2) (some false) (iteO (n.op == 4) (some false) (iteO (n.op == 5) (some false) (iteO (n.op == 6) (some false) (iteO (n.op == 7) (some false) (bindO (F14 N n 0) fun r1 => iteO (r1 == 0) (bindO (F36 N n) fun r2 => iteO (r2 == 1) (some true) (bindO (F36 N n) fun r3 => some (r3 == 3))) (some false))))))
@[push_cast] def ar60 : Rs Node := rsO rNode
@[push_cast] def v60 (r : Bool) : AV := .bool r
@[push_cast] def sh60 : Shp := .one (.leaf none)
noncomputable def t60 (N : Nat) : List AV → Option AV := TL ar60.e fun x => bindO (F62 N x) fun r => some (v60 r)
@[push_cast] def H37 : Nat → Hint
 | 0 => ⟨[1, 6, 7, 8], [1], []⟩
 | 1 => ⟨[], [1, 6, 7, 8], []⟩
 | _ => ⟨[], [], []⟩
def F64_s1 (N : Nat) (f : Lin) (s3 : Unit) (i1 : Nat) (x2 : Mono) : Option (Sum (Unit) (Bool)) := iteO (x2.monoCoef == 0) (some (.inr false)) (bindO (F112 x2.monoCoef) fun r4 => iteO r4 (bindO (F62 N x2.monoAtom) fun r5 => iteO r5 (iteO (decide ((i1 : Int) > 0)) (bindO (atO f.linMonos (IntKind.i64.wrap ((i1 : Int) - 1))) fun x6 => bindO (F18 N x6.monoAtom x2.monoAtom) fun r7 => iteO (decide (r7 ≥ 0)) (some (.inr false)) (some (.inl ()))) (some (.inl ()))) (some (.inr false))) (some (.inr false)))
def F64_f1 (f : Lin) (s3 : Unit) : Option (Bool) := bindO (F112 f.linConst) fun r8 => some r8
def F64 (N : Nat) (f : Lin) : Option (Bool) := foldN (S := Unit) (F64_s1 N f) (F64_f1 f) N f.linMonos 0 ()
@[push_cast] def ar37 : Rs Lin := rsO rLin
@[push_cast] def v37 (r : Bool) : AV := .bool r
@[push_cast] def sh37 : Shp := .one (.leaf none)
noncomputable def t37 (N : Nat) : List AV → Option AV := TL ar37.e fun x => bindO (F64 N x) fun r => some (v37 r)
@[push_cast] theorem t60_1 {N : Nat} (z1 : Int) (z2 : Int) (z3 : ByteArray) (z4 : Int) (z5 : List Node) : t60 N [.agg [.int .i64 z1, .int .i64 z2, .str z3, .int .i64 z4, .sl false 5 (List.map Node.cells z5)]] = bindO (F62 N (⟨z1, z2, z3, z4, z5⟩ : Node)) fun r => some (v60 r) :=
 TL_hit ar60.inj (⟨z1, z2, z3, z4, z5⟩ : Node) (by simp only [push_cast] <;> rfl)
@[push_cast] def H21 : Nat → Hint
 | _ => ⟨[], [], []⟩
def F107 (N : Nat) (c : Con) : Option (Bool) := iteO (c.conRel == 0) (bindO (F64 N c.conForm) fun r2 => some r2) (iteO (c.conRel == 1) (bindO (F64 N c.conForm) fun r1 => some r1) (some false))
@[push_cast] def ar21 : Rs Con := rsO rCon
@[push_cast] def v21 (r : Bool) : AV := .bool r
@[push_cast] def sh21 : Shp := .one (.leaf none)
noncomputable def t21 (N : Nat) : List AV → Option AV := TL ar21.e fun x => bindO (F107 N x) fun r => some (v21 r)
@[push_cast] theorem t37_1 {N : Nat} (z1 : List Mono) (z2 : Int) : t37 N [.agg [.sl false 6 (List.map Mono.cells z1), .int .i64 z2]] = bindO (F64 N (⟨z1, z2⟩ : Lin)) fun r => some (v37 r) :=
 TL_hit ar37.inj (⟨z1, z2⟩ : Lin) (by simp only [push_cast] <;> rfl)
@[push_cast] def H28 : Nat → Hint
 | 0 => ⟨[1, 4, 5, 27, 28, 29], [4, 5], []⟩
 | 1 => ⟨[], [1, 4, 5, 27, 28, 29], []⟩
 | _ => ⟨[], [], []⟩
def F1014_s1 (self28 : Deriv → Int → Option (Int × Int)) (level : Int) (s3 : Int × Int) (i1 : Nat) (x2 : Deriv) : Option (Sum (Int × Int) (Int × Int)) := bindO (self28 x2 (IntKind.i64.wrap (level + 1))) fun r4 => iteO (decide ((IntKind.i64.wrap (s3.1 + r4.1)) > 2000)) (some (.inr (IntKind.i64.wrap (s3.1 + r4.1), max s3.2 r4.2))) (iteO (decide ((max s3.2 r4.2) > 60)) (some (.inr (IntKind.i64.wrap (s3.1 + r4.1), max s3.2 r4.2))) (some (.inl (IntKind.i64.wrap (s3.1 + r4.1), max s3.2 r4.2))))
def F1014_f1  (s3 : Int × Int) : Option (Int × Int) := some (s3.1, s3.2)
def F1014_s2 (self28 : Deriv → Int → Option (Int × Int)) (level : Int) (s7 : Int × Int) (i5 : Nat) (x6 : Deriv) : Option (Sum (Int × Int) (Int × Int)) := bindO (self28 x6 (IntKind.i64.wrap (level + 1))) fun r8 => iteO (decide ((IntKind.i64.wrap (s7.1 + r8.1)) > 2000)) (some (.inr (IntKind.i64.wrap (s7.1 + r8.1), max s7.2 r8.2))) (iteO (decide ((max s7.2 r8.2) > 60)) (some (.inr (IntKind.i64.wrap (s7.1 + r8.1), max s7.2 r8.2))) (some (.inl (IntKind.i64.wrap (s7.1 + r8.1), max s7.2 r8.2))))
def F1014_f2  (s7 : Int × Int) : Option (Int × Int) := some (s7.1, s7.2)
def F1014b (self28 : Deriv → Int → Option (Int × Int)) (N : Nat) (d : Deriv) (level : Int) : Option (Int × Int) := iteO d.derivSplit (iteO (decide (level > 60)) (some (IntKind.i64.wrap ((d.derivSteps.length : Int) + 1), level)) (iteO (decide ((IntKind.i64.wrap ((d.derivSteps.length : Int) + 1)) > 2000)) (some (IntKind.i64.wrap ((d.derivSteps.length : Int) + 1), level)) (foldN (S := Int × Int) (F1014_s1 self28 level) (F1014_f1) N d.derivKids 0 (IntKind.i64.wrap ((d.derivSteps.length : Int) + 1), level)))) (iteO (decide (level > 60)) (some ((d.derivSteps.length : Int), level)) (iteO (decide ((d.derivSteps.length : Int) > 2000)) (some ((d.derivSteps.length : Int), level)) (foldN (S := Int × Int) (F1014_s2 self28 level) (F1014_f2) N d.derivKids 0 ((d.derivSteps.length : Int), level))))
def F1014 : Nat → Deriv → Int → Option (Int × Int)
 | 0 => fun _ _ => none
 | N + 1 => fun d level => F1014b (F1014 N) N d level
@[push_cast] def ar28 : Rs (Deriv × Int) := rsC rDeriv (rsO (rI .i64))
@[push_cast] def v28 (r : Int × Int) : AV := .tuple [.int .i64 r.1, .int .i64 r.2]
@[push_cast] def sh28 : Shp := .tup [.leaf none, .leaf none]
noncomputable def t28 (N : Nat) : List AV → Option AV := TL ar28.e fun x => bindO (F1014 N x.1 x.2) fun r => some (v28 r)
noncomputable def ts28 (self28 : Deriv → Int → Option (Int × Int)) : List AV → Option AV := TL ar28.e fun x => bindO (self28 x.1 x.2) fun r => some (v28 r)
@[push_cast] theorem t28_1 (self28 : Deriv → Int → Option (Int × Int)) (z1 : List (List Mult)) (z2 : Bool) (z3 : List Mono) (z4 : Int) (z5 : List Deriv) (z6 : Int) : ts28 self28 [.agg [.sl false 1 (List.map (cL 2 Mult.cells) z1), .bool z2, .sl false 6 (List.map Mono.cells z3), .int .i64 z4, .sl false 5 (List.map Deriv.cells z5)], .int .i64 z6] = bindO (self28 (⟨z1, z2, (⟨z3, z4⟩ : Lin), z5⟩ : Deriv) z6) fun r => some (v28 r) :=
 TL_hit ar28.inj ((⟨z1, z2, (⟨z3, z4⟩ : Lin), z5⟩ : Deriv), z6) (by simp only [push_cast] <;> rfl)
@[push_cast] def H2002 : Nat → Hint
 | 0 => ⟨[0, 4, 6, 7, 8, 23, 24, 25], [4, 6, 7, 8], []⟩
 | 1 => ⟨[], [0, 4, 6, 7, 8, 23, 24, 25], []⟩
 | 2 => ⟨[0, 4, 6, 7, 8, 10, 11, 23, 24, 25, 36, 37, 38], [0, 4, 6, 7, 8, 10, 11, 23, 24, 25], []⟩
 | 3 => ⟨[], [0, 4, 6, 7, 8, 10, 11, 23, 24, 25, 36, 37, 38], []⟩
 | 4 => ⟨[4, 6, 8, 16, 82, 83, 84], [4, 8, 16], [.ownS 5 0 6]⟩
 | 5 => ⟨[], [4, 6, 8, 16, 82, 83, 84], []⟩
 | _ => ⟨[], [], []⟩
@[push_cast] def H62 : Nat → Hint
 | 0 => ⟨[0, 2, 4, 8, 9, 10], [0, 2, 4, 8, 9], []⟩
 | 1 => ⟨[], [0, 2, 4, 8, 9, 10], []⟩
 | _ => ⟨[], [], []⟩
def F1389_s3 (N : Nat) (s7 : (List Node) × (List LinearSum)) (x2 : Mult) (x6 : Mono) (s8 : Int × Int) : Option (Sum (Int × Int) (Sum ((List Node) × (List LinearSum)) (Sum ((List Node) × (List LinearSum) × Int × Int) (Lin × Bool)))) := iteO (decide (s8.2 < s8.1)) (bindO (atO s7.1 (IntKind.i64.wrap ((IntKind.u64.wrap (IntKind.i64.wrap (s8.2 + s8.1))).fdiv (2 ^ (min (1 : Int).toNat (IntKind.u64).bits))))) fun x9 => bindO (F18 N x9 x6.monoAtom) fun r10 => iteO (decide (r10 < 0)) (some (.inl (s8.1, IntKind.i64.wrap ((IntKind.i64.wrap ((IntKind.u64.wrap (IntKind.i64.wrap (s8.2 + s8.1))).fdiv (2 ^ (min (1 : Int).toNat (IntKind.u64).bits)))) + 1)))) (some (.inl (IntKind.i64.wrap ((IntKind.u64.wrap (IntKind.i64.wrap (s8.2 + s8.1))).fdiv (2 ^ (min (1 : Int).toNat (IntKind.u64).bits))), s8.2)))) (iteO (decide (s8.2 < ((s7.1.length : Int)))) (bindO (atO s7.1 s8.2) fun x11 => bindO (F18 N x11 x6.monoAtom) fun r12 => iteO (r12 == 0) (bindO (atO s7.2 s8.2) fun x17 => bindO (F128 x17 x2.multCoef x6.monoCoef) fun r18 => some (.inr (.inl (s7.1, s7.2.set s8.2.toNat r18)))) (bindO (F142 s7.1 s8.2 ([x6.monoAtom])) fun r13 => bindO (F1021 s7.2 s8.2 ([(⟨0, 0⟩ : LinearSum)])) fun r14 => bindO (atO r14 s8.2) fun x15 => bindO (F128 x15 x2.multCoef x6.monoCoef) fun r16 => some (.inr (.inl (r13, r14.set s8.2.toNat r16))))) (bindO (F142 s7.1 s8.2 ([x6.monoAtom])) fun r19 => bindO (F1021 s7.2 s8.2 ([(⟨0, 0⟩ : LinearSum)])) fun r20 => bindO (atO r20 s8.2) fun x21 => bindO (F128 x21 x2.multCoef x6.monoCoef) fun r22 => some (.inr (.inl (r19, r20.set s8.2.toNat r22)))))
def F1389_s2 (N : Nat) (x2 : Mult) (s7 : (List Node) × (List LinearSum)) (i5 : Nat) (x6 : Mono) : Option (Sum ((List Node) × (List LinearSum)) (Sum ((List Node) × (List LinearSum) × Int × Int) (Lin × Bool))) := whileN (S := Int × Int) (F1389_s3 N s7 x2 x6) N (((s7.1.length : Int)), 0)
def F1389_f2 (s3 : (List Node) × (List LinearSum) × Int × Int) (x2 : Mult) (x4 : Con) (s7 : (List Node) × (List LinearSum)) : Option (Sum ((List Node) × (List LinearSum) × Int × Int) (Lin × Bool)) := bindO (F128 (⟨s3.2.2.1, s3.2.2.2⟩ : LinearSum) x2.multCoef x4.conForm.linConst) fun r23 => some (.inl (s7.1, s7.2, r23.linearSumHi, r23.linearSumLo))
def F1389_s1 (N : Nat) (h2 : List Con) (s3 : (List Node) × (List LinearSum) × Int × Int) (i1 : Nat) (x2 : Mult) : Option (Sum ((List Node) × (List LinearSum) × Int × Int) (Lin × Bool)) := bindO (atO h2 x2.multIndex) fun x4 => foldN (S := (List Node) × (List LinearSum)) (F1389_s2 N x2) (F1389_f2 s3 x2 x4) N x4.conForm.linMonos 0 (s3.1, s3.2.1)
def F1389_s5 (s3 : (List Node) × (List LinearSum) × Int × Int) (s29 : List Mono) (i27 : Nat) (x28 : Nat) : Option (Sum (List Mono) (Lin × Bool)) := bindO (atO s3.2.1 (i27 : Int)) fun x30 => bindO (F129 x30) fun r31 => iteO r31.2 (iteO (r31.1 == 0) (some (.inl s29)) (bindO (atO s3.1 (i27 : Int)) fun x32 => iteO (fits (s29.length + 1) 72) (some (.inl (s29 ++ ([(⟨r31.1, x32⟩ : Mono)])))) (none))) (some (.inr ((⟨[], 0⟩ : Lin), false)))
def F1389_f5 (s3 : (List Node) × (List LinearSum) × Int × Int) (s29 : List Mono) : Option (Lin × Bool) := bindO (F129 (⟨s3.2.2.1, s3.2.2.2⟩ : LinearSum)) fun r33 => some ((⟨s29, r33.1⟩ : Lin), r33.2)
def F1389_f1 (N : Nat) (s3 : (List Node) × (List LinearSum) × Int × Int) : Option (Lin × Bool) := foldN (S := List Mono) (F1389_s5 s3) (F1389_f5 s3) N (List.range ((s3.2.1.length : Int)).toNat) 0 ([])
def F1389 (N : Nat) (u1 : List Mult) (h2 : List Con) : Option (Lin × Bool) := foldN (S := (List Node) × (List LinearSum) × Int × Int) (F1389_s1 N h2) (F1389_f1 N) N u1 0 ([], [], 0, 0)
@[push_cast] def ar2002 : Ra ((List Mult) × (Unit)) := raK (.rs 0 1) (wkc_rs _ _) (raC (rL 2 Mult.cells Mult.cells_inj) (raN))
@[push_cast] def st2002 : Rt ((List Con) × (Unit)) := rtC (oApp 3 Con.cells Con.cells_inj) (rtN)
@[push_cast] def v2002 (u1 : List Mult) (h2 : List Con) (r : Lin × Bool) : AV := .tuple [.agg [.sl false 6 (List.map Mono.cells r.1.linMonos), .int .i64 r.1.linConst], .bool r.2]
@[push_cast] def so2002 (u1 : List Mult) (h2 : List Con) (r : Lin × Bool) : Store := [.app 3 1 (List.map Con.cells h2)]
@[push_cast] def sh2002 : Shp := .tup [.agg [some 6, none], .leaf none]
@[push_cast] def sw2002 : List ShO := [.any]
noncomputable def t2002 (N : Nat) : List AV → Store → Option (AV × Store) := TLS (fun x : ((List Mult) × (Unit)) × ((List Con) × (Unit)) => ar2002.e x.1) (fun x => st2002.e x.2) fun x => bindO (F1389 N x.1.1 x.2.1) fun r => some (v2002 x.1.1 x.2.1 r, so2002 x.1.1 x.2.1 r)
@[push_cast] def H67 : Nat → Hint
 | 0 => ⟨[3, 8, 9, 10], [3], []⟩
 | 1 => ⟨[], [3, 8, 9, 10], []⟩
 | 2 => ⟨[3, 6, 8, 9, 10], [3, 8, 9, 10], []⟩
 | 3 => ⟨[], [3, 6, 8, 9, 10], []⟩
 | _ => ⟨[], [], []⟩
def F148_s2  (s4 : Int × Int) : Option (Sum (Int × Int) (Sum Int Int)) := iteO (s4.2 == 0) (some (.inr (.inl s4.1))) (iteO (decide (s4.2 = 0)) (none) (some (.inl (s4.2, s4.1.tmod s4.2))))
def F148_s3  (s5 : Int × Int) : Option (Sum (Int × Int) (Sum Int Int)) := iteO (s5.2 == 0) (some (.inr (.inl s5.1))) (iteO (decide (s5.2 = 0)) (none) (some (.inl (s5.2, s5.1.tmod s5.2))))
def F148_s1 (N : Nat) (s3 : Int) (i1 : Nat) (x2 : Mono) : Option (Sum (Int) (Int)) := iteO (decide (x2.monoCoef < 0)) (whileN (S := Int × Int) (F148_s2) N (s3, IntKind.i64.wrap (0 - x2.monoCoef))) (whileN (S := Int × Int) (F148_s3) N (s3, x2.monoCoef))
def F148_f1  (s3 : Int) : Option (Int) := some s3
def F148 (N : Nat) (f : Lin) : Option (Int) := foldN (S := Int) (F148_s1 N) (F148_f1) N f.linMonos 0 0
@[push_cast] def ar67 : Rs Lin := rsO rLin
@[push_cast] def v67 (r : Int) : AV := .int .i64 r
@[push_cast] def sh67 : Shp := .one (.leaf none)
noncomputable def t67 (N : Nat) : List AV → Option AV := TL ar67.e fun x => bindO (F148 N x) fun r => some (v67 r)
@[push_cast] def H68 : Nat → Hint
 | _ => ⟨[], [], []⟩
def F149 (a : Int) (b : Int) : Option (Int) := iteO (decide (b = 0)) (none) (iteO (decide ((a.tmod b) < 0)) (some (IntKind.i64.wrap ((IntKind.i64.wrap (a.tdiv b)) - 1))) (some (IntKind.i64.wrap (a.tdiv b))))
@[push_cast] def ar68 : Rs (Int × Int) := rsC (rI .i64) (rsO (rI .i64))
@[push_cast] def v68 (r : Int) : AV := .int .i64 r
@[push_cast] def sh68 : Shp := .one (.leaf none)
noncomputable def t68 : List AV → Option AV := TL ar68.e fun x => bindO (F149 x.1 x.2) fun r => some (v68 r)
@[push_cast] def H39 : Nat → Hint
 | 0 => ⟨[1, 2, 3, 4, 45, 46, 47], [1, 2, 3, 4], [.ownS 2 0 6]⟩
 | 1 => ⟨[], [1, 2, 3, 4, 45, 46, 47], []⟩
 | _ => ⟨[], [], []⟩
def F108_s2 (r1 : Int) (s8 : List Mono) (i6 : Nat) (x7 : Mono) : Option (Sum (List Mono) (Con)) := iteO (decide ((IntKind.i64.wrap (0 - r1)) = 0)) (none) (iteO (fits (s8.length + 1) 72) (some (.inl (s8 ++ ([(⟨IntKind.i64.wrap (x7.monoCoef.tdiv (IntKind.i64.wrap (0 - r1))), x7.monoAtom⟩ : Mono)])))) (none))
def F108_f2 (c : Con) (r1 : Int) (s8 : List Mono) : Option (Con) := iteO (decide ((IntKind.i64.wrap (0 - r1)) = 0)) (none) (some (⟨(⟨s8, IntKind.i64.wrap (c.conForm.linConst.tdiv (IntKind.i64.wrap (0 - r1)))⟩ : Lin), c.conRel⟩ : Con))
def F108_s3 (r1 : Int) (s11 : List Mono) (i9 : Nat) (x10 : Mono) : Option (Sum (List Mono) (Con)) := iteO (fits (s11.length + 1) 72) (some (.inl (s11 ++ ([(⟨IntKind.i64.wrap (x10.monoCoef.tdiv r1), x10.monoAtom⟩ : Mono)])))) (none)
def F108_f3 (c : Con) (r1 : Int) (s11 : List Mono) : Option (Con) := some (⟨(⟨s11, IntKind.i64.wrap (c.conForm.linConst.tdiv r1)⟩ : Lin), c.conRel⟩ : Con)
def F108_s4 (r1 : Int) (s14 : List Mono) (i12 : Nat) (x13 : Mono) : Option (Sum (List Mono) (Con)) := iteO (decide (r1 = 0)) (none) (iteO (fits (s14.length + 1) 72) (some (.inl (s14 ++ ([(⟨IntKind.i64.wrap (x13.monoCoef.tdiv r1), x13.monoAtom⟩ : Mono)])))) (none))
def F108_f4 (c : Con) (r1 : Int) (s14 : List Mono) : Option (Con) := bindO (F149 (IntKind.i64.wrap (0 - c.conForm.linConst)) r1) fun r15 => some (⟨(⟨s14, IntKind.i64.wrap (0 - r15)⟩ : Lin), c.conRel⟩ : Con)
def F108 (N : Nat) (c : Con) : Option (Con) := bindO (F148 N c.conForm) fun r1 => iteO (r1 == 0) (some c) (iteO (c.conRel == 0) (iteO (decide (r1 = 0)) (none) (iteO ((c.conForm.linConst.tmod r1) == 0) (bindO (atO c.conForm.linMonos 0) fun x2 => iteO (decide (x2.monoCoef < 0)) (foldN (S := List Mono) (F108_s2 r1) (F108_f2 c r1) N c.conForm.linMonos 0 ([])) (foldN (S := List Mono) (F108_s3 r1) (F108_f3 c r1) N c.conForm.linMonos 0 ([]))) (some (⟨(⟨[], 1⟩ : Lin), 0⟩ : Con)))) (foldN (S := List Mono) (F108_s4 r1) (F108_f4 c r1) N c.conForm.linMonos 0 ([])))
@[push_cast] def ar39 : Rs Con := rsO rCon
@[push_cast] def v39 (r : Con) : AV := .agg (Con.cells r)
@[push_cast] def sh39 : Shp := .one (.agg [some 6, none, none])
noncomputable def t39 (N : Nat) : List AV → Option AV := TL ar39.e fun x => bindO (F108 N x) fun r => some (v39 r)
@[push_cast] theorem t67_1 {N : Nat} (z1 : List Mono) (z2 : Int) : t67 N [.agg [.sl false 6 (List.map Mono.cells z1), .int .i64 z2]] = bindO (F148 N (⟨z1, z2⟩ : Lin)) fun r => some (v67 r) :=
 TL_hit ar67.inj (⟨z1, z2⟩ : Lin) (by simp only [push_cast] <;> rfl)
@[push_cast] theorem t68_1 (z1 : Int) (z2 : Int) : t68 [.int .i64 z1, .int .i64 z2] = bindO (F149 z1 z2) fun r => some (v68 r) :=
 TL_hit ar68.inj (z1, z2) (by simp only [push_cast] <;> rfl)
@[push_cast] def H2001 : Nat → Hint
 | 0 => ⟨[0, 1, 4, 6, 11, 12, 13], [0, 1, 4, 6], []⟩
 | 1 => ⟨[], [0, 1, 4, 6, 11, 12, 13], []⟩
 | _ => ⟨[], [], []⟩
def F1388_s1 (h2 : List Con) (s3 : Int) (i1 : Nat) (x2 : Mult) : Option (Sum (Int) (Con × Int)) := iteO (decide (x2.multIndex < 0)) (some (.inr ((⟨(⟨[], 0⟩ : Lin), 0⟩ : Con), 1))) (iteO (decide (x2.multIndex ≥ ((h2.length : Int)))) (some (.inr ((⟨(⟨[], 0⟩ : Lin), 0⟩ : Con), 1))) (iteO (x2.multCoef == 0) (some (.inr ((⟨(⟨[], 0⟩ : Lin), 0⟩ : Con), 1))) (iteO (decide (x2.multCoef < 0)) (bindO (atO h2 x2.multIndex) fun x4 => iteO (x4.conRel == 1) (some (.inr ((⟨(⟨[], 0⟩ : Lin), 0⟩ : Con), 1))) (some (.inl (max s3 x4.conRel)))) (bindO (atO h2 x2.multIndex) fun x5 => some (.inl (max s3 x5.conRel))))))
def F1388_f1 (N : Nat) (h2 : List Con) (u1 : List Mult) (s3 : Int) : Option (Con × Int) := iteO ((u1.length : Int) == 0) (some ((⟨(⟨[], 0⟩ : Lin), 0⟩ : Con), 1)) (bindO (F1389 N u1 h2) fun r6 => iteO r6.2 (bindO (F108 N (⟨r6.1, s3⟩ : Con)) fun r7 => some (r7, 0)) (some ((⟨(⟨[], 0⟩ : Lin), 0⟩ : Con), 2)))
def F1388 (N : Nat) (u1 : List Mult) (h2 : List Con) : Option (Con × Int) := foldN (S := Int) (F1388_s1 h2) (F1388_f1 N h2 u1) N u1 0 0
@[push_cast] def ar2001 : Ra ((List Mult) × (Unit)) := raK (.rs 0 1) (wkc_rs _ _) (raC (rL 2 Mult.cells Mult.cells_inj) (raN))
@[push_cast] def st2001 : Rt ((List Con) × (Unit)) := rtC (oApp 3 Con.cells Con.cells_inj) (rtN)
@[push_cast] def v2001 (u1 : List Mult) (h2 : List Con) (r : Con × Int) : AV := .tuple [.agg [.sl false 6 (List.map Mono.cells r.1.conForm.linMonos), .int .i64 r.1.conForm.linConst, .int .i64 r.1.conRel], .int .i64 r.2]
@[push_cast] def so2001 (u1 : List Mult) (h2 : List Con) (r : Con × Int) : Store := [.app 3 1 (List.map Con.cells h2)]
@[push_cast] def sh2001 : Shp := .tup [.agg [some 6, none, none], .leaf none]
@[push_cast] def sw2001 : List ShO := [.any]
noncomputable def t2001 (N : Nat) : List AV → Store → Option (AV × Store) := TLS (fun x : ((List Mult) × (Unit)) × ((List Con) × (Unit)) => ar2001.e x.1) (fun x => st2001.e x.2) fun x => bindO (F1388 N x.1.1 x.2.1) fun r => some (v2001 x.1.1 x.2.1 r, so2001 x.1.1 x.2.1 r)
@[push_cast] theorem t2002_1 {N : Nat} (z1 : List Mult) (z2 : List Con) (z3 : AObj) : lensRun 1 [.lend, .keep] (t2002 N) [.rs 0 1, .sl false 2 (List.map Mult.cells z1)] [.app 3 1 (List.map Con.cells z2), z3] = bindO (F1389 N z1 z2) fun r => some (.tuple [.agg [.sl false 6 (List.map Mono.cells r.1.linMonos), .int .i64 r.1.linConst], .bool r.2], [.app 3 1 (List.map Con.cells z2), z3]) :=
 lens_hit (X := ((List Mult) × (Unit)) × ((List Con) × (Unit))) (F := fun x => F1389 N x.1.1 x.2.1) (v := fun x r => v2002 x.1.1 x.2.1 r) (so := fun x r => so2002 x.1.1 x.2.1 r) (args2 := [.rs 0 1, .sl false 2 (List.map Mult.cells z1)]) (σ2 := [.app 3 1 (List.map Con.cells z2), z3]) (ras_inj ar2002 st2002) [some 0] ((z1, ()), (z2, ())) rfl rfl rfl (by (try simp only [push_cast]) <;> rfl) (by (try simp only [push_cast]) <;> rfl) (fun _ => (by (try simp only [push_cast]) <;> rfl)) (fun _ => (by (try simp only [push_cast]) <;> rfl)) (fun _ => rfl)
@[push_cast] theorem t39_1 {N : Nat} (z1 : List Mono) (z2 : Int) (z3 : Int) : t39 N [.agg [.sl false 6 (List.map Mono.cells z1), .int .i64 z2, .int .i64 z3]] = bindO (F108 N (⟨(⟨z1, z2⟩ : Lin), z3⟩ : Con)) fun r => some (v39 r) :=
 TL_hit ar39.inj (⟨(⟨z1, z2⟩ : Lin), z3⟩ : Con) (by simp only [push_cast] <;> rfl)
@[push_cast] def H46 : Nat → Hint
 | _ => ⟨[], [], []⟩
def F59 (N : Nat) (c : Con) : Option (Bool) := bindO (F107 N c) fun r1 => iteO r1 (iteO (decide ((c.conForm.linMonos.length : Int) > 0)) (some false) (iteO (c.conRel == 0) (iteO (c.conForm.linConst == 0) (iteO (c.conRel == 1) (some (decide (c.conForm.linConst > 0))) (some false)) (some true)) (iteO (c.conRel == 1) (some (decide (c.conForm.linConst > 0))) (some false)))) (some false)
@[push_cast] def ar46 : Rs Con := rsO rCon
@[push_cast] def v46 (r : Bool) : AV := .bool r
@[push_cast] def sh46 : Shp := .one (.leaf none)
noncomputable def t46 (N : Nat) : List AV → Option AV := TL ar46.e fun x => bindO (F59 N x) fun r => some (v46 r)
@[push_cast] theorem t21_1 {N : Nat} (z1 : List Mono) (z2 : Int) (z3 : Int) : t21 N [.agg [.sl false 6 (List.map Mono.cells z1), .int .i64 z2, .int .i64 z3]] = bindO (F107 N (⟨(⟨z1, z2⟩ : Lin), z3⟩ : Con)) fun r => some (v21 r) :=
 TL_hit ar21.inj (⟨(⟨z1, z2⟩ : Lin), z3⟩ : Con) (by simp only [push_cast] <;> rfl)
@[push_cast] def H2000 : Nat → Hint
 | 0 => ⟨[0, 3, 5, 13, 14, 15], [0, 3, 5], []⟩
 | 1 => ⟨[], [0, 3, 5, 13, 14, 15], []⟩
 | _ => ⟨[], [], []⟩
@[push_cast] def ali2000 : Nat → List (Nat × Nat)
 | 20 => [(10, 10), (96, 96), (98, 98), (101, 101), (102, 102), (103, 103), (109, 109), (112, 112), (113, 113), (114, 114)]
 | _ => []
def F1387_s1 (N : Nat) (s3 : (List Con) × Bool) (i1 : Nat) (x2 : List Mult) : Option (Sum ((List Con) × Bool) (Bool)) := bindO (F1388 N x2 s3.1) fun r4 => iteO (r4.2 == 0) (iteO s3.2 (iteO (fits (s3.1.length + 1) 40) (some (.inl (s3.1 ++ ([r4.1]), true))) (none)) (bindO (F59 N r4.1) fun r5 => iteO (fits (s3.1.length + 1) 40) (some (.inl (s3.1 ++ ([r4.1]), r5))) (none))) (some (.inr false))
def F1387_f1 (self2000 : Deriv → (List Con) → Option (Bool)) (N : Nat) (u1 : Deriv) (s3 : (List Con) × Bool) : Option (Bool) := iteO u1.derivSplit (iteO ((u1.derivKids.length : Int) == 2) (bindO (F64 N u1.derivForm) fun r6 => iteO r6 (bindO (F88 N u1.derivForm (⟨[], 0⟩ : Lin) (-1) 0) fun r7 => iteO r7.2 (bindO (F112 (IntKind.i64.wrap (r7.1.linConst + 1))) fun r8 => iteO r8 (iteO (inS 0 ((s3.1.length : Int)) s3.1.length) (iteO (fits ((cutL s3.1 0 ((s3.1.length : Int))).length + 1) 40) (bindO (atO u1.derivKids 0) fun x9 => bindO (self2000 x9 ((cutL s3.1 0 ((s3.1.length : Int))) ++ ([(⟨u1.derivForm, 1⟩ : Con)]))) fun r10 => iteO r10 (bindO (atO u1.derivKids 1) fun x11 => bindO (self2000 x11 ((cutL s3.1 0 ((s3.1.length : Int))) ++ ([(⟨(⟨r7.1.linMonos, IntKind.i64.wrap (r7.1.linConst + 1)⟩ : Lin), 1⟩ : Con)]))) fun r12 => some r12) (some false)) (none)) (none)) (some false)) (some false)) (some false)) (some false)) (iteO s3.2 (iteO ((u1.derivKids.length : Int) == 0) (iteO ((u1.derivForm.linMonos.length : Int) == 0) (some (u1.derivForm.linConst == 0)) (some false)) (some false)) (some false))
def F1387b (self2000 : Deriv → (List Con) → Option (Bool)) (N : Nat) (u1 : Deriv) (h2 : List Con) : Option (Bool) := foldN (S := (List Con) × Bool) (F1387_s1 N) (F1387_f1 self2000 N u1) N u1.derivSteps 0 (h2, false)
def F1387 : Nat → Deriv → (List Con) → Option (Bool)
 | 0 => fun _ _ => none
 | N + 1 => fun u1 h2 => F1387b (F1387 N) N u1 h2
@[push_cast] def ar2000 : Ra ((Deriv) × (Unit)) := raK (.rs 0 1) (wkc_rs _ _) (raC rDeriv (raN))
@[push_cast] def st2000 : Rt ((List Con) × (Unit)) := rtC (oApp 3 Con.cells Con.cells_inj) (rtN)
@[push_cast] def v2000 (u1 : Deriv) (h2 : List Con) (r : Bool) : AV := .bool r
@[push_cast] def so2000 (u1 : Deriv) (h2 : List Con) (r : Bool) : Store := [.dead]
@[push_cast] def sh2000 : Shp := .one (.leaf none)
@[push_cast] def sw2000 : List ShO := [.any]
noncomputable def t2000 (N : Nat) : List AV → Store → Option (AV × Store) := TLS (fun x : ((Deriv) × (Unit)) × ((List Con) × (Unit)) => ar2000.e x.1) (fun x => st2000.e x.2) fun x => bindO (F1387 N x.1.1 x.2.1) fun r => some (v2000 x.1.1 x.2.1 r, so2000 x.1.1 x.2.1 r)
theorem gr2000 (N : Nat) : ∀ args σ v σ', lensRun 0 [.app 3, .keep] (t2000 N) args σ = some (v, σ') → Grown σ σ' := fun _ _ _ _ h => lens_grow (X := ((Deriv) × (Unit)) × ((List Con) × (Unit))) (s := fun x => st2000.e x.2) rfl (fun _ => rfl) (fun _ _ _ h => some_all h fun _ => rfl) h
noncomputable def ts2000 (self2000 : Deriv → (List Con) → Option (Bool)) : List AV → Store → Option (AV × Store) := TLS (fun x : ((Deriv) × (Unit)) × ((List Con) × (Unit)) => ar2000.e x.1) (fun x => st2000.e x.2) fun x => bindO (self2000 x.1.1 x.2.1) fun r => some (v2000 x.1.1 x.2.1 r, so2000 x.1.1 x.2.1 r)
@[push_cast] theorem t2001_1 {N : Nat} (z1 : List Mult) (z2 : List Con) (z3 : AObj) : lensRun 1 [.lend, .keep] (t2001 N) [.rs 0 1, .sl false 2 (List.map Mult.cells z1)] [.app 3 1 (List.map Con.cells z2), z3] = bindO (F1388 N z1 z2) fun r => some (.tuple [.agg [.sl false 6 (List.map Mono.cells r.1.conForm.linMonos), .int .i64 r.1.conForm.linConst, .int .i64 r.1.conRel], .int .i64 r.2], [.app 3 1 (List.map Con.cells z2), z3]) :=
 lens_hit (X := ((List Mult) × (Unit)) × ((List Con) × (Unit))) (F := fun x => F1388 N x.1.1 x.2.1) (v := fun x r => v2001 x.1.1 x.2.1 r) (so := fun x r => so2001 x.1.1 x.2.1 r) (args2 := [.rs 0 1, .sl false 2 (List.map Mult.cells z1)]) (σ2 := [.app 3 1 (List.map Con.cells z2), z3]) (ras_inj ar2001 st2001) [some 0] ((z1, ()), (z2, ())) rfl rfl rfl (by (try simp only [push_cast]) <;> rfl) (by (try simp only [push_cast]) <;> rfl) (fun _ => (by (try simp only [push_cast]) <;> rfl)) (fun _ => (by (try simp only [push_cast]) <;> rfl)) (fun _ => rfl)
@[push_cast] theorem t46_1 {N : Nat} (z1 : List Mono) (z2 : Int) (z3 : Int) : t46 N [.agg [.sl false 6 (List.map Mono.cells z1), .int .i64 z2, .int .i64 z3]] = bindO (F59 N (⟨(⟨z1, z2⟩ : Lin), z3⟩ : Con)) fun r => some (v46 r) :=
 TL_hit ar46.inj (⟨(⟨z1, z2⟩ : Lin), z3⟩ : Con) (by simp only [push_cast] <;> rfl)
@[push_cast] theorem t2000_1 (self2000 : Deriv → (List Con) → Option (Bool)) (z1 : List (List Mult)) (z2 : Bool) (z3 : List Mono) (z4 : Int) (z5 : List Deriv) (z6 : AObj) (z7 : AObj) (z8 : AObj) (z9 : List Con) (z10 : List Mono) (z11 : Int) (z12 : Int) : lensRun 0 [.app 3, .keep] (ts2000 self2000) [.rs 3 0, .agg [.sl false 1 (List.map (cL 2 Mult.cells) z1), .bool z2, .sl false 6 (List.map Mono.cells z3), .int .i64 z4, .sl false 5 (List.map Deriv.cells z5)]] [z6, z7, z8, .row 3 0 (List.map Con.cells z9 ++ [[.sl false 6 (List.map Mono.cells z10), .int .i64 z11, .int .i64 z12]])] = bindO (self2000 (⟨z1, z2, (⟨z3, z4⟩ : Lin), z5⟩ : Deriv) (z9 ++ [(⟨(⟨z10, z11⟩ : Lin), z12⟩ : Con)])) fun r => some (.bool r, [z6, z7, z8, .dead]) :=
 lens_hit (X := ((Deriv) × (Unit)) × ((List Con) × (Unit))) (F := fun x => self2000 x.1.1 x.2.1) (v := fun x r => v2000 x.1.1 x.2.1 r) (so := fun x r => so2000 x.1.1 x.2.1 r) (args2 := [.rs 3 1, .agg [.sl false 1 (List.map (cL 2 Mult.cells) z1), .bool z2, .sl false 6 (List.map Mono.cells z3), .int .i64 z4, .sl false 5 (List.map Deriv.cells z5)]]) (σ2 := [z6, z7, z8, .app 3 1 (List.map Con.cells z9 ++ [[.sl false 6 (List.map Mono.cells z10), .int .i64 z11, .int .i64 z12]])]) (ras_inj ar2000 st2000) [some 3] (((⟨z1, z2, (⟨z3, z4⟩ : Lin), z5⟩ : Deriv), ()), (z9 ++ [(⟨(⟨z10, z11⟩ : Lin), z12⟩ : Con)], ())) rfl rfl rfl (by (try simp only [push_cast]) <;> rfl) (by (try simp only [push_cast]) <;> rfl) (fun _ => (by (try simp only [push_cast]) <;> rfl)) (fun _ => (by (try simp only [push_cast]) <;> rfl)) (fun _ => rfl)
@[push_cast] theorem t2000_2 (self2000 : Deriv → (List Con) → Option (Bool)) (z1 : List (List Mult)) (z2 : Bool) (z3 : List Mono) (z4 : Int) (z5 : List Deriv) (z6 : AObj) (z7 : AObj) (z8 : AObj) (z9 : AObj) (z10 : List Con) (z11 : List Mono) (z12 : Int) (z13 : Int) : lensRun 0 [.app 3, .keep] (ts2000 self2000) [.rs 4 0, .agg [.sl false 1 (List.map (cL 2 Mult.cells) z1), .bool z2, .sl false 6 (List.map Mono.cells z3), .int .i64 z4, .sl false 5 (List.map Deriv.cells z5)]] [z6, z7, z8, z9, .row 3 0 (List.map Con.cells z10 ++ [[.sl false 6 (List.map Mono.cells z11), .int .i64 z12, .int .i64 z13]])] = bindO (self2000 (⟨z1, z2, (⟨z3, z4⟩ : Lin), z5⟩ : Deriv) (z10 ++ [(⟨(⟨z11, z12⟩ : Lin), z13⟩ : Con)])) fun r => some (.bool r, [z6, z7, z8, z9, .dead]) :=
 lens_hit (X := ((Deriv) × (Unit)) × ((List Con) × (Unit))) (F := fun x => self2000 x.1.1 x.2.1) (v := fun x r => v2000 x.1.1 x.2.1 r) (so := fun x r => so2000 x.1.1 x.2.1 r) (args2 := [.rs 4 1, .agg [.sl false 1 (List.map (cL 2 Mult.cells) z1), .bool z2, .sl false 6 (List.map Mono.cells z3), .int .i64 z4, .sl false 5 (List.map Deriv.cells z5)]]) (σ2 := [z6, z7, z8, z9, .app 3 1 (List.map Con.cells z10 ++ [[.sl false 6 (List.map Mono.cells z11), .int .i64 z12, .int .i64 z13]])]) (ras_inj ar2000 st2000) [some 4] (((⟨z1, z2, (⟨z3, z4⟩ : Lin), z5⟩ : Deriv), ()), (z10 ++ [(⟨(⟨z11, z12⟩ : Lin), z13⟩ : Con)], ())) rfl rfl rfl (by (try simp only [push_cast]) <;> rfl) (by (try simp only [push_cast]) <;> rfl) (fun _ => (by (try simp only [push_cast]) <;> rfl)) (fun _ => (by (try simp only [push_cast]) <;> rfl)) (fun _ => rfl)
@[push_cast] def H14 : Nat → Hint
 | 0 => ⟨[0, 3, 13, 14, 15], [0, 3], []⟩
 | 1 => ⟨[], [0, 3, 13, 14, 15], []⟩
 | _ => ⟨[], [], []⟩
@[push_cast] def ali14 : Nat → List (Nat × Nat)
 | 12 => [(3, 3), (34, 34), (35, 35), (37, 37)]
 | _ => []
def F1008_s1 (N : Nat) (s3 : Unit) (i1 : Nat) (x2 : Con) : Option (Sum (Unit) (Bool × Int)) := bindO (F107 N x2) fun r4 => iteO r4 (some (.inl ())) (some (.inr (false, 3)))
def F1008_f1 (N : Nat) (cons : List Con) (d : Deriv) (s3 : Unit) : Option (Bool × Int) := bindO (F1014 N d 1) fun r5 => iteO (decide (r5.1 > 2000)) (some (false, 2)) (iteO (decide (r5.2 > 60)) (some (false, 2)) (iteO (inS 0 (cons.length : Int) cons.length) (bindO (F1387 N d (cutL cons 0 (cons.length : Int))) fun r6 => some (r6, 0)) (none)))
def F1008 (N : Nat) (cons : List Con) (d : Deriv) : Option (Bool × Int) := iteO (decide ((cons.length : Int) > 2000)) (some (false, 3)) (foldN (S := Unit) (F1008_s1 N) (F1008_f1 N cons d) N cons 0 ())
@[push_cast] def ar14 : Rs ((List Con) × Deriv) := rsC (rL 3 Con.cells Con.cells_inj) (rsO rDeriv)
@[push_cast] def v14 (r : Bool × Int) : AV := .tuple [.bool r.1, .int .i64 r.2]
@[push_cast] def sh14 : Shp := .tup [.leaf none, .leaf none]
noncomputable def t14 (N : Nat) : List AV → Option AV := TL ar14.e fun x => bindO (F1008 N x.1 x.2) fun r => some (v14 r)
@[push_cast] theorem t28_2 {N : Nat} (z1 : List (List Mult)) (z2 : Bool) (z3 : List Mono) (z4 : Int) (z5 : List Deriv) (z6 : Int) : t28 N [.agg [.sl false 1 (List.map (cL 2 Mult.cells) z1), .bool z2, .sl false 6 (List.map Mono.cells z3), .int .i64 z4, .sl false 5 (List.map Deriv.cells z5)], .int .i64 z6] = bindO (F1014 N (⟨z1, z2, (⟨z3, z4⟩ : Lin), z5⟩ : Deriv) z6) fun r => some (v28 r) :=
 TL_hit ar28.inj ((⟨z1, z2, (⟨z3, z4⟩ : Lin), z5⟩ : Deriv), z6) (by simp only [push_cast] <;> rfl)
@[push_cast] theorem t2000_3 {N : Nat} (z1 : List Con) (z2 : List (List Mult)) (z3 : Bool) (z4 : List Mono) (z5 : Int) (z6 : List Deriv) (z7 : AObj) : lensRun 0 [.app 3, .keep] (t2000 N) [.sl true 3 (List.map Con.cells z1), .agg [.sl false 1 (List.map (cL 2 Mult.cells) z2), .bool z3, .sl false 6 (List.map Mono.cells z4), .int .i64 z5, .sl false 5 (List.map Deriv.cells z6)]] [z7] = bindO (F1387 N (⟨z2, z3, (⟨z4, z5⟩ : Lin), z6⟩ : Deriv) z1) fun r => some (.bool r, [z7, .dead]) :=
 lens_hit (X := ((Deriv) × (Unit)) × ((List Con) × (Unit))) (F := fun x => F1387 N x.1.1 x.2.1) (v := fun x r => v2000 x.1.1 x.2.1 r) (so := fun x r => so2000 x.1.1 x.2.1 r) (args2 := [.rs 1 1, .agg [.sl false 1 (List.map (cL 2 Mult.cells) z2), .bool z3, .sl false 6 (List.map Mono.cells z4), .int .i64 z5, .sl false 5 (List.map Deriv.cells z6)]]) (σ2 := [z7, .app 3 1 (List.map Con.cells z1)]) (ras_inj ar2000 st2000) [some 1] (((⟨z2, z3, (⟨z4, z5⟩ : Lin), z6⟩ : Deriv), ()), (z1, ())) rfl rfl rfl (by (try simp only [push_cast]) <;> rfl) (by (try simp only [push_cast]) <;> rfl) (fun _ => (by (try simp only [push_cast]) <;> rfl)) (fun _ => (by (try simp only [push_cast]) <;> rfl)) (fun _ => rfl)
@[push_cast] def H16 : Nat → Hint
 | _ => ⟨[], [], []⟩
def F31 (n : Int) : Option (Bool) := iteO (decide (n ≥ (-1000000000))) (some (decide (n ≤ 1000000000))) (some false)
@[push_cast] def ar16 : Rs Int := rsO (rI .i64)
@[push_cast] def v16 (r : Bool) : AV := .bool r
@[push_cast] def sh16 : Shp := .one (.leaf none)
noncomputable def t16 : List AV → Option AV := TL ar16.e fun x => bindO (F31 x) fun r => some (v16 r)
@[push_cast] def H81 : Nat → Hint
 | 0 => ⟨[3, 7, 8, 9], [3], []⟩
 | 1 => ⟨[], [3, 7, 8, 9], []⟩
 | _ => ⟨[], [], []⟩
def F39_s1 (self81 : Node → Option (Int)) (s3 : Int) (i1 : Nat) (x2 : Node) : Option (Sum (Int) (Int)) := bindO (self81 x2) fun r4 => some (.inl (max s3 r4))
def F39_f1  (s3 : Int) : Option (Int) := some (IntKind.i64.wrap (s3 + 1))
def F39b (self81 : Node → Option (Int)) (N : Nat) (n : Node) : Option (Int) := foldN (S := Int) (F39_s1 self81) (F39_f1) N n.kids 0 0
def F39 : Nat → Node → Option (Int)
 | 0 => fun _ => none
 | N + 1 => fun n => F39b (F39 N) N n
@[push_cast] def ar81 : Rs Node := rsO rNode
@[push_cast] def v81 (r : Int) : AV := .int .i64 r
@[push_cast] def sh81 : Shp := .one (.leaf none)
noncomputable def t81 (N : Nat) : List AV → Option AV := TL ar81.e fun x => bindO (F39 N x) fun r => some (v81 r)
noncomputable def ts81 (self81 : Node → Option (Int)) : List AV → Option AV := TL ar81.e fun x => bindO (self81 x) fun r => some (v81 r)
@[push_cast] theorem t81_1 (self81 : Node → Option (Int)) (z1 : Int) (z2 : Int) (z3 : ByteArray) (z4 : Int) (z5 : List Node) : ts81 self81 [.agg [.int .i64 z1, .int .i64 z2, .str z3, .int .i64 z4, .sl false 5 (List.map Node.cells z5)]] = bindO (self81 (⟨z1, z2, z3, z4, z5⟩ : Node)) fun r => some (v81 r) :=
 TL_hit ar81.inj (⟨z1, z2, z3, z4, z5⟩ : Node) (by simp only [push_cast] <;> rfl)
@[push_cast] def H134 : Nat → Hint
 | _ => ⟨[], [], []⟩
def F75 (c : Int) : Option (Bool) := iteO (decide (c ≥ 97)) (iteO (decide (c ≤ 122)) (some true) (iteO (decide (c ≥ 65)) (some (decide (c ≤ 90))) (some false))) (iteO (decide (c ≥ 65)) (some (decide (c ≤ 90))) (some false))
@[push_cast] def ar134 : Rs Int := rsO (rI .u8)
@[push_cast] def v134 (r : Bool) : AV := .bool r
@[push_cast] def sh134 : Shp := .one (.leaf none)
noncomputable def t134 : List AV → Option AV := TL ar134.e fun x => bindO (F75 x) fun r => some (v134 r)
@[push_cast] def H149 : Nat → Hint
 | _ => ⟨[], [], []⟩
def F121  : Option (List ByteArray) := some ([(⟨#[116, 114, 117, 101]⟩ : ByteArray), (⟨#[102, 97, 108, 115, 101]⟩ : ByteArray), (⟨#[105, 110]⟩ : ByteArray), (⟨#[115, 117, 98]⟩ : ByteArray), (⟨#[101, 109, 112, 116, 121]⟩ : ByteArray), (⟨#[115, 105, 110, 103]⟩ : ByteArray), (⟨#[99, 117, 112]⟩ : ByteArray), (⟨#[99, 97, 112]⟩ : ByteArray), (⟨#[100, 105, 102, 102]⟩ : ByteArray), (⟨#[115, 101, 108]⟩ : ByteArray), (⟨#[115, 116, 111]⟩ : ByteArray), (⟨#[118, 108, 101, 110]⟩ : ByteArray), (⟨#[105, 116, 101]⟩ : ByteArray)])
@[push_cast] def ar149 : Rs Unit := rsN
@[push_cast] def v149 (r : List ByteArray) : AV := .sl false 1 (List.map cS r)
@[push_cast] def sh149 : Shp := .one (.leaf (some 1))
noncomputable def t149 : List AV → Option AV := TL ar149.e fun x => bindO (F121) fun r => some (v149 r)
@[push_cast] def H135 : Nat → Hint
 | 0 => ⟨[0, 5, 6, 7], [], []⟩
 | 1 => ⟨[], [0, 5, 6, 7], []⟩
 | _ => ⟨[], [], []⟩
def F76_s1 (s : ByteArray) (s4 : Unit) (i2 : Nat) (x3 : ByteArray) : Option (Sum (Unit) (Bool)) := iteO (x3.toList == s.toList) (some (.inr true)) (some (.inl ()))
def F76_f1  (s4 : Unit) : Option (Bool) := some false
def F76 (N : Nat) (s : ByteArray) : Option (Bool) := bindO (F121) fun r1 => foldN (S := Unit) (F76_s1 s) (F76_f1) N r1 0 ()
@[push_cast] def ar135 : Rs ByteArray := rsO rS
@[push_cast] def v135 (r : Bool) : AV := .bool r
@[push_cast] def sh135 : Shp := .one (.leaf none)
noncomputable def t135 (N : Nat) : List AV → Option AV := TL ar135.e fun x => bindO (F76 N x) fun r => some (v135 r)
@[push_cast] theorem t149_1  : t149 [] = bindO (F121) fun r => some (v149 r) :=
 TL_hit ar149.inj () (by simp only [push_cast] <;> rfl)
@[push_cast] def H136 : Nat → Hint
 | _ => ⟨[], [], []⟩
def F77 (c : Int) : Option (Bool) := iteO (decide (c ≥ 48)) (some (decide (c ≤ 57))) (some false)
@[push_cast] def ar136 : Rs Int := rsO (rI .u8)
@[push_cast] def v136 (r : Bool) : AV := .bool r
@[push_cast] def sh136 : Shp := .one (.leaf none)
noncomputable def t136 : List AV → Option AV := TL ar136.e fun x => bindO (F77 x) fun r => some (v136 r)
@[push_cast] def H114 : Nat → Hint
 | 0 => ⟨[0, 3], [], []⟩
 | 1 => ⟨[], [0, 3], []⟩
 | _ => ⟨[], [], []⟩
def F17_s1 (s : ByteArray) (s3 : Int) : Option (Sum (Int) (Bool)) := iteO (decide (s3 < (s.size : Int))) (iteO (inB s3 s.size) (bindO (F75 (bt s s3)) fun r4 => iteO r4 (some (.inl (IntKind.i64.wrap (s3 + 1)))) (bindO (F77 (bt s s3)) fun r5 => iteO r5 (some (.inl (IntKind.i64.wrap (s3 + 1)))) (iteO ((bt s s3) == 46) (some (.inl (IntKind.i64.wrap (s3 + 1)))) (some (.inr false))))) (none)) (some (.inr true))
def F17 (N : Nat) (s : ByteArray) : Option (Bool) := iteO ((s.size : Int) == 0) (some false) (iteO (decide ((s.size : Int) > 24)) (some false) (iteO (inB 0 s.size) (bindO (F75 (bt s 0)) fun r1 => iteO r1 (bindO (F76 N s) fun r2 => iteO r2 (some false) (whileN (S := Int) (F17_s1 s) N 1)) (some false)) (none)))
@[push_cast] def ar114 : Rs ByteArray := rsO rS
@[push_cast] def v114 (r : Bool) : AV := .bool r
@[push_cast] def sh114 : Shp := .one (.leaf none)
noncomputable def t114 (N : Nat) : List AV → Option AV := TL ar114.e fun x => bindO (F17 N x) fun r => some (v114 r)
@[push_cast] theorem t134_1 (z1 : Int) : t134 [.int .u8 z1] = bindO (F75 z1) fun r => some (v134 r) :=
 TL_hit ar134.inj z1 (by simp only [push_cast] <;> rfl)
@[push_cast] theorem t135_1 {N : Nat} (z1 : ByteArray) : t135 N [.str z1] = bindO (F76 N z1) fun r => some (v135 r) :=
 TL_hit ar135.inj z1 (by simp only [push_cast] <;> rfl)
@[push_cast] theorem t136_1 (z1 : Int) : t136 [.int .u8 z1] = bindO (F77 z1) fun r => some (v136 r) :=
 TL_hit ar136.inj z1 (by simp only [push_cast] <;> rfl)
@[push_cast] def H109 : Nat → Hint
 | 0 => ⟨[], [1], []⟩
 | _ => ⟨[], [], []⟩
def F118 (N : Nat) (n : Node) : Option (Bool) := iteO (n.op == 1) (bindO (F17 N n.name) fun r2 => iteO r2 (iteO (decide (n.sortf < 1)) (some false) (iteO (decide (n.sortf > 5)) (some false) (iteO (n.op == 2) (iteO (decide (n.num ≥ (-1000000000000))) (some (decide (n.num ≤ 1000000000000))) (some false)) (iteO (n.op == 7) (iteO (decide (n.num ≥ (-1000000000000))) (some (decide (n.num ≤ 1000000000000))) (some false)) (iteO (n.op == 42) (iteO (decide (n.num ≥ 0)) (some (decide (n.num < 200))) (some false)) (some (n.num == 0))))))) (some false)) (iteO (n.op == 3) (bindO (F17 N n.name) fun r1 => iteO r1 (iteO (decide (n.sortf < 1)) (some false) (iteO (decide (n.sortf > 5)) (some false) (iteO (n.op == 2) (iteO (decide (n.num ≥ (-1000000000000))) (some (decide (n.num ≤ 1000000000000))) (some false)) (iteO (n.op == 7) (iteO (decide (n.num ≥ (-1000000000000))) (some (decide (n.num ≤ 1000000000000))) (some false)) (iteO (n.op == 42) (iteO (decide (n.num ≥ 0)) (some (decide (n.num < 200))) (some false)) (some (n.num == 0))))))) (some false)) (iteO (n.name.toList == (⟨#[]⟩ : ByteArray).toList) (iteO (n.sortf == 0) (iteO (n.op == 2) (iteO (decide (n.num ≥ (-1000000000000))) (some (decide (n.num ≤ 1000000000000))) (some false)) (iteO (n.op == 7) (iteO (decide (n.num ≥ (-1000000000000))) (some (decide (n.num ≤ 1000000000000))) (some false)) (iteO (n.op == 42) (iteO (decide (n.num ≥ 0)) (some (decide (n.num < 200))) (some false)) (some (n.num == 0))))) (some false)) (some false)))
@[push_cast] def ar109 : Rs Node := rsO rNode
@[push_cast] def v109 (r : Bool) : AV := .bool r
@[push_cast] def sh109 : Shp := .one (.leaf none)
noncomputable def t109 (N : Nat) : List AV → Option AV := TL ar109.e fun x => bindO (F118 N x) fun r => some (v109 r)
@[push_cast] theorem t114_1 {N : Nat} (z1 : ByteArray) : t114 N [.str z1] = bindO (F17 N z1) fun r => some (v114 r) :=
 TL_hit ar114.inj z1 (by simp only [push_cast] <;> rfl)
@[push_cast] def H84 : Nat → Hint
 | 0 => ⟨[], [1], []⟩
 | _ => ⟨[], [], []⟩
def F28b (self84 : Node → Option (Int)) (N : Nat) (n : Node) : Option (Int) := iteO (n.op == 1) (some n.sortf) (iteO (n.op == 3) (some n.sortf) (iteO (n.op == 2) (some 1) (iteO (n.op == 4) (some 1) (iteO (n.op == 5) (some 1) (iteO (n.op == 6) (some 1) (iteO (n.op == 7) (some 1) (iteO (n.op == 14) (some 1) (iteO (n.op == 16) (some 1) (iteO (n.op == 8) (iteO (decide ((n.kids.length : Int) < 2)) (some 0) (bindO (atO n.kids 1) fun x1 => bindO (self84 x1) fun r2 => some r2)) (iteO (n.op == 9) (some 4) (iteO (n.op == 10) (some 4) (iteO (n.op == 11) (some 4) (iteO (n.op == 12) (some 4) (iteO (n.op == 13) (some 4) (iteO (n.op == 15) (some 5) (iteO (decide (n.op ≥ 30)) (iteO (decide (n.op ≤ 42)) (some 2) (some 0)) (some 0)))))))))))))))))
def F28 : Nat → Node → Option (Int)
 | 0 => fun _ => none
 | N + 1 => fun n => F28b (F28 N) N n
@[push_cast] def ar84 : Rs Node := rsO rNode
@[push_cast] def v84 (r : Int) : AV := .int .i64 r
@[push_cast] def sh84 : Shp := .one (.leaf none)
noncomputable def t84 (N : Nat) : List AV → Option AV := TL ar84.e fun x => bindO (F28 N x) fun r => some (v84 r)
noncomputable def ts84 (self84 : Node → Option (Int)) : List AV → Option AV := TL ar84.e fun x => bindO (self84 x) fun r => some (v84 r)
@[push_cast] theorem t84_1 (self84 : Node → Option (Int)) (z1 : Int) (z2 : Int) (z3 : ByteArray) (z4 : Int) (z5 : List Node) : ts84 self84 [.agg [.int .i64 z1, .int .i64 z2, .str z3, .int .i64 z4, .sl false 5 (List.map Node.cells z5)]] = bindO (self84 (⟨z1, z2, z3, z4, z5⟩ : Node)) fun r => some (v84 r) :=
 TL_hit ar84.inj (⟨z1, z2, z3, z4, z5⟩ : Node) (by simp only [push_cast] <;> rfl)
@[push_cast] def H110 : Nat → Hint
 | _ => ⟨[], [], []⟩
def F119 (s : Int) : Option (Bool) := iteO (s == 1) (some true) (iteO (s == 3) (some true) (iteO (s == 4) (some true) (some (s == 5))))
@[push_cast] def ar110 : Rs Int := rsO (rI .i64)
@[push_cast] def v110 (r : Bool) : AV := .bool r
@[push_cast] def sh110 : Shp := .one (.leaf none)
noncomputable def t110 : List AV → Option AV := TL ar110.e fun x => bindO (F119 x) fun r => some (v110 r)
@[push_cast] def H111 : Nat → Hint
 | _ => ⟨[], [], []⟩
def F120 (op : Int) : Option ((List Int) × Bool) := iteO (op == 1) (some ([], true)) (iteO (op == 2) (some ([], true)) (iteO (op == 9) (some ([], true)) (iteO (op == 30) (some ([], true)) (iteO (op == 31) (some ([], true)) (iteO (op == 6) (some ([1], true)) (iteO (op == 7) (some ([1], true)) (iteO (op == 10) (some ([1], true)) (iteO (op == 4) (some ([1, 1], true)) (iteO (op == 5) (some ([1, 1], true)) (iteO (op == 38) (some ([1, 1], true)) (iteO (op == 39) (some ([1, 1], true)) (iteO (op == 11) (some ([4, 4], true)) (iteO (op == 12) (some ([4, 4], true)) (iteO (op == 13) (some ([4, 4], true)) (iteO (op == 41) (some ([4, 4], true)) (iteO (op == 40) (some ([1, 4], true)) (iteO (op == 14) (some ([5, 1], true)) (iteO (op == 15) (some ([5, 1, 1], true)) (iteO (op == 16) (some ([5], true)) (iteO (op == 32) (some ([2], true)) (iteO (op == 33) (some ([2, 2], true)) (iteO (op == 34) (some ([2, 2], true)) (iteO (op == 35) (some ([2, 2], true)) (iteO (op == 36) (some ([2, 2], true)) (some ([], false))))))))))))))))))))))))))
@[push_cast] def ar111 : Rs Int := rsO (rI .i64)
@[push_cast] def v111 (r : (List Int) × Bool) : AV := .tuple [.sl false 1 (List.map (cI .i64) r.1), .bool r.2]
@[push_cast] def sh111 : Shp := .tup [.leaf (some 1), .leaf none]
noncomputable def t111 : List AV → Option AV := TL ar111.e fun x => bindO (F120 x) fun r => some (v111 r)
@[push_cast] def H82 : Nat → Hint
 | 0 => ⟨[1, 13, 14, 15], [1], []⟩
 | 1 => ⟨[], [1, 13, 14, 15], []⟩
 | 2 => ⟨[], [1], []⟩
 | 3 => ⟨[1, 121, 122, 123], [], []⟩
 | 4 => ⟨[], [1, 121, 122, 123], []⟩
 | _ => ⟨[], [], []⟩
def F72_s1 (self82 : Node → Option (Bool)) (s4 : Unit) (i2 : Nat) (x3 : Node) : Option (Sum (Unit) (Bool)) := bindO (self82 x3) fun r5 => iteO r5 (some (.inl ())) (some (.inr false))
def F72_s2 (N : Nat) (n : Node) (s23 : Unit) (i21 : Nat) (x22 : Int) : Option (Sum (Unit) (Bool)) := bindO (atO n.kids (i21 : Int)) fun x24 => bindO (F28 N x24) fun r25 => iteO (r25 == x22) (some (.inl ())) (some (.inr false))
def F72_f2  (s23 : Unit) : Option (Bool) := some true
def F72_f1 (N : Nat) (n : Node) (s4 : Unit) : Option (Bool) := iteO (n.op == 3) (some (decide ((n.kids.length : Int) ≤ 8))) (iteO (n.op == 42) (iteO (decide ((n.kids.length : Int) ≥ 1)) (some (decide ((n.kids.length : Int) ≤ 40))) (some false)) (iteO (n.op == 37) (iteO ((n.kids.length : Int) == 2) (bindO (atO n.kids 0) fun x6 => bindO (F28 N x6) fun r7 => bindO (atO n.kids 1) fun x8 => bindO (F28 N x8) fun r9 => iteO (r7 == r9) (bindO (F28 N x6) fun r10 => bindO (F119 r10) fun r11 => some r11) (some false)) (some false)) (iteO (n.op == 8) (iteO ((n.kids.length : Int) == 3) (bindO (atO n.kids 0) fun x12 => bindO (F28 N x12) fun r13 => iteO (r13 == 2) (bindO (atO n.kids 1) fun x14 => bindO (F28 N x14) fun r15 => bindO (atO n.kids 2) fun x16 => bindO (F28 N x16) fun r17 => iteO (r15 == r17) (bindO (F28 N x14) fun r18 => bindO (F119 r18) fun r19 => some r19) (some false)) (some false)) (some false)) (bindO (F120 n.op) fun r20 => iteO r20.2 (iteO ((r20.1.length : Int) == (n.kids.length : Int)) (foldN (S := Unit) (F72_s2 N n) (F72_f2) N r20.1 0 ()) (some false)) (some false)))))
def F72b (self82 : Node → Option (Bool)) (N : Nat) (n : Node) : Option (Bool) := bindO (F118 N n) fun r1 => iteO r1 (foldN (S := Unit) (F72_s1 self82) (F72_f1 N n) N n.kids 0 ()) (some false)
def F72 : Nat → Node → Option (Bool)
 | 0 => fun _ => none
 | N + 1 => fun n => F72b (F72 N) N n
@[push_cast] def ar82 : Rs Node := rsO rNode
@[push_cast] def v82 (r : Bool) : AV := .bool r
@[push_cast] def sh82 : Shp := .one (.leaf none)
noncomputable def t82 (N : Nat) : List AV → Option AV := TL ar82.e fun x => bindO (F72 N x) fun r => some (v82 r)
noncomputable def ts82 (self82 : Node → Option (Bool)) : List AV → Option AV := TL ar82.e fun x => bindO (self82 x) fun r => some (v82 r)
@[push_cast] theorem t109_1 {N : Nat} (z1 : Int) (z2 : Int) (z3 : ByteArray) (z4 : Int) (z5 : List Node) : t109 N [.agg [.int .i64 z1, .int .i64 z2, .str z3, .int .i64 z4, .sl false 5 (List.map Node.cells z5)]] = bindO (F118 N (⟨z1, z2, z3, z4, z5⟩ : Node)) fun r => some (v109 r) :=
 TL_hit ar109.inj (⟨z1, z2, z3, z4, z5⟩ : Node) (by simp only [push_cast] <;> rfl)
@[push_cast] theorem t82_1 (self82 : Node → Option (Bool)) (z1 : Int) (z2 : Int) (z3 : ByteArray) (z4 : Int) (z5 : List Node) : ts82 self82 [.agg [.int .i64 z1, .int .i64 z2, .str z3, .int .i64 z4, .sl false 5 (List.map Node.cells z5)]] = bindO (self82 (⟨z1, z2, z3, z4, z5⟩ : Node)) fun r => some (v82 r) :=
 TL_hit ar82.inj (⟨z1, z2, z3, z4, z5⟩ : Node) (by simp only [push_cast] <;> rfl)
@[push_cast] theorem t84_2 {N : Nat} (z1 : Int) (z2 : Int) (z3 : ByteArray) (z4 : Int) (z5 : List Node) : t84 N [.agg [.int .i64 z1, .int .i64 z2, .str z3, .int .i64 z4, .sl false 5 (List.map Node.cells z5)]] = bindO (F28 N (⟨z1, z2, z3, z4, z5⟩ : Node)) fun r => some (v84 r) :=
 TL_hit ar84.inj (⟨z1, z2, z3, z4, z5⟩ : Node) (by simp only [push_cast] <;> rfl)
@[push_cast] theorem t110_1 (z1 : Int) : t110 [.int .i64 z1] = bindO (F119 z1) fun r => some (v110 r) :=
 TL_hit ar110.inj z1 (by simp only [push_cast] <;> rfl)
@[push_cast] theorem t111_1 (z1 : Int) : t111 [.int .i64 z1] = bindO (F120 z1) fun r => some (v111 r) :=
 TL_hit ar111.inj z1 (by simp only [push_cast] <;> rfl)
@[push_cast] def H151 : Nat → Hint
 | _ => ⟨[], [], []⟩
def F168 (a : Decl) (b : Decl) : Option (Bool) := iteO (Op.bytesLess a.declName.toList b.declName.toList) (some true) (iteO (a.declName.toList == b.declName.toList) (some (decide (a.declSort < b.declSort))) (some false))
@[push_cast] def ar151 : Rs (Decl × Decl) := rsC rDecl (rsO rDecl)
@[push_cast] def v151 (r : Bool) : AV := .bool r
@[push_cast] def sh151 : Shp := .one (.leaf none)
noncomputable def t151 : List AV → Option AV := TL ar151.e fun x => bindO (F168 x.1 x.2) fun r => some (v151 r)
@[push_cast] def H148 : Nat → Hint
 | 0 => ⟨[3, 5, 6, 9, 10, 11], [3, 5, 6], []⟩
 | 1 => ⟨[], [3, 5, 6, 9, 10, 11], []⟩
 | _ => ⟨[], [], []⟩
def F140_s1 (d : Decl) (s3 : (List Decl) × Bool) (i1 : Nat) (x2 : Decl) : Option (Sum ((List Decl) × Bool) (List Decl)) := iteO ((x2.declName.toList == d.declName.toList) && (x2.declSort == d.declSort)) (iteO (fits (s3.1.length + 1) 24) (some (.inl (s3.1 ++ ([x2]), true))) (none)) (iteO s3.2 (iteO (fits (s3.1.length + 1) 24) (some (.inl (s3.1 ++ ([x2]), s3.2))) (none)) (bindO (F168 d x2) fun r4 => iteO r4 (iteO (fits (s3.1.length + 1) 24) (iteO (fits (s3.1.length + 1 + 1) 24) (some (.inl ((s3.1 ++ ([d])) ++ ([x2]), true))) (none)) (none)) (iteO (fits (s3.1.length + 1) 24) (some (.inl (s3.1 ++ ([x2]), s3.2))) (none))))
def F140_f1 (d : Decl) (s3 : (List Decl) × Bool) : Option (List Decl) := iteO s3.2 (some s3.1) (iteO (fits (s3.1.length + 1) 24) (some (s3.1 ++ ([d]))) (none))
def F140 (N : Nat) (l : List Decl) (d : Decl) : Option (List Decl) := foldN (S := (List Decl) × Bool) (F140_s1 d) (F140_f1 d) N l 0 ([], false)
@[push_cast] def ar148 : Rs ((List Decl) × Decl) := rsC (rL 2 Decl.cells Decl.cells_inj) (rsO rDecl)
@[push_cast] def v148 (r : List Decl) : AV := .sl false 2 (List.map Decl.cells r)
@[push_cast] def sh148 : Shp := .one (.leaf (some 2))
noncomputable def t148 (N : Nat) : List AV → Option AV := TL ar148.e fun x => bindO (F140 N x.1 x.2) fun r => some (v148 r)
@[push_cast] theorem t151_1 (z1 : ByteArray) (z2 : Int) (z3 : ByteArray) (z4 : Int) : t151 [.agg [.str z1, .int .i64 z2], .agg [.str z3, .int .i64 z4]] = bindO (F168 (⟨z1, z2⟩ : Decl) (⟨z3, z4⟩ : Decl)) fun r => some (v151 r) :=
 TL_hit ar151.inj ((⟨z1, z2⟩ : Decl), (⟨z3, z4⟩ : Decl)) (by simp only [push_cast] <;> rfl)
@[push_cast] def H133 : Nat → Hint
 | 0 => ⟨[0, 18, 19, 20], [0], []⟩
 | 1 => ⟨[], [0, 18, 19, 20], []⟩
 | _ => ⟨[], [], []⟩
def F95_s1 (self133 : (List Decl) → Node → Option (List Decl)) (s4 : List Decl) (i2 : Nat) (x3 : Node) : Option (Sum (List Decl) (List Decl)) := bindO (self133 s4 x3) fun r5 => some (.inl r5)
def F95_f1  (s4 : List Decl) : Option (List Decl) := some s4
def F95_s2 (self133 : (List Decl) → Node → Option (List Decl)) (s8 : List Decl) (i6 : Nat) (x7 : Node) : Option (Sum (List Decl) (List Decl)) := bindO (self133 s8 x7) fun r9 => some (.inl r9)
def F95_f2  (s8 : List Decl) : Option (List Decl) := some s8
def F95b (self133 : (List Decl) → Node → Option (List Decl)) (N : Nat) (l : List Decl) (n : Node) : Option (List Decl) := iteO (n.op == 1) (bindO (F140 N l (⟨n.name, n.sortf⟩ : Decl)) fun r1 => foldN (S := List Decl) (F95_s1 self133) (F95_f1) N n.kids 0 r1) (foldN (S := List Decl) (F95_s2 self133) (F95_f2) N n.kids 0 l)
def F95 : Nat → (List Decl) → Node → Option (List Decl)
 | 0 => fun _ _ => none
 | N + 1 => fun l n => F95b (F95 N) N l n
@[push_cast] def ar133 : Rs ((List Decl) × Node) := rsC (rL 2 Decl.cells Decl.cells_inj) (rsO rNode)
@[push_cast] def v133 (r : List Decl) : AV := .sl false 2 (List.map Decl.cells r)
@[push_cast] def sh133 : Shp := .one (.leaf (some 2))
noncomputable def t133 (N : Nat) : List AV → Option AV := TL ar133.e fun x => bindO (F95 N x.1 x.2) fun r => some (v133 r)
noncomputable def ts133 (self133 : (List Decl) → Node → Option (List Decl)) : List AV → Option AV := TL ar133.e fun x => bindO (self133 x.1 x.2) fun r => some (v133 r)
@[push_cast] theorem t148_1 {N : Nat} (z1 : List Decl) (z2 : ByteArray) (z3 : Int) : t148 N [.sl false 2 (List.map Decl.cells z1), .agg [.str z2, .int .i64 z3]] = bindO (F140 N z1 (⟨z2, z3⟩ : Decl)) fun r => some (v148 r) :=
 TL_hit ar148.inj (z1, (⟨z2, z3⟩ : Decl)) (by simp only [push_cast] <;> rfl)
@[push_cast] theorem t133_1 (self133 : (List Decl) → Node → Option (List Decl)) (z1 : List Decl) (z2 : Int) (z3 : Int) (z4 : ByteArray) (z5 : Int) (z6 : List Node) : ts133 self133 [.sl false 2 (List.map Decl.cells z1), .agg [.int .i64 z2, .int .i64 z3, .str z4, .int .i64 z5, .sl false 5 (List.map Node.cells z6)]] = bindO (self133 z1 (⟨z2, z3, z4, z5, z6⟩ : Node)) fun r => some (v133 r) :=
 TL_hit ar133.inj (z1, (⟨z2, z3, z4, z5, z6⟩ : Node)) (by simp only [push_cast] <;> rfl)
@[push_cast] def H112 : Nat → Hint
 | _ => ⟨[], [], []⟩
def F47 (N : Nat) (n : Node) : Option (List Decl) := bindO (F95 N ([]) n) fun r1 => some r1
@[push_cast] def ar112 : Rs Node := rsO rNode
@[push_cast] def v112 (r : List Decl) : AV := .sl false 2 (List.map Decl.cells r)
@[push_cast] def sh112 : Shp := .one (.leaf (some 2))
noncomputable def t112 (N : Nat) : List AV → Option AV := TL ar112.e fun x => bindO (F47 N x) fun r => some (v112 r)
@[push_cast] theorem t133_2 {N : Nat} (z2 : Int) (z3 : Int) (z4 : ByteArray) (z5 : Int) (z6 : List Node) : t133 N [.sl true 0 [], .agg [.int .i64 z2, .int .i64 z3, .str z4, .int .i64 z5, .sl false 5 (List.map Node.cells z6)]] = bindO (F95 N ([]) (⟨z2, z3, z4, z5, z6⟩ : Node)) fun r => some (v133 r) :=
 TL_hit ar133.inj ([], (⟨z2, z3, z4, z5, z6⟩ : Node)) (by simp only [push_cast] <;> rfl)
@[push_cast] theorem t133_3 {N : Nat} (z2 : Int) (z3 : Int) (z4 : ByteArray) (z5 : Int) (z6 : List Node) : t133 N [.sl false 0 [], .agg [.int .i64 z2, .int .i64 z3, .str z4, .int .i64 z5, .sl false 5 (List.map Node.cells z6)]] = bindO (F95 N ([]) (⟨z2, z3, z4, z5, z6⟩ : Node)) fun r => some (v133 r) :=
 TL_hit ar133.inj ([], (⟨z2, z3, z4, z5, z6⟩ : Node)) (by simp only [push_cast] <;> rfl)
@[push_cast] def H113 : Nat → Hint
 | 0 => ⟨[1, 23, 24, 25], [], []⟩
 | 1 => ⟨[], [1, 23, 24, 25], []⟩
 | _ => ⟨[], [], []⟩
def F92_s1 (self113 : Node → ByteArray → Option (Bool)) (name : ByteArray) (s3 : Unit) (i1 : Nat) (x2 : Node) : Option (Sum (Unit) (Bool)) := bindO (self113 x2 name) fun r4 => iteO r4 (some (.inr true)) (some (.inl ()))
def F92_f1  (s3 : Unit) : Option (Bool) := some false
def F92_s2 (self113 : Node → ByteArray → Option (Bool)) (name : ByteArray) (s7 : Unit) (i5 : Nat) (x6 : Node) : Option (Sum (Unit) (Bool)) := bindO (self113 x6 name) fun r8 => iteO r8 (some (.inr true)) (some (.inl ()))
def F92_f2  (s7 : Unit) : Option (Bool) := some false
def F92_s3 (self113 : Node → ByteArray → Option (Bool)) (name : ByteArray) (s11 : Unit) (i9 : Nat) (x10 : Node) : Option (Sum (Unit) (Bool)) := bindO (self113 x10 name) fun r12 => iteO r12 (some (.inr true)) (some (.inl ()))
def F92_f3  (s11 : Unit) : Option (Bool) := some false
def F92b (self113 : Node → ByteArray → Option (Bool)) (N : Nat) (n : Node) (name : ByteArray) : Option (Bool) := iteO (n.op == 3) (iteO (n.name.toList == name.toList) (iteO ((n.kids.length : Int) == 0) (some true) (foldN (S := Unit) (F92_s1 self113 name) (F92_f1) N n.kids 0 ())) (foldN (S := Unit) (F92_s2 self113 name) (F92_f2) N n.kids 0 ())) (foldN (S := Unit) (F92_s3 self113 name) (F92_f3) N n.kids 0 ())
def F92 : Nat → Node → ByteArray → Option (Bool)
 | 0 => fun _ _ => none
 | N + 1 => fun n name => F92b (F92 N) N n name
@[push_cast] def ar113 : Rs (Node × ByteArray) := rsC rNode (rsO rS)
@[push_cast] def v113 (r : Bool) : AV := .bool r
@[push_cast] def sh113 : Shp := .one (.leaf none)
noncomputable def t113 (N : Nat) : List AV → Option AV := TL ar113.e fun x => bindO (F92 N x.1 x.2) fun r => some (v113 r)
noncomputable def ts113 (self113 : Node → ByteArray → Option (Bool)) : List AV → Option AV := TL ar113.e fun x => bindO (self113 x.1 x.2) fun r => some (v113 r)
@[push_cast] theorem t113_1 (self113 : Node → ByteArray → Option (Bool)) (z1 : Int) (z2 : Int) (z3 : ByteArray) (z4 : Int) (z5 : List Node) (z6 : ByteArray) : ts113 self113 [.agg [.int .i64 z1, .int .i64 z2, .str z3, .int .i64 z4, .sl false 5 (List.map Node.cells z5)], .str z6] = bindO (self113 (⟨z1, z2, z3, z4, z5⟩ : Node) z6) fun r => some (v113 r) :=
 TL_hit ar113.inj ((⟨z1, z2, z3, z4, z5⟩ : Node), z6) (by simp only [push_cast] <;> rfl)
@[push_cast] def H83 : Nat → Hint
 | 0 => ⟨[1, 3, 4], [1, 3], []⟩
 | 1 => ⟨[], [1, 3, 4], []⟩
 | 2 => ⟨[1, 27, 28, 29], [], []⟩
 | 3 => ⟨[], [1, 27, 28, 29], []⟩
 | _ => ⟨[], [], []⟩
def F41_s2 (N : Nat) (n : Node) (s7 : Unit) (i5 : Nat) (x6 : Decl) : Option (Sum (Unit) (Bool)) := bindO (F92 N n x6.declName) fun r8 => iteO r8 (some (.inr false)) (some (.inl ()))
def F41_f2  (s7 : Unit) : Option (Bool) := some true
def F41_s1 (N : Nat) (n : Node) (r1 : List Decl) (s2 : Int) : Option (Sum (Int) (Bool)) := iteO (decide (s2 < (r1.length : Int))) (bindO (atO r1 (IntKind.i64.wrap (s2 - 1))) fun x3 => bindO (atO r1 s2) fun x4 => iteO (x3.declName.toList == x4.declName.toList) (some (.inr false)) (some (.inl (IntKind.i64.wrap (s2 + 1))))) (bindO (foldN (S := Unit) (F41_s2 N n) (F41_f2) N r1 0 ()) fun yy => some (.inr yy))
def F41 (N : Nat) (n : Node) : Option (Bool) := bindO (F47 N n) fun r1 => whileN (S := Int) (F41_s1 N n r1) N 1
@[push_cast] def ar83 : Rs Node := rsO rNode
@[push_cast] def v83 (r : Bool) : AV := .bool r
@[push_cast] def sh83 : Shp := .one (.leaf none)
noncomputable def t83 (N : Nat) : List AV → Option AV := TL ar83.e fun x => bindO (F41 N x) fun r => some (v83 r)
@[push_cast] theorem t112_1 {N : Nat} (z1 : Int) (z2 : Int) (z3 : ByteArray) (z4 : Int) (z5 : List Node) : t112 N [.agg [.int .i64 z1, .int .i64 z2, .str z3, .int .i64 z4, .sl false 5 (List.map Node.cells z5)]] = bindO (F47 N (⟨z1, z2, z3, z4, z5⟩ : Node)) fun r => some (v112 r) :=
 TL_hit ar112.inj (⟨z1, z2, z3, z4, z5⟩ : Node) (by simp only [push_cast] <;> rfl)
@[push_cast] theorem t113_2 {N : Nat} (z1 : Int) (z2 : Int) (z3 : ByteArray) (z4 : Int) (z5 : List Node) (z6 : ByteArray) : t113 N [.agg [.int .i64 z1, .int .i64 z2, .str z3, .int .i64 z4, .sl false 5 (List.map Node.cells z5)], .str z6] = bindO (F92 N (⟨z1, z2, z3, z4, z5⟩ : Node) z6) fun r => some (v113 r) :=
 TL_hit ar113.inj ((⟨z1, z2, z3, z4, z5⟩ : Node), z6) (by simp only [push_cast] <;> rfl)
@[push_cast] def H52 : Nat → Hint
 | _ => ⟨[], [], []⟩
def F15 (N : Nat) (n : Node) (sortq : Int) : Option (Int) := iteO (decide (sortq < 0)) (some 1) (iteO (decide (sortq > 5)) (some 1) (bindO (F27 N n) fun r1 => iteO (decide (r1 > 4000)) (some 2) (bindO (F39 N n) fun r2 => iteO (decide (r2 > 100)) (some 2) (bindO (F72 N n) fun r3 => iteO r3 (bindO (F41 N n) fun r4 => iteO r4 (iteO (sortq == 0) (some 0) (bindO (F28 N n) fun r5 => iteO (r5 == sortq) (some 0) (some 10))) (some 3)) (some 3)))))
@[push_cast] def ar52 : Rs (Node × Int) := rsC rNode (rsO (rI .i64))
@[push_cast] def v52 (r : Int) : AV := .int .i64 r
@[push_cast] def sh52 : Shp := .one (.leaf none)
noncomputable def t52 (N : Nat) : List AV → Option AV := TL ar52.e fun x => bindO (F15 N x.1 x.2) fun r => some (v52 r)
@[push_cast] theorem t81_2 {N : Nat} (z1 : Int) (z2 : Int) (z3 : ByteArray) (z4 : Int) (z5 : List Node) : t81 N [.agg [.int .i64 z1, .int .i64 z2, .str z3, .int .i64 z4, .sl false 5 (List.map Node.cells z5)]] = bindO (F39 N (⟨z1, z2, z3, z4, z5⟩ : Node)) fun r => some (v81 r) :=
 TL_hit ar81.inj (⟨z1, z2, z3, z4, z5⟩ : Node) (by simp only [push_cast] <;> rfl)
@[push_cast] theorem t82_2 {N : Nat} (z1 : Int) (z2 : Int) (z3 : ByteArray) (z4 : Int) (z5 : List Node) : t82 N [.agg [.int .i64 z1, .int .i64 z2, .str z3, .int .i64 z4, .sl false 5 (List.map Node.cells z5)]] = bindO (F72 N (⟨z1, z2, z3, z4, z5⟩ : Node)) fun r => some (v82 r) :=
 TL_hit ar82.inj (⟨z1, z2, z3, z4, z5⟩ : Node) (by simp only [push_cast] <;> rfl)
@[push_cast] theorem t83_1 {N : Nat} (z1 : Int) (z2 : Int) (z3 : ByteArray) (z4 : Int) (z5 : List Node) : t83 N [.agg [.int .i64 z1, .int .i64 z2, .str z3, .int .i64 z4, .sl false 5 (List.map Node.cells z5)]] = bindO (F41 N (⟨z1, z2, z3, z4, z5⟩ : Node)) fun r => some (v83 r) :=
 TL_hit ar83.inj (⟨z1, z2, z3, z4, z5⟩ : Node) (by simp only [push_cast] <;> rfl)
@[push_cast] def H53 : Nat → Hint
 | 0 => ⟨[9, 10, 11], [], []⟩
 | 1 => ⟨[], [9, 10, 11], []⟩
 | _ => ⟨[], [], []⟩
def F43_s1 (self53 : Node → Option (Bool)) (s3 : Unit) (i1 : Nat) (x2 : Node) : Option (Sum (Unit) (Bool)) := bindO (self53 x2) fun r4 => iteO r4 (some (.inr true)) (some (.inl ()))
def F43_f1  (s3 : Unit) : Option (Bool) := some false
def F43b (self53 : Node → Option (Bool)) (N : Nat) (n : Node) : Option (Bool) := iteO (n.op == 42) (some true) (foldN (S := Unit) (F43_s1 self53) (F43_f1) N n.kids 0 ())
def F43 : Nat → Node → Option (Bool)
 | 0 => fun _ => none
 | N + 1 => fun n => F43b (F43 N) N n
@[push_cast] def ar53 : Rs Node := rsO rNode
@[push_cast] def v53 (r : Bool) : AV := .bool r
@[push_cast] def sh53 : Shp := .one (.leaf none)
noncomputable def t53 (N : Nat) : List AV → Option AV := TL ar53.e fun x => bindO (F43 N x) fun r => some (v53 r)
noncomputable def ts53 (self53 : Node → Option (Bool)) : List AV → Option AV := TL ar53.e fun x => bindO (self53 x) fun r => some (v53 r)
@[push_cast] theorem t53_1 (self53 : Node → Option (Bool)) (z1 : Int) (z2 : Int) (z3 : ByteArray) (z4 : Int) (z5 : List Node) : ts53 self53 [.agg [.int .i64 z1, .int .i64 z2, .str z3, .int .i64 z4, .sl false 5 (List.map Node.cells z5)]] = bindO (self53 (⟨z1, z2, z3, z4, z5⟩ : Node)) fun r => some (v53 r) :=
 TL_hit ar53.inj (⟨z1, z2, z3, z4, z5⟩ : Node) (by simp only [push_cast] <;> rfl)
@[push_cast] def H137 : Nat → Hint
 | _ => ⟨[], [], []⟩
def F181 (n : Int) : Option (Bool) := iteO (decide (n ≥ (-1152921504606846976))) (some (decide (n ≤ 1152921504606846976))) (some false)
@[push_cast] def ar137 : Rs Int := rsO (rI .i64)
@[push_cast] def v137 (r : Bool) : AV := .bool r
@[push_cast] def sh137 : Shp := .one (.leaf none)
noncomputable def t137 : List AV → Option AV := TL ar137.e fun x => bindO (F181 x) fun r => some (v137 r)
@[push_cast] def H138 : Nat → Hint
 | 0 => ⟨[0, 5, 6, 7], [0], []⟩
 | 1 => ⟨[], [0, 5, 6, 7], []⟩
 | _ => ⟨[], [], []⟩
def F182_s1 (l : List Int) (s3 : Unit) (i1 : Nat) (x2 : Int) : Option (Sum (Unit) (Bool)) := bindO (F181 x2) fun r4 => iteO r4 (iteO (decide ((i1 : Int) > 0)) (bindO (atO l (IntKind.i64.wrap ((i1 : Int) - 1))) fun x5 => iteO (decide (x5 ≥ x2)) (some (.inr false)) (some (.inl ()))) (some (.inl ()))) (some (.inr false))
def F182_f1 (l : List Int) (s3 : Unit) : Option (Bool) := some (decide ((l.length : Int) ≤ 200))
def F182 (N : Nat) (l : List Int) : Option (Bool) := foldN (S := Unit) (F182_s1 l) (F182_f1 l) N l 0 ()
@[push_cast] def ar138 : Rs (List Int) := rsO (rL 1 (cI .i64) (cI_inj .i64))
@[push_cast] def v138 (r : Bool) : AV := .bool r
@[push_cast] def sh138 : Shp := .one (.leaf none)
noncomputable def t138 (N : Nat) : List AV → Option AV := TL ar138.e fun x => bindO (F182 N x) fun r => some (v138 r)
@[push_cast] theorem t137_1 (z1 : Int) : t137 [.int .i64 z1] = bindO (F181 z1) fun r => some (v137 r) :=
 TL_hit ar137.inj z1 (by simp only [push_cast] <;> rfl)
@[push_cast] def H115 : Nat → Hint
 | 0 => ⟨[1, 41, 42, 43], [1], []⟩
 | 1 => ⟨[], [1, 41, 42, 43], []⟩
 | 2 => ⟨[], [1], []⟩
 | _ => ⟨[], [], []⟩
def F171_s1  (s6 : Unit) (i4 : Nat) (x5 : Int) : Option (Sum (Unit) (Bool)) := iteO (x5 == 0) (some (.inr false)) (bindO (F181 x5) fun r7 => iteO r7 (some (.inl ())) (some (.inr false)))
def F171_f1 (v : Val) (s6 : Unit) : Option (Bool) := iteO (v.valSort == 2) (iteO (v.valNum == 0) (iteO ((v.valSet.length : Int) == 0) (some ((v.valAt.length : Int) == 0)) (some false)) (iteO (v.valNum == 1) (iteO ((v.valSet.length : Int) == 0) (some ((v.valAt.length : Int) == 0)) (some false)) (some false))) (iteO (v.valSort == 5) (iteO (decide (v.valNum ≥ 0)) (some ((v.valSet.length : Int) == 0)) (some false)) (iteO (v.valSort == 4) (iteO (v.valNum == 0) (some ((v.valAt.length : Int) == 0)) (some false)) (iteO ((v.valSet.length : Int) == 0) (some ((v.valAt.length : Int) == 0)) (some false))))
def F171 (N : Nat) (v : Val) : Option (Bool) := iteO (decide (v.valSort < 1)) (some false) (iteO (decide (v.valSort > 5)) (some false) (bindO (F181 v.valNum) fun r1 => iteO r1 (bindO (F182 N v.valSet) fun r2 => iteO r2 (bindO (F182 N v.valAt) fun r3 => iteO r3 (iteO ((v.valTo.length : Int) == (v.valAt.length : Int)) (foldN (S := Unit) (F171_s1) (F171_f1 v) N v.valTo 0 ()) (some false)) (some false)) (some false)) (some false)))
@[push_cast] def ar115 : Rs Val := rsO rVal
@[push_cast] def v115 (r : Bool) : AV := .bool r
@[push_cast] def sh115 : Shp := .one (.leaf none)
noncomputable def t115 (N : Nat) : List AV → Option AV := TL ar115.e fun x => bindO (F171 N x) fun r => some (v115 r)
@[push_cast] theorem t138_1 {N : Nat} (z1 : List Int) : t138 N [.sl false 1 (List.map (cI .i64) z1)] = bindO (F182 N z1) fun r => some (v138 r) :=
 TL_hit ar138.inj z1 (by simp only [push_cast] <;> rfl)
@[push_cast] def H85 : Nat → Hint
 | 0 => ⟨[22, 23, 24], [], []⟩
 | 1 => ⟨[], [22, 23, 24], []⟩
 | _ => ⟨[], [], []⟩
def F157_s1 (N : Nat) (s5 : Unit) (i3 : Nat) (x4 : Val) : Option (Sum (Unit) (Bool)) := bindO (F171 N x4) fun r6 => iteO r6 (some (.inl ())) (some (.inr false))
def F157_f1  (s5 : Unit) : Option (Bool) := some true
def F157 (N : Nat) (e : Entry) : Option (Bool) := bindO (F17 N e.entryName) fun r1 => iteO r1 (iteO (decide ((e.entryArgs.length : Int) > 8)) (some false) (bindO (F171 N e.entryVal) fun r2 => iteO r2 (foldN (S := Unit) (F157_s1 N) (F157_f1) N e.entryArgs 0 ()) (some false))) (some false)
@[push_cast] def ar85 : Rs Entry := rsO rEntry
@[push_cast] def v85 (r : Bool) : AV := .bool r
@[push_cast] def sh85 : Shp := .one (.leaf none)
noncomputable def t85 (N : Nat) : List AV → Option AV := TL ar85.e fun x => bindO (F157 N x) fun r => some (v85 r)
@[push_cast] theorem t115_1 {N : Nat} (z1 : Int) (z2 : Int) (z3 : List Int) (z4 : List Int) (z5 : List Int) : t115 N [.agg [.int .i64 z1, .int .i64 z2, .sl false 1 (List.map (cI .i64) z3), .sl false 1 (List.map (cI .i64) z4), .sl false 1 (List.map (cI .i64) z5)]] = bindO (F171 N (⟨z1, z2, z3, z4, z5⟩ : Val)) fun r => some (v115 r) :=
 TL_hit ar115.inj (⟨z1, z2, z3, z4, z5⟩ : Val) (by simp only [push_cast] <;> rfl)
@[push_cast] def H150 : Nat → Hint
 | 0 => ⟨[0, 1, 12, 13], [], []⟩
 | 1 => ⟨[], [0, 1, 12, 13], []⟩
 | _ => ⟨[], [], []⟩
def F189_s1 (b : List Int) (s3 : Unit) (i1 : Nat) (x2 : Int) : Option (Sum (Unit) (Bool)) := bindO (atO b (i1 : Int)) fun x4 => iteO (x2 == x4) (some (.inl ())) (some (.inr false))
def F189_f1  (s3 : Unit) : Option (Bool) := some true
def F189 (N : Nat) (a : List Int) (b : List Int) : Option (Bool) := iteO ((a.length : Int) == (b.length : Int)) (foldN (S := Unit) (F189_s1 b) (F189_f1) N a 0 ()) (some false)
@[push_cast] def ar150 : Rs ((List Int) × (List Int)) := rsC (rL 1 (cI .i64) (cI_inj .i64)) (rsO (rL 1 (cI .i64) (cI_inj .i64)))
@[push_cast] def v150 (r : Bool) : AV := .bool r
@[push_cast] def sh150 : Shp := .one (.leaf none)
noncomputable def t150 (N : Nat) : List AV → Option AV := TL ar150.e fun x => bindO (F189 N x.1 x.2) fun r => some (v150 r)
@[push_cast] def H139 : Nat → Hint
 | _ => ⟨[], [], []⟩
def F183 (N : Nat) (a : Val) (b : Val) : Option (Bool) := iteO (a.valSort == b.valSort) (iteO (a.valNum == b.valNum) (bindO (F189 N a.valSet b.valSet) fun r1 => iteO r1 (bindO (F189 N a.valAt b.valAt) fun r2 => iteO r2 (bindO (F189 N a.valTo b.valTo) fun r3 => some r3) (some false)) (some false)) (some false)) (some false)
@[push_cast] def ar139 : Rs (Val × Val) := rsC rVal (rsO rVal)
@[push_cast] def v139 (r : Bool) : AV := .bool r
@[push_cast] def sh139 : Shp := .one (.leaf none)
noncomputable def t139 (N : Nat) : List AV → Option AV := TL ar139.e fun x => bindO (F183 N x.1 x.2) fun r => some (v139 r)
@[push_cast] theorem t150_1 {N : Nat} (z1 : List Int) (z2 : List Int) : t150 N [.sl false 1 (List.map (cI .i64) z1), .sl false 1 (List.map (cI .i64) z2)] = bindO (F189 N z1 z2) fun r => some (v150 r) :=
 TL_hit ar150.inj (z1, z2) (by simp only [push_cast] <;> rfl)
@[push_cast] def H116 : Nat → Hint
 | 0 => ⟨[0, 1, 12, 13], [], []⟩
 | 1 => ⟨[], [0, 1, 12, 13], []⟩
 | _ => ⟨[], [], []⟩
def F172_s1 (N : Nat) (b : List Val) (s3 : Unit) (i1 : Nat) (x2 : Val) : Option (Sum (Unit) (Bool)) := bindO (atO b (i1 : Int)) fun x4 => bindO (F183 N x2 x4) fun r5 => iteO r5 (some (.inl ())) (some (.inr false))
def F172_f1  (s3 : Unit) : Option (Bool) := some true
def F172 (N : Nat) (a : List Val) (b : List Val) : Option (Bool) := iteO ((a.length : Int) == (b.length : Int)) (foldN (S := Unit) (F172_s1 N b) (F172_f1) N a 0 ()) (some false)
@[push_cast] def ar116 : Rs ((List Val) × (List Val)) := rsC (rL 5 Val.cells Val.cells_inj) (rsO (rL 5 Val.cells Val.cells_inj))
@[push_cast] def v116 (r : Bool) : AV := .bool r
@[push_cast] def sh116 : Shp := .one (.leaf none)
noncomputable def t116 (N : Nat) : List AV → Option AV := TL ar116.e fun x => bindO (F172 N x.1 x.2) fun r => some (v116 r)
@[push_cast] theorem t139_1 {N : Nat} (z1 : Int) (z2 : Int) (z3 : List Int) (z4 : List Int) (z5 : List Int) (z6 : Int) (z7 : Int) (z8 : List Int) (z9 : List Int) (z10 : List Int) : t139 N [.agg [.int .i64 z1, .int .i64 z2, .sl false 1 (List.map (cI .i64) z3), .sl false 1 (List.map (cI .i64) z4), .sl false 1 (List.map (cI .i64) z5)], .agg [.int .i64 z6, .int .i64 z7, .sl false 1 (List.map (cI .i64) z8), .sl false 1 (List.map (cI .i64) z9), .sl false 1 (List.map (cI .i64) z10)]] = bindO (F183 N (⟨z1, z2, z3, z4, z5⟩ : Val) (⟨z6, z7, z8, z9, z10⟩ : Val)) fun r => some (v139 r) :=
 TL_hit ar139.inj ((⟨z1, z2, z3, z4, z5⟩ : Val), (⟨z6, z7, z8, z9, z10⟩ : Val)) (by simp only [push_cast] <;> rfl)
@[push_cast] def H86 : Nat → Hint
 | _ => ⟨[], [], []⟩
def F158 (N : Nat) (a : Entry) (b : Entry) : Option (Bool) := iteO (a.entryName.toList == b.entryName.toList) (iteO (a.entryVal.valSort == b.entryVal.valSort) (bindO (F172 N a.entryArgs b.entryArgs) fun r1 => some r1) (some false)) (some false)
@[push_cast] def ar86 : Rs (Entry × Entry) := rsC rEntry (rsO rEntry)
@[push_cast] def v86 (r : Bool) : AV := .bool r
@[push_cast] def sh86 : Shp := .one (.leaf none)
noncomputable def t86 (N : Nat) : List AV → Option AV := TL ar86.e fun x => bindO (F158 N x.1 x.2) fun r => some (v86 r)
@[push_cast] theorem t116_1 {N : Nat} (z1 : List Val) (z2 : List Val) : t116 N [.sl false 5 (List.map Val.cells z1), .sl false 5 (List.map Val.cells z2)] = bindO (F172 N z1 z2) fun r => some (v116 r) :=
 TL_hit ar116.inj (z1, z2) (by simp only [push_cast] <;> rfl)
@[push_cast] def H54 : Nat → Hint
 | 0 => ⟨[0, 9, 10, 11], [], []⟩
 | 1 => ⟨[], [0, 9, 10, 11], []⟩
 | 2 => ⟨[0, 3, 4, 5, 9, 10, 11], [0, 9, 10, 11], []⟩
 | 3 => ⟨[], [0, 3, 4, 5, 9, 10, 11], []⟩
 | _ => ⟨[], [], []⟩
def F126_s2 (N : Nat) (i1 : Nat) (m : List Entry) (x2 : Entry) (s5 : Int) : Option (Sum (Int) (Sum Unit Bool)) := iteO (decide (s5 < (i1 : Int))) (bindO (atO m s5) fun x6 => bindO (F158 N x6 x2) fun r7 => iteO r7 (some (.inr (.inr false))) (some (.inl (IntKind.i64.wrap (s5 + 1))))) (some (.inr (.inl ())))
def F126_s1 (N : Nat) (m : List Entry) (s3 : Unit) (i1 : Nat) (x2 : Entry) : Option (Sum (Unit) (Bool)) := bindO (F157 N x2) fun r4 => iteO r4 (whileN (S := Int) (F126_s2 N i1 m x2) N 0) (some (.inr false))
def F126_f1  (s3 : Unit) : Option (Bool) := some true
def F126 (N : Nat) (m : List Entry) : Option (Bool) := iteO (decide ((m.length : Int) > 2000)) (some false) (foldN (S := Unit) (F126_s1 N m) (F126_f1) N m 0 ())
@[push_cast] def ar54 : Rs (List Entry) := rsO (rL 7 Entry.cells Entry.cells_inj)
@[push_cast] def v54 (r : Bool) : AV := .bool r
@[push_cast] def sh54 : Shp := .one (.leaf none)
noncomputable def t54 (N : Nat) : List AV → Option AV := TL ar54.e fun x => bindO (F126 N x) fun r => some (v54 r)
@[push_cast] theorem t85_1 {N : Nat} (z1 : ByteArray) (z2 : List Val) (z3 : Int) (z4 : Int) (z5 : List Int) (z6 : List Int) (z7 : List Int) : t85 N [.agg [.str z1, .sl false 5 (List.map Val.cells z2), .int .i64 z3, .int .i64 z4, .sl false 1 (List.map (cI .i64) z5), .sl false 1 (List.map (cI .i64) z6), .sl false 1 (List.map (cI .i64) z7)]] = bindO (F157 N (⟨z1, z2, (⟨z3, z4, z5, z6, z7⟩ : Val)⟩ : Entry)) fun r => some (v85 r) :=
 TL_hit ar85.inj (⟨z1, z2, (⟨z3, z4, z5, z6, z7⟩ : Val)⟩ : Entry) (by simp only [push_cast] <;> rfl)
@[push_cast] theorem t86_1 {N : Nat} (z1 : ByteArray) (z2 : List Val) (z3 : Int) (z4 : Int) (z5 : List Int) (z6 : List Int) (z7 : List Int) (z8 : ByteArray) (z9 : List Val) (z10 : Int) (z11 : Int) (z12 : List Int) (z13 : List Int) (z14 : List Int) : t86 N [.agg [.str z1, .sl false 5 (List.map Val.cells z2), .int .i64 z3, .int .i64 z4, .sl false 1 (List.map (cI .i64) z5), .sl false 1 (List.map (cI .i64) z6), .sl false 1 (List.map (cI .i64) z7)], .agg [.str z8, .sl false 5 (List.map Val.cells z9), .int .i64 z10, .int .i64 z11, .sl false 1 (List.map (cI .i64) z12), .sl false 1 (List.map (cI .i64) z13), .sl false 1 (List.map (cI .i64) z14)]] = bindO (F158 N (⟨z1, z2, (⟨z3, z4, z5, z6, z7⟩ : Val)⟩ : Entry) (⟨z8, z9, (⟨z10, z11, z12, z13, z14⟩ : Val)⟩ : Entry)) fun r => some (v86 r) :=
 TL_hit ar86.inj ((⟨z1, z2, (⟨z3, z4, z5, z6, z7⟩ : Val)⟩ : Entry), (⟨z8, z9, (⟨z10, z11, z12, z13, z14⟩ : Val)⟩ : Entry)) (by simp only [push_cast] <;> rfl)
@[push_cast] def H87 : Nat → Hint
 | 0 => ⟨[1, 2, 3, 8, 11, 12, 13], [3, 8], []⟩
 | 1 => ⟨[], [1, 2, 3, 8, 11, 12, 13], []⟩
 | _ => ⟨[], [], []⟩
def F159_s1 (N : Nat) (args : List Val) (name : ByteArray) (sortq : Int) (s3 : Unit) (i1 : Nat) (x2 : Entry) : Option (Sum (Unit) (Val)) := iteO (x2.entryName.toList == name.toList) (iteO (x2.entryVal.valSort == sortq) (bindO (F172 N x2.entryArgs args) fun r4 => iteO r4 (some (.inr x2.entryVal)) (some (.inl ()))) (some (.inl ()))) (some (.inl ()))
def F159_f1 (sortq : Int) (s3 : Unit) : Option (Val) := some (⟨sortq, 0, [], [], []⟩ : Val)
def F159 (N : Nat) (m : List Entry) (name : ByteArray) (args : List Val) (sortq : Int) : Option (Val) := foldN (S := Unit) (F159_s1 N args name sortq) (F159_f1 sortq) N m 0 ()
@[push_cast] def ar87 : Rs ((List Entry) × ByteArray × (List Val) × Int) := rsC (rL 7 Entry.cells Entry.cells_inj) (rsC rS (rsC (rL 5 Val.cells Val.cells_inj) (rsO (rI .i64))))
@[push_cast] def v87 (r : Val) : AV := .agg (Val.cells r)
@[push_cast] def sh87 : Shp := .one (.agg [none, none, some 1, some 1, some 1])
noncomputable def t87 (N : Nat) : List AV → Option AV := TL ar87.e fun x => bindO (F159 N x.1 x.2.1 x.2.2.1 x.2.2.2) fun r => some (v87 r)
@[push_cast] def H117 : Nat → Hint
 | _ => ⟨[], [], []⟩
def F173 (n : Int) : Option (Val × Bool) := bindO (F181 n) fun r1 => some ((⟨1, n, [], [], []⟩ : Val), r1)
@[push_cast] def ar117 : Rs Int := rsO (rI .i64)
@[push_cast] def v117 (r : Val × Bool) : AV := .tuple [.agg (Val.cells r.1), .bool r.2]
@[push_cast] def sh117 : Shp := .tup [.agg [none, none, some 1, some 1, some 1], .leaf none]
noncomputable def t117 : List AV → Option AV := TL ar117.e fun x => bindO (F173 x) fun r => some (v117 r)
@[push_cast] def H118 : Nat → Hint
 | _ => ⟨[], [], []⟩
def F174 (c : Int) (n : Int) : Option (Val × Bool) := iteO (n == 0) (bindO (F173 (IntKind.i64.wrap (c * n))) fun r4 => some (r4.1, r4.2)) (iteO (c == 0) (bindO (F173 (IntKind.i64.wrap (c * n))) fun r3 => some (r3.1, r3.2)) (iteO (decide (c < 0)) (iteO (decide ((IntKind.i64.wrap (0 - c)) = 0)) (none) (iteO (decide ((IntKind.i64.wrap (0 - n)) > (IntKind.i64.wrap ((1152921504606846976 : Int).tdiv (IntKind.i64.wrap (0 - c)))))) (some ((⟨1, 0, [], [], []⟩ : Val), false)) (iteO (decide ((IntKind.i64.wrap (0 - n)) < (IntKind.i64.wrap (0 - (IntKind.i64.wrap ((1152921504606846976 : Int).tdiv (IntKind.i64.wrap (0 - c)))))))) (some ((⟨1, 0, [], [], []⟩ : Val), false)) (bindO (F173 (IntKind.i64.wrap ((IntKind.i64.wrap (0 - c)) * (IntKind.i64.wrap (0 - n))))) fun r1 => some (r1.1, r1.2))))) (iteO (decide (c = 0)) (none) (iteO (decide (n > (IntKind.i64.wrap ((1152921504606846976 : Int).tdiv c)))) (some ((⟨1, 0, [], [], []⟩ : Val), false)) (iteO (decide (n < (IntKind.i64.wrap (0 - (IntKind.i64.wrap ((1152921504606846976 : Int).tdiv c)))))) (some ((⟨1, 0, [], [], []⟩ : Val), false)) (bindO (F173 (IntKind.i64.wrap (c * n))) fun r2 => some (r2.1, r2.2)))))))
@[push_cast] def ar118 : Rs (Int × Int) := rsC (rI .i64) (rsO (rI .i64))
@[push_cast] def v118 (r : Val × Bool) : AV := .tuple [.agg (Val.cells r.1), .bool r.2]
@[push_cast] def sh118 : Shp := .tup [.agg [none, none, some 1, some 1, some 1], .leaf none]
noncomputable def t118 : List AV → Option AV := TL ar118.e fun x => bindO (F174 x.1 x.2) fun r => some (v118 r)
@[push_cast] theorem t117_1 (z1 : Int) : t117 [.int .i64 z1] = bindO (F173 z1) fun r => some (v117 r) :=
 TL_hit ar117.inj z1 (by simp only [push_cast] <;> rfl)
@[push_cast] def H140 : Nat → Hint
 | 0 => ⟨[1, 7, 8, 9], [], []⟩
 | 1 => ⟨[], [1, 7, 8, 9], []⟩
 | _ => ⟨[], [], []⟩
def F184_s1 (n : Int) (s3 : Unit) (i1 : Nat) (x2 : Int) : Option (Sum (Unit) (Bool)) := iteO (x2 == n) (some (.inr true)) (some (.inl ()))
def F184_f1  (s3 : Unit) : Option (Bool) := some false
def F184 (N : Nat) (l : List Int) (n : Int) : Option (Bool) := foldN (S := Unit) (F184_s1 n) (F184_f1) N l 0 ()
@[push_cast] def ar140 : Rs ((List Int) × Int) := rsC (rL 1 (cI .i64) (cI_inj .i64)) (rsO (rI .i64))
@[push_cast] def v140 (r : Bool) : AV := .bool r
@[push_cast] def sh140 : Shp := .one (.leaf none)
noncomputable def t140 (N : Nat) : List AV → Option AV := TL ar140.e fun x => bindO (F184 N x.1 x.2) fun r => some (v140 r)
@[push_cast] def H141 : Nat → Hint
 | 0 => ⟨[1, 5, 6, 12, 13, 14], [1, 5, 6], []⟩
 | 1 => ⟨[], [1, 5, 6, 12, 13, 14], []⟩
 | _ => ⟨[], [], []⟩
def F185_s1 (n : Int) (s4 : (List Int) × Bool) (i2 : Nat) (x3 : Int) : Option (Sum ((List Int) × Bool) (List Int)) := iteO s4.2 (iteO (fits (s4.1.length + 1) 8) (some (.inl (s4.1 ++ ([x3]), s4.2))) (none)) (iteO (decide (n < x3)) (iteO (fits (s4.1.length + 1) 8) (iteO (fits (s4.1.length + 1 + 1) 8) (some (.inl ((s4.1 ++ ([n])) ++ ([x3]), true))) (none)) (none)) (iteO (fits (s4.1.length + 1) 8) (some (.inl (s4.1 ++ ([x3]), s4.2))) (none)))
def F185_f1 (n : Int) (s4 : (List Int) × Bool) : Option (List Int) := iteO s4.2 (some s4.1) (iteO (fits (s4.1.length + 1) 8) (some (s4.1 ++ ([n]))) (none))
def F185 (N : Nat) (l : List Int) (n : Int) : Option (List Int) := bindO (F184 N l n) fun r1 => foldN (S := (List Int) × Bool) (F185_s1 n) (F185_f1 n) N l 0 ([], r1)
@[push_cast] def ar141 : Rs ((List Int) × Int) := rsC (rL 1 (cI .i64) (cI_inj .i64)) (rsO (rI .i64))
@[push_cast] def v141 (r : List Int) : AV := .sl false 1 (List.map (cI .i64) r)
@[push_cast] def sh141 : Shp := .one (.leaf (some 1))
noncomputable def t141 (N : Nat) : List AV → Option AV := TL ar141.e fun x => bindO (F185 N x.1 x.2) fun r => some (v141 r)
@[push_cast] theorem t140_1 {N : Nat} (z1 : List Int) (z2 : Int) : t140 N [.sl false 1 (List.map (cI .i64) z1), .int .i64 z2] = bindO (F184 N z1 z2) fun r => some (v140 r) :=
 TL_hit ar140.inj (z1, z2) (by simp only [push_cast] <;> rfl)
@[push_cast] def H119 : Nat → Hint
 | 0 => ⟨[0, 2, 7, 13, 14, 15], [0, 2, 7], []⟩
 | 1 => ⟨[], [0, 2, 7, 13, 14, 15], []⟩
 | 2 => ⟨[7, 46, 47, 48], [7], [.frz 7]⟩
 | 3 => ⟨[], [7, 46, 47, 48], []⟩
 | _ => ⟨[], [], []⟩
def F175_s1 (N : Nat) (b : List Int) (op : Int) (s3 : List Int) (i1 : Nat) (x2 : Int) : Option (Sum (List Int) (List Int)) := bindO (F184 N b x2) fun r4 => iteO (op == 11) (iteO (fits (s3.length + 1) 8) (some (.inl (s3 ++ ([x2])))) (none)) (iteO (op == 12) (iteO r4 (iteO (fits (s3.length + 1) 8) (some (.inl (s3 ++ ([x2])))) (none)) (iteO (op == 13) (iteO (fits (s3.length + 1) 8) (some (.inl (s3 ++ ([x2])))) (none)) (some (.inl s3)))) (iteO (op == 13) (iteO r4 (some (.inl s3)) (iteO (fits (s3.length + 1) 8) (some (.inl (s3 ++ ([x2])))) (none))) (some (.inl s3))))
def F175_s3 (N : Nat) (s10 : List Int) (i8 : Nat) (x9 : Int) : Option (Sum (List Int) (List Int)) := bindO (F185 N s10 x9) fun r11 => some (.inl r11)
def F175_f3  (s10 : List Int) : Option (List Int) := some s10
def F175_f1 (N : Nat) (b : List Int) (op : Int) (s3 : List Int) : Option (List Int) := iteO (op == 11) (foldN (S := List Int) (F175_s3 N) (F175_f3) N b 0 s3) (some s3)
def F175 (N : Nat) (op : Int) (a : List Int) (b : List Int) : Option (List Int) := foldN (S := List Int) (F175_s1 N b op) (F175_f1 N b op) N a 0 ([])
@[push_cast] def ar119 : Rs (Int × (List Int) × (List Int)) := rsC (rI .i64) (rsC (rL 1 (cI .i64) (cI_inj .i64)) (rsO (rL 1 (cI .i64) (cI_inj .i64))))
@[push_cast] def v119 (r : List Int) : AV := .sl false 1 (List.map (cI .i64) r)
@[push_cast] def sh119 : Shp := .one (.leaf (some 1))
noncomputable def t119 (N : Nat) : List AV → Option AV := TL ar119.e fun x => bindO (F175 N x.1 x.2.1 x.2.2) fun r => some (v119 r)
@[push_cast] theorem t141_1 {N : Nat} (z1 : List Int) (z2 : Int) : t141 N [.sl false 1 (List.map (cI .i64) z1), .int .i64 z2] = bindO (F185 N z1 z2) fun r => some (v141 r) :=
 TL_hit ar141.inj (z1, z2) (by simp only [push_cast] <;> rfl)
@[push_cast] def H120 : Nat → Hint
 | 0 => ⟨[1, 2, 8, 9, 10], [], []⟩
 | 1 => ⟨[], [1, 2, 8, 9, 10], []⟩
 | _ => ⟨[], [], []⟩
def F176_s1 (i : Int) (v : Val) (s3 : Unit) (i1 : Nat) (x2 : Int) : Option (Sum (Unit) (Int)) := iteO (x2 == i) (bindO (atO v.valTo (i1 : Int)) fun x4 => some (.inr x4)) (some (.inl ()))
def F176_f1  (s3 : Unit) : Option (Int) := some 0
def F176 (N : Nat) (v : Val) (i : Int) : Option (Int) := foldN (S := Unit) (F176_s1 i v) (F176_f1) N v.valAt 0 ()
@[push_cast] def ar120 : Rs (Val × Int) := rsC rVal (rsO (rI .i64))
@[push_cast] def v120 (r : Int) : AV := .int .i64 r
@[push_cast] def sh120 : Shp := .one (.leaf none)
noncomputable def t120 (N : Nat) : List AV → Option AV := TL ar120.e fun x => bindO (F176 N x.1 x.2) fun r => some (v120 r)
@[push_cast] def H121 : Nat → Hint
 | 0 => ⟨[1, 2, 3, 6, 7, 19, 20, 21], [6, 7], [.ownS 2 3 1, .ownS 2 4 1]⟩
 | 1 => ⟨[], [1, 2, 3, 6, 7, 19, 20, 21], []⟩
 | _ => ⟨[], [], []⟩
def F177_s3 (N : Nat) (i : Int) (v : Val) (x : Int) (s10 : (List Int) × (List Int)) (i8 : Nat) (x9 : Int) : Option (Sum ((List Int) × (List Int)) (Val)) := bindO (F176 N v x9) fun r11 => iteO (x9 == i) (iteO (x == 0) (some (.inl (s10.1, s10.2))) (iteO (fits (s10.1.length + 1) 8) (iteO (fits (s10.2.length + 1) 8) (some (.inl (s10.1 ++ ([x9]), s10.2 ++ ([x])))) (none)) (none))) (iteO (r11 == 0) (some (.inl (s10.1, s10.2))) (iteO (fits (s10.1.length + 1) 8) (iteO (fits (s10.2.length + 1) 8) (some (.inl (s10.1 ++ ([x9]), s10.2 ++ ([r11])))) (none)) (none)))
def F177_f3 (v : Val) (s10 : (List Int) × (List Int)) : Option (Val) := some (⟨5, v.valNum, [], s10.1, s10.2⟩ : Val)
def F177 (N : Nat) (v : Val) (i : Int) (x : Int) : Option (Val) := bindO (F185 N v.valAt i) fun r1 => foldN (S := (List Int) × (List Int)) (F177_s3 N i v x) (F177_f3 v) N r1 0 ([], [])
@[push_cast] def ar121 : Rs (Val × Int × Int) := rsC rVal (rsC (rI .i64) (rsO (rI .i64)))
@[push_cast] def v121 (r : Val) : AV := .agg (Val.cells r)
@[push_cast] def sh121 : Shp := .one (.agg [none, none, some 1, some 1, some 1])
noncomputable def t121 (N : Nat) : List AV → Option AV := TL ar121.e fun x => bindO (F177 N x.1 x.2.1 x.2.2) fun r => some (v121 r)
@[push_cast] theorem t120_1 {N : Nat} (z1 : Int) (z2 : Int) (z3 : List Int) (z4 : List Int) (z5 : List Int) (z6 : Int) : t120 N [.agg [.int .i64 z1, .int .i64 z2, .sl false 1 (List.map (cI .i64) z3), .sl false 1 (List.map (cI .i64) z4), .sl false 1 (List.map (cI .i64) z5)], .int .i64 z6] = bindO (F176 N (⟨z1, z2, z3, z4, z5⟩ : Val) z6) fun r => some (v120 r) :=
 TL_hit ar120.inj ((⟨z1, z2, z3, z4, z5⟩ : Val), z6) (by simp only [push_cast] <;> rfl)
@[push_cast] def H142 : Nat → Hint
 | _ => ⟨[], [], []⟩
def F186 (b : Bool) : Option (Val) := iteO b (some (⟨2, 1, [], [], []⟩ : Val)) (some (⟨2, 0, [], [], []⟩ : Val))
@[push_cast] def ar142 : Rs Bool := rsO rB
@[push_cast] def v142 (r : Val) : AV := .agg (Val.cells r)
@[push_cast] def sh142 : Shp := .one (.agg [none, none, some 1, some 1, some 1])
noncomputable def t142 : List AV → Option AV := TL ar142.e fun x => bindO (F186 x) fun r => some (v142 r)
@[push_cast] def H122 : Nat → Hint
 | 0 => ⟨[], [4], []⟩
 | 1 => ⟨[1, 4, 127, 128, 129], [4], []⟩
 | 2 => ⟨[], [1, 4, 127, 128, 129], []⟩
 | _ => ⟨[], [], []⟩
def F178_s1 (N : Nat) (v : List Val) (s36 : Unit) (i34 : Nat) (x35 : Int) : Option (Sum (Unit) (Val)) := bindO (atO v 1) fun x37 => bindO (F184 N x37.valSet x35) fun r38 => iteO r38 (some (.inl ())) (bindO (F186 false) fun r39 => some (.inr r39))
def F178_f1  (s36 : Unit) : Option (Val) := bindO (F186 true) fun r40 => some r40
def F178 (N : Nat) (op : Int) (v : List Val) : Option (Val) := iteO (op == 30) (bindO (F186 true) fun r1 => some r1) (iteO (op == 32) (bindO (atO v 0) fun x2 => bindO (F186 (x2.valNum == 0)) fun r3 => some r3) (iteO (op == 33) (bindO (atO v 0) fun x4 => iteO (x4.valNum == 1) (bindO (atO v 1) fun x5 => bindO (F186 (x5.valNum == 1)) fun r6 => some r6) (bindO (F186 false) fun r7 => some r7)) (iteO (op == 34) (bindO (atO v 0) fun x8 => iteO (x8.valNum == 1) (bindO (F186 true) fun r11 => some r11) (bindO (atO v 1) fun x9 => bindO (F186 (x9.valNum == 1)) fun r10 => some r10)) (iteO (op == 35) (bindO (atO v 0) fun x12 => iteO (x12.valNum == 0) (bindO (F186 true) fun r15 => some r15) (bindO (atO v 1) fun x13 => bindO (F186 (x13.valNum == 1)) fun r14 => some r14)) (iteO (op == 36) (bindO (atO v 0) fun x16 => bindO (atO v 1) fun x17 => bindO (F186 (x16.valNum == x17.valNum)) fun r18 => some r18) (iteO (op == 37) (bindO (atO v 0) fun x19 => bindO (atO v 1) fun x20 => bindO (F183 N x19 x20) fun r21 => bindO (F186 r21) fun r22 => some r22) (iteO (op == 38) (bindO (atO v 0) fun x23 => bindO (atO v 1) fun x24 => bindO (F186 (decide (x23.valNum ≤ x24.valNum))) fun r25 => some r25) (iteO (op == 39) (bindO (atO v 0) fun x26 => bindO (atO v 1) fun x27 => bindO (F186 (decide (x26.valNum < x27.valNum))) fun r28 => some r28) (iteO (op == 40) (bindO (atO v 1) fun x29 => bindO (atO v 0) fun x30 => bindO (F184 N x29.valSet x30.valNum) fun r31 => bindO (F186 r31) fun r32 => some r32) (iteO (op == 41) (bindO (atO v 0) fun x33 => foldN (S := Unit) (F178_s1 N v) (F178_f1) N x33.valSet 0 ()) (bindO (F186 false) fun r41 => some r41)))))))))))
@[push_cast] def ar122 : Rs (Int × (List Val)) := rsC (rI .i64) (rsO (rL 5 Val.cells Val.cells_inj))
@[push_cast] def v122 (r : Val) : AV := .agg (Val.cells r)
@[push_cast] def sh122 : Shp := .one (.agg [none, none, some 1, some 1, some 1])
noncomputable def t122 (N : Nat) : List AV → Option AV := TL ar122.e fun x => bindO (F178 N x.1 x.2) fun r => some (v122 r)
@[push_cast] theorem t142_1 (z1 : Bool) : t142 [.bool z1] = bindO (F186 z1) fun r => some (v142 r) :=
 TL_hit ar142.inj z1 (by simp only [push_cast] <;> rfl)
@[push_cast] def H88 : Nat → Hint
 | 0 => ⟨[], [1, 2, 4], []⟩
 | _ => ⟨[], [], []⟩
@[push_cast] def ali88 : Nat → List (Nat × Nat)
 | 22 => [(104, 4)]
 | 27 => [(136, 4)]
 | _ => []
def F160 (N : Nat) (n : Node) (v : List Val) : Option (Val × Bool) := iteO (n.op == 2) (bindO (F173 n.num) fun r1 => some (r1.1, r1.2)) (iteO (n.op == 4) (bindO (atO v 0) fun x2 => bindO (atO v 1) fun x3 => bindO (F173 (IntKind.i64.wrap (x2.valNum + x3.valNum))) fun r4 => some (r4.1, r4.2)) (iteO (n.op == 5) (bindO (atO v 0) fun x5 => bindO (atO v 1) fun x6 => bindO (F173 (IntKind.i64.wrap (x5.valNum - x6.valNum))) fun r7 => some (r7.1, r7.2)) (iteO (n.op == 6) (bindO (atO v 0) fun x8 => bindO (F173 (IntKind.i64.wrap (0 - x8.valNum))) fun r9 => some (r9.1, r9.2)) (iteO (n.op == 7) (bindO (atO v 0) fun x10 => bindO (F174 n.num x10.valNum) fun r11 => some (r11.1, r11.2)) (iteO (n.op == 8) (bindO (atO v 0) fun x12 => iteO (x12.valNum == 1) (bindO (atO v 1) fun x13 => some (x13, true)) (bindO (atO v 2) fun x14 => some (x14, true))) (iteO (n.op == 10) (bindO (atO v 0) fun x15 => some ((⟨4, 0, [x15.valNum], [], []⟩ : Val), true)) (iteO (n.op == 11) (bindO (atO v 0) fun x16 => bindO (atO v 1) fun x17 => bindO (F175 N n.op x16.valSet x17.valSet) fun r18 => some ((⟨4, 0, r18, [], []⟩ : Val), decide ((r18.length : Int) ≤ 200))) (iteO (n.op == 12) (bindO (atO v 0) fun x19 => bindO (atO v 1) fun x20 => bindO (F175 N n.op x19.valSet x20.valSet) fun r21 => some ((⟨4, 0, r21, [], []⟩ : Val), decide ((r21.length : Int) ≤ 200))) (iteO (n.op == 13) (bindO (atO v 0) fun x22 => bindO (atO v 1) fun x23 => bindO (F175 N n.op x22.valSet x23.valSet) fun r24 => some ((⟨4, 0, r24, [], []⟩ : Val), decide ((r24.length : Int) ≤ 200))) (iteO (n.op == 14) (bindO (atO v 0) fun x25 => bindO (atO v 1) fun x26 => bindO (F176 N x25 x26.valNum) fun r27 => bindO (F173 r27) fun r28 => some (r28.1, r28.2)) (iteO (n.op == 15) (bindO (atO v 0) fun x29 => bindO (atO v 1) fun x30 => bindO (atO v 2) fun x31 => bindO (F177 N x29 x30.valNum x31.valNum) fun r32 => some (r32, decide ((r32.valAt.length : Int) ≤ 200))) (iteO (n.op == 16) (bindO (atO v 0) fun x33 => bindO (F173 x33.valNum) fun r34 => some (r34.1, r34.2)) (iteO (n.op == 9) (some ((⟨4, 0, [], [], []⟩ : Val), true)) (bindO (F178 N n.op v) fun r35 => some (r35, true)))))))))))))))
@[push_cast] def ar88 : Rs (Node × (List Val)) := rsC rNode (rsO (rL 5 Val.cells Val.cells_inj))
@[push_cast] def v88 (r : Val × Bool) : AV := .tuple [.agg (Val.cells r.1), .bool r.2]
@[push_cast] def sh88 : Shp := .tup [.agg [none, none, some 1, some 1, some 1], .leaf none]
noncomputable def t88 (N : Nat) : List AV → Option AV := TL ar88.e fun x => bindO (F160 N x.1 x.2) fun r => some (v88 r)
@[push_cast] theorem t118_1 (z1 : Int) (z2 : Int) : t118 [.int .i64 z1, .int .i64 z2] = bindO (F174 z1 z2) fun r => some (v118 r) :=
 TL_hit ar118.inj (z1, z2) (by simp only [push_cast] <;> rfl)
@[push_cast] theorem t119_1 {N : Nat} (z1 : Int) (z2 : List Int) (z3 : List Int) : t119 N [.int .i64 z1, .sl false 1 (List.map (cI .i64) z2), .sl false 1 (List.map (cI .i64) z3)] = bindO (F175 N z1 z2 z3) fun r => some (v119 r) :=
 TL_hit ar119.inj (z1, z2, z3) (by simp only [push_cast] <;> rfl)
@[push_cast] theorem t121_1 {N : Nat} (z1 : Int) (z2 : Int) (z3 : List Int) (z4 : List Int) (z5 : List Int) (z6 : Int) (z7 : Int) : t121 N [.agg [.int .i64 z1, .int .i64 z2, .sl false 1 (List.map (cI .i64) z3), .sl false 1 (List.map (cI .i64) z4), .sl false 1 (List.map (cI .i64) z5)], .int .i64 z6, .int .i64 z7] = bindO (F177 N (⟨z1, z2, z3, z4, z5⟩ : Val) z6 z7) fun r => some (v121 r) :=
 TL_hit ar121.inj ((⟨z1, z2, z3, z4, z5⟩ : Val), z6, z7) (by simp only [push_cast] <;> rfl)
@[push_cast] theorem t122_1 {N : Nat} (z1 : Int) (z2 : List Val) : t122 N [.int .i64 z1, .sl false 5 (List.map Val.cells z2)] = bindO (F178 N z1 z2) fun r => some (v122 r) :=
 TL_hit ar122.inj (z1, z2) (by simp only [push_cast] <;> rfl)
@[push_cast] def H55 : Nat → Hint
 | 0 => ⟨[1, 2, 4, 6, 7, 13, 14, 15], [1, 2, 4, 6, 7], []⟩
 | 1 => ⟨[], [1, 2, 4, 6, 7, 13, 14, 15], []⟩
 | _ => ⟨[], [], []⟩
def F127_s1 (self55 : Node → (List Entry) → Option (Val × Bool)) (m : List Entry) (s3 : (List Val) × Bool) (i1 : Nat) (x2 : Node) : Option (Sum ((List Val) × Bool) (Val × Bool)) := bindO (self55 x2 m) fun r4 => iteO s3.2 (iteO (fits (s3.1.length + 1) 88) (some (.inl (s3.1 ++ ([r4.1]), r4.2))) (none)) (iteO (fits (s3.1.length + 1) 88) (some (.inl (s3.1 ++ ([r4.1]), false))) (none))
def F127_f1 (N : Nat) (m : List Entry) (n : Node) (s3 : (List Val) × Bool) : Option (Val × Bool) := iteO s3.2 (iteO (n.op == 1) (bindO (F159 N m n.name s3.1 n.sortf) fun r8 => some (r8, true)) (iteO (n.op == 3) (bindO (F159 N m n.name s3.1 n.sortf) fun r6 => some (r6, true)) (bindO (F160 N n s3.1) fun r7 => some (r7.1, r7.2)))) (bindO (F28 N n) fun r5 => some ((⟨r5, 0, [], [], []⟩ : Val), false))
def F127b (self55 : Node → (List Entry) → Option (Val × Bool)) (N : Nat) (n : Node) (m : List Entry) : Option (Val × Bool) := foldN (S := (List Val) × Bool) (F127_s1 self55 m) (F127_f1 N m n) N n.kids 0 ([], true)
def F127 : Nat → Node → (List Entry) → Option (Val × Bool)
 | 0 => fun _ _ => none
 | N + 1 => fun n m => F127b (F127 N) N n m
@[push_cast] def ar55 : Rs (Node × (List Entry)) := rsC rNode (rsO (rL 7 Entry.cells Entry.cells_inj))
@[push_cast] def v55 (r : Val × Bool) : AV := .tuple [.agg (Val.cells r.1), .bool r.2]
@[push_cast] def sh55 : Shp := .tup [.agg [none, none, some 1, some 1, some 1], .leaf none]
noncomputable def t55 (N : Nat) : List AV → Option AV := TL ar55.e fun x => bindO (F127 N x.1 x.2) fun r => some (v55 r)
noncomputable def ts55 (self55 : Node → (List Entry) → Option (Val × Bool)) : List AV → Option AV := TL ar55.e fun x => bindO (self55 x.1 x.2) fun r => some (v55 r)
@[push_cast] theorem t55_1 (self55 : Node → (List Entry) → Option (Val × Bool)) (z1 : Int) (z2 : Int) (z3 : ByteArray) (z4 : Int) (z5 : List Node) (z6 : List Entry) : ts55 self55 [.agg [.int .i64 z1, .int .i64 z2, .str z3, .int .i64 z4, .sl false 5 (List.map Node.cells z5)], .sl false 7 (List.map Entry.cells z6)] = bindO (self55 (⟨z1, z2, z3, z4, z5⟩ : Node) z6) fun r => some (v55 r) :=
 TL_hit ar55.inj ((⟨z1, z2, z3, z4, z5⟩ : Node), z6) (by simp only [push_cast] <;> rfl)
@[push_cast] theorem t87_1 {N : Nat} (z1 : List Entry) (z2 : ByteArray) (z3 : List Val) (z4 : Int) : t87 N [.sl false 7 (List.map Entry.cells z1), .str z2, .sl false 5 (List.map Val.cells z3), .int .i64 z4] = bindO (F159 N z1 z2 z3 z4) fun r => some (v87 r) :=
 TL_hit ar87.inj (z1, z2, z3, z4) (by simp only [push_cast] <;> rfl)
@[push_cast] theorem t88_1 {N : Nat} (z1 : Int) (z2 : Int) (z3 : ByteArray) (z4 : Int) (z5 : List Node) (z6 : List Val) : t88 N [.agg [.int .i64 z1, .int .i64 z2, .str z3, .int .i64 z4, .sl false 5 (List.map Node.cells z5)], .sl false 5 (List.map Val.cells z6)] = bindO (F160 N (⟨z1, z2, z3, z4, z5⟩ : Node) z6) fun r => some (v88 r) :=
 TL_hit ar88.inj ((⟨z1, z2, z3, z4, z5⟩ : Node), z6) (by simp only [push_cast] <;> rfl)
@[push_cast] def H33 : Nat → Hint
 | _ => ⟨[], [], []⟩
def F87 (N : Nat) (n : Node) (m : List Entry) (sortq : Int) : Option (Val × Int) := bindO (F15 N n sortq) fun r1 => iteO (r1 == 0) (bindO (F43 N n) fun r2 => iteO r2 (some ((⟨0, 0, [], [], []⟩ : Val), 3)) (bindO (F126 N m) fun r3 => iteO r3 (bindO (F127 N n m) fun r4 => iteO r4.2 (some (r4.1, 0)) (some ((⟨0, 0, [], [], []⟩ : Val), 2))) (some ((⟨0, 0, [], [], []⟩ : Val), 3)))) (some ((⟨0, 0, [], [], []⟩ : Val), r1))
@[push_cast] def ar33 : Rs (Node × (List Entry) × Int) := rsC rNode (rsC (rL 7 Entry.cells Entry.cells_inj) (rsO (rI .i64)))
@[push_cast] def v33 (r : Val × Int) : AV := .tuple [.agg (Val.cells r.1), .int .i64 r.2]
@[push_cast] def sh33 : Shp := .tup [.agg [none, none, some 1, some 1, some 1], .leaf none]
noncomputable def t33 (N : Nat) : List AV → Option AV := TL ar33.e fun x => bindO (F87 N x.1 x.2.1 x.2.2) fun r => some (v33 r)
@[push_cast] theorem t52_1 {N : Nat} (z1 : Int) (z2 : Int) (z3 : ByteArray) (z4 : Int) (z5 : List Node) (z6 : Int) : t52 N [.agg [.int .i64 z1, .int .i64 z2, .str z3, .int .i64 z4, .sl false 5 (List.map Node.cells z5)], .int .i64 z6] = bindO (F15 N (⟨z1, z2, z3, z4, z5⟩ : Node) z6) fun r => some (v52 r) :=
 TL_hit ar52.inj ((⟨z1, z2, z3, z4, z5⟩ : Node), z6) (by simp only [push_cast] <;> rfl)
@[push_cast] theorem t53_2 {N : Nat} (z1 : Int) (z2 : Int) (z3 : ByteArray) (z4 : Int) (z5 : List Node) : t53 N [.agg [.int .i64 z1, .int .i64 z2, .str z3, .int .i64 z4, .sl false 5 (List.map Node.cells z5)]] = bindO (F43 N (⟨z1, z2, z3, z4, z5⟩ : Node)) fun r => some (v53 r) :=
 TL_hit ar53.inj (⟨z1, z2, z3, z4, z5⟩ : Node) (by simp only [push_cast] <;> rfl)
@[push_cast] theorem t54_1 {N : Nat} (z1 : List Entry) : t54 N [.sl false 7 (List.map Entry.cells z1)] = bindO (F126 N z1) fun r => some (v54 r) :=
 TL_hit ar54.inj z1 (by simp only [push_cast] <;> rfl)
@[push_cast] theorem t55_2 {N : Nat} (z1 : Int) (z2 : Int) (z3 : ByteArray) (z4 : Int) (z5 : List Node) (z6 : List Entry) : t55 N [.agg [.int .i64 z1, .int .i64 z2, .str z3, .int .i64 z4, .sl false 5 (List.map Node.cells z5)], .sl false 7 (List.map Entry.cells z6)] = bindO (F127 N (⟨z1, z2, z3, z4, z5⟩ : Node) z6) fun r => some (v55 r) :=
 TL_hit ar55.inj ((⟨z1, z2, z3, z4, z5⟩ : Node), z6) (by simp only [push_cast] <;> rfl)
@[push_cast] def H17 : Nat → Hint
 | _ => ⟨[], [], []⟩
def F30 (N : Nat) (n : Node) (m : List Entry) : Option (Val × Int) := bindO (F87 N n m 0) fun r1 => some (r1.1, r1.2)
@[push_cast] def ar17 : Rs (Node × (List Entry)) := rsC rNode (rsO (rL 7 Entry.cells Entry.cells_inj))
@[push_cast] def v17 (r : Val × Int) : AV := .tuple [.agg (Val.cells r.1), .int .i64 r.2]
@[push_cast] def sh17 : Shp := .tup [.agg [none, none, some 1, some 1, some 1], .leaf none]
noncomputable def t17 (N : Nat) : List AV → Option AV := TL ar17.e fun x => bindO (F30 N x.1 x.2) fun r => some (v17 r)
@[push_cast] theorem t33_1 {N : Nat} (z1 : Int) (z2 : Int) (z3 : ByteArray) (z4 : Int) (z5 : List Node) (z6 : List Entry) (z7 : Int) : t33 N [.agg [.int .i64 z1, .int .i64 z2, .str z3, .int .i64 z4, .sl false 5 (List.map Node.cells z5)], .sl false 7 (List.map Entry.cells z6), .int .i64 z7] = bindO (F87 N (⟨z1, z2, z3, z4, z5⟩ : Node) z6 z7) fun r => some (v33 r) :=
 TL_hit ar33.inj ((⟨z1, z2, z3, z4, z5⟩ : Node), z6, z7) (by simp only [push_cast] <;> rfl)
@[push_cast] def H5 : Nat → Hint
 | 0 => ⟨[2, 49, 50, 51], [], []⟩
 | 1 => ⟨[], [2, 49, 50, 51], []⟩
 | 2 => ⟨[2, 10, 11, 49, 50, 51, 63, 64, 65], [2, 10, 11, 49, 50, 51], []⟩
 | 3 => ⟨[], [2, 10, 11, 49, 50, 51, 63, 64, 65], []⟩
 | _ => ⟨[], [], []⟩
def F1002_s2 (N : Nat) (m : List Entry) (s12 : Int) (i10 : Nat) (x11 : Mono) : Option (Sum (Int) (Sum Unit Bool)) := bindO (F30 N x11.monoAtom m) fun r13 => iteO (r13.2 == 0) (bindO (F31 r13.1.valNum) fun r14 => iteO r14 (bindO (F31 x11.monoCoef) fun r15 => iteO r15 (iteO (decide (r13.1.valNum > 10000)) (some (.inr (.inr true))) (iteO (decide (r13.1.valNum < (-10000))) (some (.inr (.inr true))) (some (.inl (IntKind.i64.wrap (s12 + (IntKind.i64.wrap (x11.monoCoef * r13.1.valNum)))))))) (some (.inr (.inr true)))) (some (.inr (.inr true)))) (some (.inr (.inr true)))
def F1002_f2 (x7 : Con) (s12 : Int) : Option (Sum Unit Bool) := iteO (x7.conRel == 0) (iteO (s12 == 0) (iteO (x7.conRel == 1) (iteO (decide (s12 > 0)) (some (.inr true)) (some (.inl ()))) (some (.inl ()))) (some (.inr true))) (iteO (x7.conRel == 1) (iteO (decide (s12 > 0)) (some (.inr true)) (some (.inl ()))) (some (.inl ())))
def F1002_s1 (N : Nat) (m : List Entry) (s8 : Unit) (i6 : Nat) (x7 : Con) : Option (Sum (Unit) (Bool)) := bindO (F31 x7.conForm.linConst) fun r9 => iteO r9 (foldN (S := Int) (F1002_s2 N m) (F1002_f2 x7) N x7.conForm.linMonos 0 x7.conForm.linConst) (some (.inr true))
def F1002_f1  (s8 : Unit) : Option (Bool) := some false
def F1002 (N : Nat) (cons : List Con) (d : Deriv) (m : List Entry) : Option (Bool) := bindO (F26 N) fun r1 => iteO r1 (bindO (F1003 N cons) fun r2 => bindO (F32 N r2) fun r3 => iteO r3 (iteO (decide ((cons.length : Int) > 20)) (some true) (bindO (F1006 N d) fun r4 => iteO (decide (r4 > 300)) (some true) (iteO (decide ((m.length : Int) > 60)) (some true) (bindO (F1008 N cons d) fun r5 => iteO (r5.2 == 0) (iteO r5.1 (foldN (S := Unit) (F1002_s1 N m) (F1002_f1) N cons 0 ()) (some true)) (some true))))) (some true)) (some false)
@[push_cast] def ar5 : Rs ((List Con) × Deriv × (List Entry)) := rsC (rL 3 Con.cells Con.cells_inj) (rsC rDeriv (rsO (rL 7 Entry.cells Entry.cells_inj)))
@[push_cast] def v5 (r : Bool) : AV := .bool r
@[push_cast] def sh5 : Shp := .one (.leaf none)
noncomputable def t5 (N : Nat) : List AV → Option AV := TL ar5.e fun x => bindO (F1002 N x.1 x.2.1 x.2.2) fun r => some (v5 r)
@[push_cast] theorem t6_1 {N : Nat}  : t6 N [] = bindO (F26 N) fun r => some (v6 r) :=
 TL_hit ar6.inj () (by simp only [push_cast] <;> rfl)
@[push_cast] theorem t8_1 {N : Nat} (z1 : List Con) : t8 N [.sl false 3 (List.map Con.cells z1)] = bindO (F1003 N z1) fun r => some (v8 r) :=
 TL_hit ar8.inj z1 (by simp only [push_cast] <;> rfl)
@[push_cast] theorem t7_1 {N : Nat} (z1 : List Lin) : t7 N [.sl false 2 (List.map Lin.cells z1)] = bindO (F32 N z1) fun r => some (v7 r) :=
 TL_hit ar7.inj z1 (by simp only [push_cast] <;> rfl)
@[push_cast] theorem t12_2 {N : Nat} (z1 : List (List Mult)) (z2 : Bool) (z3 : List Mono) (z4 : Int) (z5 : List Deriv) : t12 N [.agg [.sl false 1 (List.map (cL 2 Mult.cells) z1), .bool z2, .sl false 6 (List.map Mono.cells z3), .int .i64 z4, .sl false 5 (List.map Deriv.cells z5)]] = bindO (F1006 N (⟨z1, z2, (⟨z3, z4⟩ : Lin), z5⟩ : Deriv)) fun r => some (v12 r) :=
 TL_hit ar12.inj (⟨z1, z2, (⟨z3, z4⟩ : Lin), z5⟩ : Deriv) (by simp only [push_cast] <;> rfl)
@[push_cast] theorem t14_1 {N : Nat} (z1 : List Con) (z2 : List (List Mult)) (z3 : Bool) (z4 : List Mono) (z5 : Int) (z6 : List Deriv) : t14 N [.sl false 3 (List.map Con.cells z1), .agg [.sl false 1 (List.map (cL 2 Mult.cells) z2), .bool z3, .sl false 6 (List.map Mono.cells z4), .int .i64 z5, .sl false 5 (List.map Deriv.cells z6)]] = bindO (F1008 N z1 (⟨z2, z3, (⟨z4, z5⟩ : Lin), z6⟩ : Deriv)) fun r => some (v14 r) :=
 TL_hit ar14.inj (z1, (⟨z2, z3, (⟨z4, z5⟩ : Lin), z6⟩ : Deriv)) (by simp only [push_cast] <;> rfl)
@[push_cast] theorem t16_1 (z1 : Int) : t16 [.int .i64 z1] = bindO (F31 z1) fun r => some (v16 r) :=
 TL_hit ar16.inj z1 (by simp only [push_cast] <;> rfl)
@[push_cast] theorem t17_1 {N : Nat} (z1 : Int) (z2 : Int) (z3 : ByteArray) (z4 : Int) (z5 : List Node) (z6 : List Entry) : t17 N [.agg [.int .i64 z1, .int .i64 z2, .str z3, .int .i64 z4, .sl false 5 (List.map Node.cells z5)], .sl false 7 (List.map Entry.cells z6)] = bindO (F30 N (⟨z1, z2, z3, z4, z5⟩ : Node) z6) fun r => some (v17 r) :=
 TL_hit ar17.inj ((⟨z1, z2, z3, z4, z5⟩ : Node), z6) (by simp only [push_cast] <;> rfl)
def F1019_s3 (N : Nat) (s7 : (List Node) × (List LinearSum)) (x2 : Mult) (x6 : Mono) (s8 : Int × Int) : Option (Sum (Int × Int) (Sum ((List Node) × (List LinearSum)) (Sum ((List Node) × (List LinearSum) × Int × Int) (Lin × Bool)))) := iteO (decide (s8.2 < s8.1)) (bindO (atO s7.1 (IntKind.i64.wrap ((IntKind.u64.wrap (IntKind.i64.wrap (s8.2 + s8.1))).fdiv (2 ^ (min (1 : Int).toNat (IntKind.u64).bits))))) fun x9 => bindO (F18 N x9 x6.monoAtom) fun r10 => iteO (decide (r10 < 0)) (some (.inl (s8.1, IntKind.i64.wrap ((IntKind.i64.wrap ((IntKind.u64.wrap (IntKind.i64.wrap (s8.2 + s8.1))).fdiv (2 ^ (min (1 : Int).toNat (IntKind.u64).bits)))) + 1)))) (some (.inl (IntKind.i64.wrap ((IntKind.u64.wrap (IntKind.i64.wrap (s8.2 + s8.1))).fdiv (2 ^ (min (1 : Int).toNat (IntKind.u64).bits))), s8.2)))) (iteO (decide (s8.2 < ((s7.1.length : Int)))) (bindO (atO s7.1 s8.2) fun x11 => bindO (F18 N x11 x6.monoAtom) fun r12 => iteO (r12 == 0) (bindO (atO s7.2 s8.2) fun x17 => bindO (F128 x17 x2.multCoef x6.monoCoef) fun r18 => some (.inr (.inl (s7.1, s7.2.set s8.2.toNat r18)))) (bindO (F142 s7.1 s8.2 ([x6.monoAtom])) fun r13 => bindO (F1021 s7.2 s8.2 ([(⟨0, 0⟩ : LinearSum)])) fun r14 => bindO (atO r14 s8.2) fun x15 => bindO (F128 x15 x2.multCoef x6.monoCoef) fun r16 => some (.inr (.inl (r13, r14.set s8.2.toNat r16))))) (bindO (F142 s7.1 s8.2 ([x6.monoAtom])) fun r19 => bindO (F1021 s7.2 s8.2 ([(⟨0, 0⟩ : LinearSum)])) fun r20 => bindO (atO r20 s8.2) fun x21 => bindO (F128 x21 x2.multCoef x6.monoCoef) fun r22 => some (.inr (.inl (r19, r20.set s8.2.toNat r22)))))
def F1019_s2 (N : Nat) (x2 : Mult) (s7 : (List Node) × (List LinearSum)) (i5 : Nat) (x6 : Mono) : Option (Sum ((List Node) × (List LinearSum)) (Sum ((List Node) × (List LinearSum) × Int × Int) (Lin × Bool))) := whileN (S := Int × Int) (F1019_s3 N s7 x2 x6) N (((s7.1.length : Int)), 0)
def F1019_f2 (s3 : (List Node) × (List LinearSum) × Int × Int) (x2 : Mult) (x4 : Con) (s7 : (List Node) × (List LinearSum)) : Option (Sum ((List Node) × (List LinearSum) × Int × Int) (Lin × Bool)) := bindO (F128 (⟨s3.2.2.1, s3.2.2.2⟩ : LinearSum) x2.multCoef x4.conForm.linConst) fun r23 => some (.inl (s7.1, s7.2, r23.linearSumHi, r23.linearSumLo))
def F1019_s1 (N : Nat) (cons : List Con) (s3 : (List Node) × (List LinearSum) × Int × Int) (i1 : Nat) (x2 : Mult) : Option (Sum ((List Node) × (List LinearSum) × Int × Int) (Lin × Bool)) := bindO (atO cons x2.multIndex) fun x4 => foldN (S := (List Node) × (List LinearSum)) (F1019_s2 N x2) (F1019_f2 s3 x2 x4) N x4.conForm.linMonos 0 (s3.1, s3.2.1)
def F1019_s5 (s3 : (List Node) × (List LinearSum) × Int × Int) (s29 : List Mono) (i27 : Nat) (x28 : Nat) : Option (Sum (List Mono) (Lin × Bool)) := bindO (atO s3.2.1 (i27 : Int)) fun x30 => bindO (F129 x30) fun r31 => iteO r31.2 (iteO (r31.1 == 0) (some (.inl s29)) (bindO (atO s3.1 (i27 : Int)) fun x32 => iteO (fits (s29.length + 1) 72) (some (.inl (s29 ++ ([(⟨r31.1, x32⟩ : Mono)])))) (none))) (some (.inr ((⟨[], 0⟩ : Lin), false)))
def F1019_f5 (s3 : (List Node) × (List LinearSum) × Int × Int) (s29 : List Mono) : Option (Lin × Bool) := bindO (F129 (⟨s3.2.2.1, s3.2.2.2⟩ : LinearSum)) fun r33 => some ((⟨s29, r33.1⟩ : Lin), r33.2)
def F1019_f1 (N : Nat) (s3 : (List Node) × (List LinearSum) × Int × Int) : Option (Lin × Bool) := foldN (S := List Mono) (F1019_s5 s3) (F1019_f5 s3) N (List.range ((s3.2.1.length : Int)).toNat) 0 ([])
def F1019 (N : Nat) (cons : List Con) (s : List Mult) : Option (Lin × Bool) := foldN (S := (List Node) × (List LinearSum) × Int × Int) (F1019_s1 N cons) (F1019_f1 N) N s 0 ([], [], 0, 0)
def F1010_s1 (cons : List Con) (s3 : Int) (i1 : Nat) (x2 : Mult) : Option (Sum (Int) (Con × Int)) := iteO (decide (x2.multIndex < 0)) (some (.inr ((⟨(⟨[], 0⟩ : Lin), 0⟩ : Con), 1))) (iteO (decide (x2.multIndex ≥ (cons.length : Int))) (some (.inr ((⟨(⟨[], 0⟩ : Lin), 0⟩ : Con), 1))) (iteO (x2.multCoef == 0) (some (.inr ((⟨(⟨[], 0⟩ : Lin), 0⟩ : Con), 1))) (iteO (decide (x2.multCoef < 0)) (bindO (atO cons x2.multIndex) fun x4 => iteO (x4.conRel == 1) (some (.inr ((⟨(⟨[], 0⟩ : Lin), 0⟩ : Con), 1))) (some (.inl (max s3 x4.conRel)))) (bindO (atO cons x2.multIndex) fun x5 => some (.inl (max s3 x5.conRel))))))
def F1010_f1 (N : Nat) (cons : List Con) (s : List Mult) (s3 : Int) : Option (Con × Int) := iteO ((s.length : Int) == 0) (some ((⟨(⟨[], 0⟩ : Lin), 0⟩ : Con), 1)) (bindO (F1019 N cons s) fun r6 => iteO r6.2 (bindO (F108 N (⟨r6.1, s3⟩ : Con)) fun r7 => some (r7, 0)) (some ((⟨(⟨[], 0⟩ : Lin), 0⟩ : Con), 2)))
def F1010 (N : Nat) (cons : List Con) (s : List Mult) : Option (Con × Int) := foldN (S := Int) (F1010_s1 cons) (F1010_f1 N cons s) N s 0 0
@[push_cast] def ar22 : Rs ((List Con) × (List Mult)) := rsC (rL 3 Con.cells Con.cells_inj) (rsO (rL 2 Mult.cells Mult.cells_inj))
@[push_cast] def v22 (r : Con × Int) : AV := .tuple [.agg (Con.cells r.1), .int .i64 r.2]
noncomputable def t22 (N : Nat) : List AV → Option AV := TL ar22.e fun x => bindO (F1010 N x.1 x.2) fun r => some (v22 r)
def F63 (N : Nat) (n : Node) : Option (Bool) := iteO (n.op == 2) (some false) (iteO (n.op == 4) (some false) (iteO (n.op == 5) (some false) (iteO (n.op == 6) (some false) (iteO (n.op == 7) (some false) (bindO (F28 N n) fun r1 => bindO (F15 N n 0) fun r2 => iteO (r2 == 0) (iteO (r1 == 1) (some true) (some (r1 == 3))) (some false))))))
@[push_cast] theorem t7_2 {N : Nat} (z2 : List Mono) (z3 : Int) : t7 N [.sl true 2 [[.sl false 6 (List.map Mono.cells z2), .int .i64 z3]]] = bindO (F32 N ([(⟨z2, z3⟩ : Lin)])) fun r => some (v7 r) :=
 TL_hit ar7.inj [(⟨z2, z3⟩ : Lin)] (by simp only [push_cast] <;> rfl)
@[push_cast] theorem t7_3 {N : Nat} (z2 : List Mono) (z3 : Int) : t7 N [.sl false 2 [[.sl false 6 (List.map Mono.cells z2), .int .i64 z3]]] = bindO (F32 N ([(⟨z2, z3⟩ : Lin)])) fun r => some (v7 r) :=
 TL_hit ar7.inj [(⟨z2, z3⟩ : Lin)] (by simp only [push_cast] <;> rfl)
end Go.Abs.Try
