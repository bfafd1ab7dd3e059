import Derived.Test.YtecjmbaepioobaaGreatSqW2
import Derived.Test.YtecjmbaepioobaaGreatGen3
import Derived.Test.YtecjmbaepioobaaGreatSqCl
import Derived.Test.YtecjmbaepioobaaGreatSqIns
set_option linter.unusedSimpArgs false
set_option linter.unusedVariables false
namespace Go.Abs.Try
abbrev Z : AV := .top
@[push_cast] theorem Z_eq : Z = AV.top := rfl
open Go.RowKit
set_option maxRecDepth 100000
set_option maxHeartbeats 40000000
def cmpS (a b : ByteArray) : Int := Lib.compareBytes a.data.toList b.data.toList
def F79 (a b : ByteArray) : Option Int := some (cmpS a b)
@[push_cast] def ar69 : Rs (ByteArray × ByteArray) := rsC rS (rsO rS)
@[push_cast] def v69 (r : Int) : AV := .int .i64 r
noncomputable def t69 : List AV → Option AV := TL ar69.e fun x => bindO (F79 x.1 x.2) fun r => some (v69 r)
@[push_cast] def H58 : Nat → Hint
 | 0 => ⟨[], [3], []⟩
 | 1 => ⟨[], [3], []⟩
 | _ => ⟨[], [], []⟩
def F37_s1  (s3 : Int) (x2 : Node) : Option (Sum (Int) (Int)) := some (.inl (IntKind.i64.wrap (s3 + 1)))
def F37_f1  (s3 : Int) : Option (Int) := some s3
def F37 (n : Node) : Option (Int) := bindO (walkO n) fun l1 => foldO (S := Int) (F37_s1) (F37_f1) l1 0
@[push_cast] def ar58 : Rs Node := rsO rNode
@[push_cast] def v58 (r : Int) : AV := .int .i64 r
@[push_cast] def sh58 : Shp := .one (.leaf none)
noncomputable def t58 : List AV → Option AV := TL ar58.e fun x => bindO (F37 x) fun r => some (v58 r)
@[push_cast] def H59 : Nat → Hint
 | 0 => ⟨[3, 7, 8, 9], [3], []⟩
 | 1 => ⟨[], [3, 7, 8, 9], []⟩
 | _ => ⟨[], [], []⟩
def F38_s1 (self59 : Node → Option (Int)) (s3 : Int) (i1 : Nat) (x2 : Node) : Option (Sum (Int) (Int)) := bindO (self59 x2) fun r4 => some (.inl (max s3 r4))
def F38_f1  (s3 : Int) : Option (Int) := some (IntKind.i64.wrap (s3 + 1))
def F38b (self59 : Node → Option (Int)) (N : Nat) (n : Node) : Option (Int) := foldN (S := Int) (F38_s1 self59) (F38_f1) N n.kids 0 0
def F38 : Nat → Node → Option (Int)
 | 0 => fun _ => none
 | N + 1 => fun n => F38b (F38 N) N n
@[push_cast] def ar59 : Rs Node := rsO rNode
@[push_cast] def v59 (r : Int) : AV := .int .i64 r
@[push_cast] def sh59 : Shp := .one (.leaf none)
noncomputable def t59 (N : Nat) : List AV → Option AV := TL ar59.e fun x => bindO (F38 N x) fun r => some (v59 r)
noncomputable def ts59 (self59 : Node → Option (Int)) : List AV → Option AV := TL ar59.e fun x => bindO (self59 x) fun r => some (v59 r)
@[push_cast] theorem t59_1 (self59 : Node → Option (Int)) (z1 : Int) (z2 : Int) (z3 : ByteArray) (z4 : Int) (z5 : List Node) : ts59 self59 [.agg [.int .i64 z1, .int .i64 z2, .str z3, .int .i64 z4, .sl false 5 (List.map Node.cells z5)]] = bindO (self59 (⟨z1, z2, z3, z4, z5⟩ : Node)) fun r => some (v59 r) :=
 TL_hit ar59.inj (⟨z1, z2, z3, z4, z5⟩ : Node) (by simp only [push_cast] <;> rfl)
@[push_cast] def H26 : Nat → Hint
 | _ => ⟨[], [], []⟩
def F70 (N : Nat) (n : Node) : Option (Bool) := bindO (F37 n) fun r1 => iteO (decide (r1 ≤ 4000)) (bindO (F38 N n) fun r2 => some (decide (r2 ≤ 100))) (some false)
@[push_cast] def ar26 : Rs Node := rsO rNode
@[push_cast] def v26 (r : Bool) : AV := .bool r
@[push_cast] def sh26 : Shp := .one (.leaf none)
noncomputable def t26 (N : Nat) : List AV → Option AV := TL ar26.e fun x => bindO (F70 N x) fun r => some (v26 r)
@[push_cast] theorem t58_1 (z1 : Int) (z2 : Int) (z3 : ByteArray) (z4 : Int) (z5 : List Node) : t58 [.agg [.int .i64 z1, .int .i64 z2, .str z3, .int .i64 z4, .sl false 5 (List.map Node.cells z5)]] = bindO (F37 (⟨z1, z2, z3, z4, z5⟩ : Node)) fun r => some (v58 r) :=
 TL_hit ar58.inj (⟨z1, z2, z3, z4, z5⟩ : Node) (by simp only [push_cast] <;> rfl)
@[push_cast] theorem t59_2 {N : Nat} (z1 : Int) (z2 : Int) (z3 : ByteArray) (z4 : Int) (z5 : List Node) : t59 N [.agg [.int .i64 z1, .int .i64 z2, .str z3, .int .i64 z4, .sl false 5 (List.map Node.cells z5)]] = bindO (F38 N (⟨z1, z2, z3, z4, z5⟩ : Node)) fun r => some (v59 r) :=
 TL_hit ar59.inj (⟨z1, z2, z3, z4, z5⟩ : Node) (by simp only [push_cast] <;> rfl)
@[push_cast] def H127 : Nat → Hint
 | _ => ⟨[], [], []⟩
def F73 (c : Int) : Option (Bool) := iteO (decide (c ≥ 97)) (iteO (decide (c ≤ 122)) (some true) (iteO (decide (c ≥ 65)) (some (decide (c ≤ 90))) (some false))) (iteO (decide (c ≥ 65)) (some (decide (c ≤ 90))) (some false))
@[push_cast] def ar127 : Rs Int := rsO (rI .u8)
@[push_cast] def v127 (r : Bool) : AV := .bool r
@[push_cast] def sh127 : Shp := .one (.leaf none)
noncomputable def t127 : List AV → Option AV := TL ar127.e fun x => bindO (F73 x) fun r => some (v127 r)
@[push_cast] def H128 : Nat → Hint
 | _ => ⟨[], [], []⟩
def F74 (s : ByteArray) : Option (Bool) := iteO (s.toList == (⟨#[116, 114, 117, 101]⟩ : ByteArray).toList) (some true) (iteO (s.toList == (⟨#[102, 97, 108, 115, 101]⟩ : ByteArray).toList) (some true) (iteO (s.toList == (⟨#[105, 110]⟩ : ByteArray).toList) (some true) (iteO (s.toList == (⟨#[115, 117, 98]⟩ : ByteArray).toList) (some true) (iteO (s.toList == (⟨#[101, 109, 112, 116, 121]⟩ : ByteArray).toList) (some true) (iteO (s.toList == (⟨#[115, 105, 110, 103]⟩ : ByteArray).toList) (some true) (iteO (s.toList == (⟨#[99, 117, 112]⟩ : ByteArray).toList) (some true) (iteO (s.toList == (⟨#[99, 97, 112]⟩ : ByteArray).toList) (some true) (iteO (s.toList == (⟨#[100, 105, 102, 102]⟩ : ByteArray).toList) (some true) (iteO (s.toList == (⟨#[115, 101, 108]⟩ : ByteArray).toList) (some true) (iteO (s.toList == (⟨#[115, 116, 111]⟩ : ByteArray).toList) (some true) (iteO (s.toList == (⟨#[118, 108, 101, 110]⟩ : ByteArray).toList) (some true) (iteO (s.toList == (⟨#[105, 116, 101]⟩ : ByteArray).toList) (some true) (some false)))))))))))))
@[push_cast] def ar128 : Rs ByteArray := rsO rS
@[push_cast] def v128 (r : Bool) : AV := .bool r
@[push_cast] def sh128 : Shp := .one (.leaf none)
noncomputable def t128 : List AV → Option AV := TL ar128.e fun x => bindO (F74 x) fun r => some (v128 r)
@[push_cast] def H94 : Nat → Hint
 | 0 => ⟨[0, 24, 25], [], []⟩
 | 1 => ⟨[], [0, 24, 25], []⟩
 | _ => ⟨[], [], []⟩
def F16_s1 (s : ByteArray) (s5 : Unit) (i3 : Nat) (x4 : Nat) : Option (Sum (Unit) (Bool)) := bindO (F73 (bt s (i3 : Int))) fun r6 => iteO r6 (some (.inl ())) (iteO (decide ((bt s (i3 : Int)) < 48)) (iteO ((bt s (i3 : Int)) == 46) (some (.inl ())) (some (.inr false))) (iteO (decide ((bt s (i3 : Int)) > 57)) (iteO ((bt s (i3 : Int)) == 46) (some (.inl ())) (some (.inr false))) (some (.inl ()))))
def F16_f1  (s5 : Unit) : Option (Bool) := some true
def F16 (N : Nat) (s : ByteArray) : Option (Bool) := iteO (decide ((s.size : Int) < 1)) (some false) (iteO (decide ((s.size : Int) > 24)) (some false) (iteO (inB 0 s.size) (bindO (F73 (bt s 0)) fun r1 => iteO r1 (bindO (F74 s) fun r2 => iteO r2 (some false) (foldN (S := Unit) (F16_s1 s) (F16_f1) N (List.range s.size) 0 ())) (some false)) (none)))
@[push_cast] def ar94 : Rs ByteArray := rsO rS
@[push_cast] def v94 (r : Bool) : AV := .bool r
@[push_cast] def sh94 : Shp := .one (.leaf none)
noncomputable def t94 (N : Nat) : List AV → Option AV := TL ar94.e fun x => bindO (F16 N x) fun r => some (v94 r)
@[push_cast] theorem t127_1 (z1 : Int) : t127 [.int .u8 z1] = bindO (F73 z1) fun r => some (v127 r) :=
 TL_hit ar127.inj z1 (by simp only [push_cast] <;> rfl)
@[push_cast] theorem t128_1 (z1 : ByteArray) : t128 [.str z1] = bindO (F74 z1) fun r => some (v128 r) :=
 TL_hit ar128.inj z1 (by simp only [push_cast] <;> rfl)
@[push_cast] def H60 : Nat → Hint
 | 0 => ⟨[], [1], []⟩
 | _ => ⟨[], [], []⟩
def F116 (N : Nat) (n : Node) : Option (Bool) := iteO (n.op == 1) (bindO (F16 N n.name) fun r2 => iteO r2 (iteO (decide (n.sortf < 1)) (some false) (iteO (decide (n.sortf > 5)) (some false) (iteO (n.op == 2) (iteO (decide (n.num ≥ (-1000000000000))) (some (decide (n.num ≤ 1000000000000))) (some false)) (iteO (n.op == 7) (iteO (decide (n.num ≥ (-1000000000000))) (some (decide (n.num ≤ 1000000000000))) (some false)) (iteO (n.op == 42) (iteO (decide (n.num ≥ 0)) (some (decide (n.num < 200))) (some false)) (some (n.num == 0))))))) (some false)) (bindO (F16 N n.name) fun r1 => iteO ((n.op == 3) == r1) (iteO (n.op == 3) (iteO (decide (n.sortf < 1)) (some false) (iteO (decide (n.sortf > 5)) (some false) (iteO (n.op == 2) (iteO (decide (n.num ≥ (-1000000000000))) (some (decide (n.num ≤ 1000000000000))) (some false)) (iteO (n.op == 7) (iteO (decide (n.num ≥ (-1000000000000))) (some (decide (n.num ≤ 1000000000000))) (some false)) (iteO (n.op == 42) (iteO (decide (n.num ≥ 0)) (some (decide (n.num < 200))) (some false)) (some (n.num == 0))))))) (iteO (n.name.toList == (⟨#[]⟩ : ByteArray).toList) (iteO (n.sortf == 0) (iteO (n.op == 2) (iteO (decide (n.num ≥ (-1000000000000))) (some (decide (n.num ≤ 1000000000000))) (some false)) (iteO (n.op == 7) (iteO (decide (n.num ≥ (-1000000000000))) (some (decide (n.num ≤ 1000000000000))) (some false)) (iteO (n.op == 42) (iteO (decide (n.num ≥ 0)) (some (decide (n.num < 200))) (some false)) (some (n.num == 0))))) (some false)) (some false))) (some false))
@[push_cast] def ar60 : Rs Node := rsO rNode
@[push_cast] def v60 (r : Bool) : AV := .bool r
@[push_cast] def sh60 : Shp := .one (.leaf none)
noncomputable def t60 (N : Nat) : List AV → Option AV := TL ar60.e fun x => bindO (F116 N x) fun r => some (v60 r)
@[push_cast] theorem t94_1 {N : Nat} (z1 : ByteArray) : t94 N [.str z1] = bindO (F16 N z1) fun r => some (v94 r) :=
 TL_hit ar94.inj z1 (by simp only [push_cast] <;> rfl)
@[push_cast] def H29 : Nat → Hint
 | 0 => ⟨[1], [1], []⟩
 | 1 => ⟨[], [1], []⟩
 | 2 => ⟨[], [1], []⟩
 | _ => ⟨[], [], []⟩
def F36_s1  (s1 : Int × Int × ByteArray × Int × (List Node)) : Option (Sum (Int × Int × ByteArray × Int × (List Node)) (Int)) := iteO (s1.1 == 8) (iteO (decide ((s1.2.2.2.2.length : Int) < 2)) (some (.inr 0)) (bindO (atO s1.2.2.2.2 1) fun x2 => some (.inl (x2.op, x2.sortf, x2.name, x2.num, x2.kids)))) (iteO (s1.1 == 1) (some (.inr s1.2.1)) (iteO (s1.1 == 3) (some (.inr s1.2.1)) (iteO (s1.1 == 2) (some (.inr 1)) (iteO (s1.1 == 4) (some (.inr 1)) (iteO (s1.1 == 5) (some (.inr 1)) (iteO (s1.1 == 6) (some (.inr 1)) (iteO (s1.1 == 7) (some (.inr 1)) (iteO (s1.1 == 14) (some (.inr 1)) (iteO (s1.1 == 16) (some (.inr 1)) (iteO (s1.1 == 9) (some (.inr 4)) (iteO (s1.1 == 10) (some (.inr 4)) (iteO (s1.1 == 11) (some (.inr 4)) (iteO (s1.1 == 12) (some (.inr 4)) (iteO (s1.1 == 13) (some (.inr 4)) (iteO (s1.1 == 15) (some (.inr 5)) (iteO (decide (s1.1 ≥ 30)) (iteO (decide (s1.1 ≤ 42)) (some (.inr 2)) (some (.inr 0))) (some (.inr 0))))))))))))))))))
def F36 (N : Nat) (n : Node) : Option (Int) := whileN (S := Int × Int × ByteArray × Int × (List Node)) (F36_s1) N (n.op, n.sortf, n.name, n.num, n.kids)
@[push_cast] def ar29 : Rs Node := rsO rNode
@[push_cast] def v29 (r : Int) : AV := .int .i64 r
@[push_cast] def sh29 : Shp := .one (.leaf none)
noncomputable def t29 (N : Nat) : List AV → Option AV := TL ar29.e fun x => bindO (F36 N x) fun r => some (v29 r)
@[push_cast] def H95 : Nat → Hint
 | _ => ⟨[], [], []⟩
def F153 (op : Int) : Option ((List Int) × Bool) := iteO (op == 2) (some ([], true)) (iteO (op == 9) (some ([], true)) (iteO (op == 30) (some ([], true)) (iteO (op == 31) (some ([], true)) (iteO (op == 1) (some ([], true)) (iteO (op == 4) (some ([1, 1], true)) (iteO (op == 5) (some ([1, 1], true)) (iteO (op == 38) (some ([1, 1], true)) (iteO (op == 39) (some ([1, 1], true)) (iteO (op == 6) (some ([1], true)) (iteO (op == 7) (some ([1], true)) (iteO (op == 10) (some ([1], true)) (iteO (op == 11) (some ([4, 4], true)) (iteO (op == 12) (some ([4, 4], true)) (iteO (op == 13) (some ([4, 4], true)) (iteO (op == 41) (some ([4, 4], true)) (iteO (op == 40) (some ([1, 4], true)) (iteO (op == 14) (some ([5, 1], true)) (iteO (op == 15) (some ([5, 1, 1], true)) (iteO (op == 16) (some ([5], true)) (iteO (op == 32) (some ([2], true)) (iteO (op == 33) (some ([2, 2], true)) (iteO (op == 34) (some ([2, 2], true)) (iteO (op == 35) (some ([2, 2], true)) (iteO (op == 36) (some ([2, 2], true)) (some ([], false))))))))))))))))))))))))))
@[push_cast] def ar95 : Rs Int := rsO (rI .i64)
@[push_cast] def v95 (r : (List Int) × Bool) : AV := .tuple [.sl false 1 (List.map (cI .i64) r.1), .bool r.2]
@[push_cast] def sh95 : Shp := .tup [.leaf (some 1), .leaf none]
noncomputable def t95 : List AV → Option AV := TL ar95.e fun x => bindO (F153 x) fun r => some (v95 r)
@[push_cast] def H96 : Nat → Hint
 | 0 => ⟨[0, 1, 12, 13], [], []⟩
 | 1 => ⟨[], [0, 1, 12, 13], []⟩
 | _ => ⟨[], [], []⟩
def F154_s1 (s2q : List Int) (s3 : Unit) (i1 : Nat) (x2 : Int) : Option (Sum (Unit) (Bool)) := bindO (atO s2q (i1 : Int)) fun x4 => iteO (x2 == x4) (some (.inl ())) (some (.inr false))
def F154_f1  (s3 : Unit) : Option (Bool) := some true
def F154 (N : Nat) (s1q : List Int) (s2q : List Int) : Option (Bool) := iteO ((s1q.length : Int) == (s2q.length : Int)) (foldN (S := Unit) (F154_s1 s2q) (F154_f1) N s1q 0 ()) (some false)
@[push_cast] def ar96 : Rs ((List Int) × (List Int)) := rsC (rL 1 (cI .i64) (cI_inj .i64)) (rsO (rL 1 (cI .i64) (cI_inj .i64)))
@[push_cast] def v96 (r : Bool) : AV := .bool r
@[push_cast] def sh96 : Shp := .one (.leaf none)
noncomputable def t96 (N : Nat) : List AV → Option AV := TL ar96.e fun x => bindO (F154 N x.1 x.2) fun r => some (v96 r)
@[push_cast] def H61 : Nat → Hint
 | 0 => ⟨[1, 3, 14, 15, 16], [1, 3], []⟩
 | 1 => ⟨[], [1, 3, 14, 15, 16], []⟩
 | _ => ⟨[], [], []⟩
@[push_cast] def H97 : Nat → Hint
 | _ => ⟨[], [], []⟩
def F117_s1 (N : Nat) (s3 : List Int) (i1 : Nat) (x2 : Node) : Option (Sum (List Int) (Bool)) := bindO (F36 N x2) fun r4 => bindO (atO s3 (i1 : Int)) fun x5 => some (.inl (s3.set i1 r4))
def F117_f1 (N : Nat) (n : Node) (s3 : List Int) : Option (Bool) := bindO (F153 n.op) fun r6 => iteO r6.2 (bindO (F154 N s3 r6.1) fun r7 => some r7) (iteO (n.op == 8) (iteO (((s3.length : Int)) == 3) (bindO (atO s3 0) fun x8 => iteO (x8 == 2) (bindO (atO s3 1) fun x9 => bindO (atO s3 2) fun x10 => iteO (x9 == x10) (iteO (x9 == 1) (some true) (some (decide (x9 ≥ 3)))) (some false)) (some false)) (some false)) (iteO (n.op == 37) (iteO (((s3.length : Int)) == 2) (bindO (atO s3 0) fun x11 => bindO (atO s3 1) fun x12 => iteO (x11 == x12) (iteO (x11 == 1) (some true) (some (decide (x11 ≥ 3)))) (some false)) (some false)) (iteO (n.op == 3) (some (decide (((s3.length : Int)) ≤ 8))) (iteO (n.op == 42) (iteO (decide (((s3.length : Int)) ≥ 1)) (some (decide (((s3.length : Int)) ≤ 40))) (some false)) (some false)))))
def F117 (N : Nat) (n : Node) : Option (Bool) := iteO (decide (0 ≤ (n.kids.length : Int) ∧ (n.kids.length : Int) ≤ (n.kids.length : Int) ∧ (n.kids.length : Int) * 8 ≤ 140737488355328 ∧ (n.kids.length : Int) ≤ 9223372036854775807)) (foldN (S := List Int) (F117_s1 N) (F117_f1 N n) N n.kids 0 (List.replicate n.kids.length 0)) (none)
@[push_cast] def ar61 : Rs Node := rsO rNode
@[push_cast] def v61 (r : Bool) : AV := .bool r
@[push_cast] def sh61 : Shp := .one (.leaf none)
noncomputable def t61 (N : Nat) : List AV → Option AV := TL ar61.e fun x => bindO (F117 N x) fun r => some (v61 r)
@[push_cast] theorem t29_1 {N : Nat} (z1 : Int) (z2 : Int) (z3 : ByteArray) (z4 : Int) (z5 : List Node) : t29 N [.agg [.int .i64 z1, .int .i64 z2, .str z3, .int .i64 z4, .sl false 5 (List.map Node.cells z5)]] = bindO (F36 N (⟨z1, z2, z3, z4, z5⟩ : Node)) fun r => some (v29 r) :=
 TL_hit ar29.inj (⟨z1, z2, z3, z4, z5⟩ : Node) (by simp only [push_cast] <;> rfl)
@[push_cast] theorem t95_1 (z1 : Int) : t95 [.int .i64 z1] = bindO (F153 z1) fun r => some (v95 r) :=
 TL_hit ar95.inj z1 (by simp only [push_cast] <;> rfl)
@[push_cast] theorem t96_1 {N : Nat} (z1 : List Int) (z2 : List Int) : t96 N [.sl false 1 (List.map (cI .i64) z1), .sl false 1 (List.map (cI .i64) z2)] = bindO (F154 N z1 z2) fun r => some (v96 r) :=
 TL_hit ar96.inj (z1, z2) (by simp only [push_cast] <;> rfl)
@[push_cast] def H27 : Nat → Hint
 | 0 => ⟨[], [2], []⟩
 | 1 => ⟨[], [2], []⟩
 | _ => ⟨[], [], []⟩
def F71_s1 (N : Nat) (s3 : Unit) (x2 : Node) : Option (Sum (Unit) (Bool)) := bindO (F116 N x2) fun r4 => iteO r4 (bindO (F117 N x2) fun r5 => iteO r5 (some (.inl ())) (some (.inr false))) (some (.inr false))
def F71_f1  (s3 : Unit) : Option (Bool) := some true
def F71 (N : Nat) (n : Node) : Option (Bool) := bindO (walkO n) fun l1 => foldO (S := Unit) (F71_s1 N) (F71_f1) l1 ()
@[push_cast] def ar27 : Rs Node := rsO rNode
@[push_cast] def v27 (r : Bool) : AV := .bool r
@[push_cast] def sh27 : Shp := .one (.leaf none)
noncomputable def t27 (N : Nat) : List AV → Option AV := TL ar27.e fun x => bindO (F71 N x) fun r => some (v27 r)
@[push_cast] theorem t60_1 {N : Nat} (z1 : Int) (z2 : Int) (z3 : ByteArray) (z4 : Int) (z5 : List Node) : t60 N [.agg [.int .i64 z1, .int .i64 z2, .str z3, .int .i64 z4, .sl false 5 (List.map Node.cells z5)]] = bindO (F116 N (⟨z1, z2, z3, z4, z5⟩ : Node)) fun r => some (v60 r) :=
 TL_hit ar60.inj (⟨z1, z2, z3, z4, z5⟩ : Node) (by simp only [push_cast] <;> rfl)
@[push_cast] theorem t61_1 {N : Nat} (z1 : Int) (z2 : Int) (z3 : ByteArray) (z4 : Int) (z5 : List Node) : t61 N [.agg [.int .i64 z1, .int .i64 z2, .str z3, .int .i64 z4, .sl false 5 (List.map Node.cells z5)]] = bindO (F117 N (⟨z1, z2, z3, z4, z5⟩ : Node)) fun r => some (v61 r) :=
 TL_hit ar61.inj (⟨z1, z2, z3, z4, z5⟩ : Node) (by simp only [push_cast] <;> rfl)
@[push_cast] def H28 : Nat → Hint
 | 0 => ⟨[], [2], []⟩
 | 1 => ⟨[], [2, 3], []⟩
 | _ => ⟨[], [], []⟩
def F40_s1  (s3 : ByteArray → Option Int) (x2 : Node) : Option (Sum (ByteArray → Option Int) (Bool)) := iteO (x2.op == 3) (optO (s3 x2.name) (fun m4 => iteO ((x2.kids.length : Int) == 0) (iteO (m4 == (-4611686018427387904)) (iteO (x2.op == 1) (some (.inr false)) (some (.inl (putM s3 x2.name (-4611686018427387904))))) (some (.inr false))) (iteO (x2.op == 1) (iteO (m4 == (-4611686018427387904)) (some (.inr false)) (optO (s3 x2.name) (fun m5 => iteO (m5 == x2.sortf) (some (.inl (putM s3 x2.name x2.sortf))) (some (.inr false))) (some (.inl (putM s3 x2.name x2.sortf))))) (some (.inl s3)))) (iteO ((x2.kids.length : Int) == 0) (iteO (x2.op == 1) (optO ((putM s3 x2.name (-4611686018427387904)) x2.name) (fun m6 => iteO (m6 == x2.sortf) (some (.inl (putM (putM s3 x2.name (-4611686018427387904)) x2.name x2.sortf))) (some (.inr false))) (some (.inl (putM (putM s3 x2.name (-4611686018427387904)) x2.name x2.sortf)))) (some (.inl (putM s3 x2.name (-4611686018427387904))))) (iteO (x2.op == 1) (optO (s3 x2.name) (fun m7 => iteO (m7 == x2.sortf) (some (.inl (putM s3 x2.name x2.sortf))) (some (.inr false))) (some (.inl (putM s3 x2.name x2.sortf)))) (some (.inl s3))))) (optO (s3 x2.name) (fun m8 => iteO (x2.op == 1) (iteO (m8 == (-4611686018427387904)) (some (.inr false)) (optO (s3 x2.name) (fun m9 => iteO (m9 == x2.sortf) (some (.inl (putM s3 x2.name x2.sortf))) (some (.inr false))) (some (.inl (putM s3 x2.name x2.sortf))))) (some (.inl s3))) (iteO (x2.op == 1) (optO (s3 x2.name) (fun m10 => iteO (m10 == x2.sortf) (some (.inl (putM s3 x2.name x2.sortf))) (some (.inr false))) (some (.inl (putM s3 x2.name x2.sortf)))) (some (.inl s3))))
def F40_f1  (s3 : ByteArray → Option Int) : Option (Bool) := some true
def F40 (n : Node) : Option (Bool) := bindO (walkO n) fun l1 => foldO (S := ByteArray → Option Int) (F40_s1) (F40_f1) l1 (fun _ => none)
@[push_cast] def ar28 : Rs Node := rsO rNode
@[push_cast] def v28 (r : Bool) : AV := .bool r
@[push_cast] def sh28 : Shp := .one (.leaf none)
noncomputable def t28 : List AV → Option AV := TL ar28.e fun x => bindO (F40 x) fun r => some (v28 r)
theorem mk79 {E : Env} {fr : Fr} {σ : Store} {t : Nat} (hty : E.ty = tys) : run (aOp E fr σ t (.makeMap 79 none)) = some (.map σ.length, σ ++ [.map .string (mS (evI .i64) fun _ => none)]) := by
 rw [r_makeMap, hty, ← mS_empty (evI .i64)]
 simp only [push_cast, ty79, ty9] <;> rfl
@[push_cast] def H12 : Nat → Hint
 | _ => ⟨[], [], []⟩
def F14 (N : Nat) (n : Node) (sortq : Int) : Option (Int) := iteO (decide (sortq < 0)) (some 1) (iteO (decide (sortq > 5)) (some 1) (bindO (F70 N n) fun r1 => iteO r1 (bindO (F71 N n) fun r2 => iteO r2 (bindO (F40 n) fun r3 => iteO r3 (iteO (sortq == 0) (some 0) (bindO (F36 N n) fun r4 => iteO (r4 == sortq) (some 0) (some 10))) (some 3)) (some 3)) (some 2)))
@[push_cast] def ar12 : Rs (Node × Int) := rsC rNode (rsO (rI .i64))
@[push_cast] def v12 (r : Int) : AV := .int .i64 r
@[push_cast] def sh12 : Shp := .one (.leaf none)
noncomputable def t12 (N : Nat) : List AV → Option AV := TL ar12.e fun x => bindO (F14 N x.1 x.2) fun r => some (v12 r)
@[push_cast] theorem t26_1 {N : Nat} (z1 : Int) (z2 : Int) (z3 : ByteArray) (z4 : Int) (z5 : List Node) : t26 N [.agg [.int .i64 z1, .int .i64 z2, .str z3, .int .i64 z4, .sl false 5 (List.map Node.cells z5)]] = bindO (F70 N (⟨z1, z2, z3, z4, z5⟩ : Node)) fun r => some (v26 r) :=
 TL_hit ar26.inj (⟨z1, z2, z3, z4, z5⟩ : Node) (by simp only [push_cast] <;> rfl)
@[push_cast] theorem t27_1 {N : Nat} (z1 : Int) (z2 : Int) (z3 : ByteArray) (z4 : Int) (z5 : List Node) : t27 N [.agg [.int .i64 z1, .int .i64 z2, .str z3, .int .i64 z4, .sl false 5 (List.map Node.cells z5)]] = bindO (F71 N (⟨z1, z2, z3, z4, z5⟩ : Node)) fun r => some (v27 r) :=
 TL_hit ar27.inj (⟨z1, z2, z3, z4, z5⟩ : Node) (by simp only [push_cast] <;> rfl)
@[push_cast] theorem t28_1 (z1 : Int) (z2 : Int) (z3 : ByteArray) (z4 : Int) (z5 : List Node) : t28 [.agg [.int .i64 z1, .int .i64 z2, .str z3, .int .i64 z4, .sl false 5 (List.map Node.cells z5)]] = bindO (F40 (⟨z1, z2, z3, z4, z5⟩ : Node)) fun r => some (v28 r) :=
 TL_hit ar28.inj (⟨z1, z2, z3, z4, z5⟩ : Node) (by simp only [push_cast] <;> rfl)
@[push_cast] def H22 : Nat → Hint
 | 0 => ⟨[], [2], []⟩
 | 1 => ⟨[], [2], []⟩
 | _ => ⟨[], [], []⟩
def F42_s1  (s3 : Unit) (x2 : Node) : Option (Sum (Unit) (Bool)) := iteO (x2.op == 42) (some (.inr true)) (some (.inl ()))
def F42_f1  (s3 : Unit) : Option (Bool) := some false
def F42 (n : Node) : Option (Bool) := bindO (walkO n) fun l1 => foldO (S := Unit) (F42_s1) (F42_f1) l1 ()
@[push_cast] def ar22 : Rs Node := rsO rNode
@[push_cast] def v22 (r : Bool) : AV := .bool r
@[push_cast] def sh22 : Shp := .one (.leaf none)
noncomputable def t22 : List AV → Option AV := TL ar22.e fun x => bindO (F42 x) fun r => some (v22 r)
@[push_cast] def H23 : Nat → Hint
 | 0 => ⟨[3, 7, 8, 9], [3], []⟩
 | 1 => ⟨[], [3, 7, 8, 9], []⟩
 | _ => ⟨[], [], []⟩
def F1417_s1 (self23 : Cert → Option (Int)) (s3 : Int) (i1 : Nat) (x2 : Cert) : Option (Sum (Int) (Int)) := bindO (self23 x2) fun r4 => some (.inl (max s3 r4))
def F1417_f1  (s3 : Int) : Option (Int) := some (IntKind.i64.wrap (s3 + 1))
def F1417b (self23 : Cert → Option (Int)) (N : Nat) (c : Cert) : Option (Int) := foldN (S := Int) (F1417_s1 self23) (F1417_f1) N c.certKids 0 0
def F1417 : Nat → Cert → Option (Int)
 | 0 => fun _ => none
 | N + 1 => fun c => F1417b (F1417 N) N c
@[push_cast] def ar23 : Rs Cert := rsO rCert
@[push_cast] def v23 (r : Int) : AV := .int .i64 r
@[push_cast] def sh23 : Shp := .one (.leaf none)
noncomputable def t23 (N : Nat) : List AV → Option AV := TL ar23.e fun x => bindO (F1417 N x) fun r => some (v23 r)
noncomputable def ts23 (self23 : Cert → Option (Int)) : List AV → Option AV := TL ar23.e fun x => bindO (self23 x) fun r => some (v23 r)
@[push_cast] theorem t23_1 (self23 : Cert → Option (Int)) (z1 : Int) (z2 : Int) (z3 : Int) (z4 : ByteArray) (z5 : Int) (z6 : List Node) (z7 : List (List Mult)) (z8 : Bool) (z9 : List Mono) (z10 : Int) (z11 : List Deriv) (z12 : List Cert) : ts23 self23 [.agg [.int .i64 z1, .int .i64 z2, .int .i64 z3, .str z4, .int .i64 z5, .sl false 5 (List.map Node.cells z6), .sl false 1 (List.map (cL 2 Mult.cells) z7), .bool z8, .sl false 6 (List.map Mono.cells z9), .int .i64 z10, .sl false 5 (List.map Deriv.cells z11), .sl false 12 (List.map Cert.cells z12)]] = bindO (self23 (⟨z1, (⟨z2, z3, z4, z5, z6⟩ : Node), (⟨z7, z8, (⟨z9, z10⟩ : Lin), z11⟩ : Deriv), z12⟩ : Cert)) fun r => some (v23 r) :=
 TL_hit ar23.inj (⟨z1, (⟨z2, z3, z4, z5, z6⟩ : Node), (⟨z7, z8, (⟨z9, z10⟩ : Lin), z11⟩ : Deriv), z12⟩ : Cert) (by simp only [push_cast] <;> rfl)
@[push_cast] def H47 : Nat → Hint
 | 0 => ⟨[3, 10, 11, 12], [3], []⟩
 | 1 => ⟨[], [3, 10, 11, 12], []⟩
 | _ => ⟨[], [], []⟩
def F1425_s1 (self47 : Deriv → Option (Int)) (s3 : Int) (i1 : Nat) (x2 : Deriv) : Option (Sum (Int) (Int)) := bindO (self47 x2) fun r4 => some (.inl (IntKind.i64.wrap (s3 + r4)))
def F1425_f1  (s3 : Int) : Option (Int) := some s3
def F1425b (self47 : Deriv → Option (Int)) (N : Nat) (d : Deriv) : Option (Int) := foldN (S := Int) (F1425_s1 self47) (F1425_f1) N d.derivKids 0 (d.derivSteps.length : Int)
def F1425 : Nat → Deriv → Option (Int)
 | 0 => fun _ => none
 | N + 1 => fun d => F1425b (F1425 N) N d
@[push_cast] def ar47 : Rs Deriv := rsO rDeriv
@[push_cast] def v47 (r : Int) : AV := .int .i64 r
@[push_cast] def sh47 : Shp := .one (.leaf none)
noncomputable def t47 (N : Nat) : List AV → Option AV := TL ar47.e fun x => bindO (F1425 N x) fun r => some (v47 r)
noncomputable def ts47 (self47 : Deriv → Option (Int)) : List AV → Option AV := TL ar47.e fun x => bindO (self47 x) fun r => some (v47 r)
@[push_cast] theorem t47_1 (self47 : Deriv → Option (Int)) (z1 : List (List Mult)) (z2 : Bool) (z3 : List Mono) (z4 : Int) (z5 : List Deriv) : ts47 self47 [.agg [.sl false 1 (List.map (cL 2 Mult.cells) z1), .bool z2, .sl false 6 (List.map Mono.cells z3), .int .i64 z4, .sl false 5 (List.map Deriv.cells z5)]] = bindO (self47 (⟨z1, z2, (⟨z3, z4⟩ : Lin), z5⟩ : Deriv)) fun r => some (v47 r) :=
 TL_hit ar47.inj (⟨z1, z2, (⟨z3, z4⟩ : Lin), z5⟩ : Deriv) (by simp only [push_cast] <;> rfl)
@[push_cast] def H24 : Nat → Hint
 | 0 => ⟨[3, 11, 12, 13], [3], []⟩
 | 1 => ⟨[], [3, 11, 12, 13], []⟩
 | _ => ⟨[], [], []⟩
def F1418_s1 (self24 : Cert → Option (Int)) (s4 : Int) (i2 : Nat) (x3 : Cert) : Option (Sum (Int) (Int)) := bindO (self24 x3) fun r5 => some (.inl (IntKind.i64.wrap (s4 + r5)))
def F1418_f1  (s4 : Int) : Option (Int) := some s4
def F1418b (self24 : Cert → Option (Int)) (N : Nat) (c : Cert) : Option (Int) := bindO (F1425 N c.certDeriv) fun r1 => foldN (S := Int) (F1418_s1 self24) (F1418_f1) N c.certKids 0 (IntKind.i64.wrap (1 + r1))
def F1418 : Nat → Cert → Option (Int)
 | 0 => fun _ => none
 | N + 1 => fun c => F1418b (F1418 N) N c
@[push_cast] def ar24 : Rs Cert := rsO rCert
@[push_cast] def v24 (r : Int) : AV := .int .i64 r
@[push_cast] def sh24 : Shp := .one (.leaf none)
noncomputable def t24 (N : Nat) : List AV → Option AV := TL ar24.e fun x => bindO (F1418 N x) fun r => some (v24 r)
noncomputable def ts24 (self24 : Cert → Option (Int)) : List AV → Option AV := TL ar24.e fun x => bindO (self24 x) fun r => some (v24 r)
@[push_cast] theorem t47_2 {N : Nat} (z1 : List (List Mult)) (z2 : Bool) (z3 : List Mono) (z4 : Int) (z5 : List Deriv) : t47 N [.agg [.sl false 1 (List.map (cL 2 Mult.cells) z1), .bool z2, .sl false 6 (List.map Mono.cells z3), .int .i64 z4, .sl false 5 (List.map Deriv.cells z5)]] = bindO (F1425 N (⟨z1, z2, (⟨z3, z4⟩ : Lin), z5⟩ : Deriv)) fun r => some (v47 r) :=
 TL_hit ar47.inj (⟨z1, z2, (⟨z3, z4⟩ : Lin), z5⟩ : Deriv) (by simp only [push_cast] <;> rfl)
@[push_cast] theorem t24_1 (self24 : Cert → Option (Int)) (z1 : Int) (z2 : Int) (z3 : Int) (z4 : ByteArray) (z5 : Int) (z6 : List Node) (z7 : List (List Mult)) (z8 : Bool) (z9 : List Mono) (z10 : Int) (z11 : List Deriv) (z12 : List Cert) : ts24 self24 [.agg [.int .i64 z1, .int .i64 z2, .int .i64 z3, .str z4, .int .i64 z5, .sl false 5 (List.map Node.cells z6), .sl false 1 (List.map (cL 2 Mult.cells) z7), .bool z8, .sl false 6 (List.map Mono.cells z9), .int .i64 z10, .sl false 5 (List.map Deriv.cells z11), .sl false 12 (List.map Cert.cells z12)]] = bindO (self24 (⟨z1, (⟨z2, z3, z4, z5, z6⟩ : Node), (⟨z7, z8, (⟨z9, z10⟩ : Lin), z11⟩ : Deriv), z12⟩ : Cert)) fun r => some (v24 r) :=
 TL_hit ar24.inj (⟨z1, (⟨z2, z3, z4, z5, z6⟩ : Node), (⟨z7, z8, (⟨z9, z10⟩ : Lin), z11⟩ : Deriv), z12⟩ : Cert) (by simp only [push_cast] <;> rfl)
@[push_cast] def H68 : Nat → Hint
 | _ => ⟨[], [], []⟩
def F78 (a : Int) (b : Int) : Option (Int) := iteO (decide (a < b)) (some (-1)) (iteO (decide (a > b)) (some 1) (some 0))
@[push_cast] def ar68 : Rs (Int × Int) := rsC (rI .i64) (rsO (rI .i64))
@[push_cast] def v68 (r : Int) : AV := .int .i64 r
@[push_cast] def sh68 : Shp := .one (.leaf none)
noncomputable def t68 : List AV → Option AV := TL ar68.e fun x => bindO (F78 x.1 x.2) fun r => some (v68 r)
@[push_cast] def H70 : Nat → Hint
 | _ => ⟨[], [], []⟩
def F80 (a : Int) (b : Int) : Option (Int) := iteO (decide (a < b)) (some (-1)) (iteO (decide (a > b)) (some 1) (some 0))
@[push_cast] def ar70 : Rs (Int × Int) := rsC (rI .i64) (rsO (rI .i64))
@[push_cast] def v70 (r : Int) : AV := .int .i64 r
@[push_cast] def sh70 : Shp := .one (.leaf none)
noncomputable def t70 : List AV → Option AV := TL ar70.e fun x => bindO (F80 x.1 x.2) fun r => some (v70 r)
@[push_cast] def H43 : Nat → Hint
 | 0 => ⟨[2, 3, 56, 57], [], []⟩
 | 1 => ⟨[], [2, 3, 56, 57], []⟩
 | _ => ⟨[], [], []⟩
def F18_s1 (self43 : Node → Node → Option (Int)) (b : Node) (s8 : Unit) (i6 : Nat) (x7 : Node) : Option (Sum (Unit) (Int)) := bindO (atO b.kids (i6 : Int)) fun x9 => bindO (self43 x7 x9) fun r10 => iteO (r10 == 0) (some (.inl ())) (some (.inr r10))
def F18_f1  (s8 : Unit) : Option (Int) := some 0
def F18b (self43 : Node → Node → Option (Int)) (N : Nat) (a : Node) (b : Node) : Option (Int) := bindO (F78 a.op b.op) fun r1 => iteO (r1 == 0) (bindO (F78 a.sortf b.sortf) fun r2 => iteO (r2 == 0) (bindO (F79 a.name b.name) fun r3 => iteO (r3 == 0) (bindO (F80 a.num b.num) fun r4 => iteO (r4 == 0) (bindO (F78 (a.kids.length : Int) (b.kids.length : Int)) fun r5 => iteO (r5 == 0) (foldN (S := Unit) (F18_s1 self43 b) (F18_f1) N a.kids 0 ()) (some r5)) (some r4)) (some r3)) (some r2)) (some r1)
def F18 : Nat → Node → Node → Option (Int)
 | 0 => fun _ _ => none
 | N + 1 => fun a b => F18b (F18 N) N a b
@[push_cast] def ar43 : Rs (Node × Node) := rsC rNode (rsO rNode)
@[push_cast] def v43 (r : Int) : AV := .int .i64 r
@[push_cast] def sh43 : Shp := .one (.leaf none)
noncomputable def t43 (N : Nat) : List AV → Option AV := TL ar43.e fun x => bindO (F18 N x.1 x.2) fun r => some (v43 r)
noncomputable def ts43 (self43 : Node → Node → Option (Int)) : List AV → Option AV := TL ar43.e fun x => bindO (self43 x.1 x.2) fun r => some (v43 r)
@[push_cast] theorem t68_1 (z1 : Int) (z2 : Int) : t68 [.int .i64 z1, .int .i64 z2] = bindO (F78 z1 z2) fun r => some (v68 r) :=
 TL_hit ar68.inj (z1, z2) (by simp only [push_cast] <;> rfl)
@[push_cast] theorem t69_1 (z1 : ByteArray) (z2 : ByteArray) : t69 [.str z1, .str z2] = bindO (F79 z1 z2) fun r => some (v69 r) :=
 TL_hit ar69.inj (z1, z2) (by simp only [push_cast] <;> rfl)
@[push_cast] theorem t70_1 (z1 : Int) (z2 : Int) : t70 [.int .i64 z1, .int .i64 z2] = bindO (F80 z1 z2) fun r => some (v70 r) :=
 TL_hit ar70.inj (z1, z2) (by simp only [push_cast] <;> rfl)
@[push_cast] theorem t43_1 (self43 : Node → Node → Option (Int)) (z1 : Int) (z2 : Int) (z3 : ByteArray) (z4 : Int) (z5 : List Node) (z6 : Int) (z7 : Int) (z8 : ByteArray) (z9 : Int) (z10 : List Node) : ts43 self43 [.agg [.int .i64 z1, .int .i64 z2, .str z3, .int .i64 z4, .sl false 5 (List.map Node.cells z5)], .agg [.int .i64 z6, .int .i64 z7, .str z8, .int .i64 z9, .sl false 5 (List.map Node.cells z10)]] = bindO (self43 (⟨z1, z2, z3, z4, z5⟩ : Node) (⟨z6, z7, z8, z9, z10⟩ : Node)) fun r => some (v43 r) :=
 TL_hit ar43.inj ((⟨z1, z2, z3, z4, z5⟩ : Node), (⟨z6, z7, z8, z9, z10⟩ : Node)) (by simp only [push_cast] <;> rfl)
@[push_cast] def H30 : Nat → Hint
 | _ => ⟨[], [], []⟩
def F20 (N : Nat) (a : Node) (b : Node) : Option (Bool) := bindO (F18 N a b) fun r1 => some (r1 == 0)
@[push_cast] def ar30 : Rs (Node × Node) := rsC rNode (rsO rNode)
@[push_cast] def v30 (r : Bool) : AV := .bool r
@[push_cast] def sh30 : Shp := .one (.leaf none)
noncomputable def t30 (N : Nat) : List AV → Option AV := TL ar30.e fun x => bindO (F20 N x.1 x.2) fun r => some (v30 r)
@[push_cast] theorem t43_2 {N : Nat} (z1 : Int) (z2 : Int) (z3 : ByteArray) (z4 : Int) (z5 : List Node) (z6 : Int) (z7 : Int) (z8 : ByteArray) (z9 : Int) (z10 : List Node) : t43 N [.agg [.int .i64 z1, .int .i64 z2, .str z3, .int .i64 z4, .sl false 5 (List.map Node.cells z5)], .agg [.int .i64 z6, .int .i64 z7, .str z8, .int .i64 z9, .sl false 5 (List.map Node.cells z10)]] = bindO (F18 N (⟨z1, z2, z3, z4, z5⟩ : Node) (⟨z6, z7, z8, z9, z10⟩ : Node)) fun r => some (v43 r) :=
 TL_hit ar43.inj ((⟨z1, z2, z3, z4, z5⟩ : Node), (⟨z6, z7, z8, z9, z10⟩ : Node)) (by simp only [push_cast] <;> rfl)
@[push_cast] def H49 : Nat → Hint
 | _ => ⟨[], [], []⟩
def F1427 (N : Nat) (c : Cert) (kids : Int) (atom : Bool) (deriv : Bool) : Option (Bool) := iteO ((c.certKids.length : Int) == kids) (iteO atom (iteO deriv (some true) (iteO ((IntKind.i64.wrap ((IntKind.i64.wrap ((c.certDeriv.derivSteps.length : Int) + (c.certDeriv.derivKids.length : Int))) + (c.certDeriv.derivForm.linMonos.length : Int))) == 0) (iteO c.certDeriv.derivSplit (some false) (some (c.certDeriv.derivForm.linConst == 0))) (some false))) (bindO (F20 N c.certAtom (⟨0, 0, (⟨#[]⟩ : ByteArray), 0, []⟩ : Node)) fun r1 => iteO r1 (iteO deriv (some true) (iteO ((IntKind.i64.wrap ((IntKind.i64.wrap ((c.certDeriv.derivSteps.length : Int) + (c.certDeriv.derivKids.length : Int))) + (c.certDeriv.derivForm.linMonos.length : Int))) == 0) (iteO c.certDeriv.derivSplit (some false) (some (c.certDeriv.derivForm.linConst == 0))) (some false))) (some false))) (some false)
@[push_cast] def ar49 : Rs (Cert × Int × Bool × Bool) := rsC rCert (rsC (rI .i64) (rsC rB (rsO rB)))
@[push_cast] def v49 (r : Bool) : AV := .bool r
@[push_cast] def sh49 : Shp := .one (.leaf none)
noncomputable def t49 (N : Nat) : List AV → Option AV := TL ar49.e fun x => bindO (F1427 N x.1 x.2.1 x.2.2.1 x.2.2.2) fun r => some (v49 r)
@[push_cast] theorem t30_1 {N : Nat} (z1 : Int) (z2 : Int) (z3 : ByteArray) (z4 : Int) (z5 : List Node) (z6 : Int) (z7 : Int) (z8 : ByteArray) (z9 : Int) : t30 N [.agg [.int .i64 z1, .int .i64 z2, .str z3, .int .i64 z4, .sl false 5 (List.map Node.cells z5)], .agg [.int .i64 z6, .int .i64 z7, .str z8, .int .i64 z9, .sl true 5 []]] = bindO (F20 N (⟨z1, z2, z3, z4, z5⟩ : Node) (⟨z6, z7, z8, z9, []⟩ : Node)) fun r => some (v30 r) :=
 TL_hit ar30.inj ((⟨z1, z2, z3, z4, z5⟩ : Node), (⟨z6, z7, z8, z9, []⟩ : Node)) (by simp only [push_cast] <;> rfl)
@[push_cast] theorem t30_2 {N : Nat} (z1 : Int) (z2 : Int) (z3 : ByteArray) (z4 : Int) (z5 : List Node) (z6 : Int) (z7 : Int) (z8 : ByteArray) (z9 : Int) : t30 N [.agg [.int .i64 z1, .int .i64 z2, .str z3, .int .i64 z4, .sl false 5 (List.map Node.cells z5)], .agg [.int .i64 z6, .int .i64 z7, .str z8, .int .i64 z9, .sl false 5 []]] = bindO (F20 N (⟨z1, z2, z3, z4, z5⟩ : Node) (⟨z6, z7, z8, z9, []⟩ : Node)) fun r => some (v30 r) :=
 TL_hit ar30.inj ((⟨z1, z2, z3, z4, z5⟩ : Node), (⟨z6, z7, z8, z9, []⟩ : Node)) (by simp only [push_cast] <;> rfl)
@[push_cast] def H13 : Nat → Hint
 | _ => ⟨[], [], []⟩
def F1410 (op : Int) : Option (Bool) := iteO (op == 30) (some true) (iteO (op == 31) (some true) (iteO (op == 32) (some true) (iteO (op == 33) (some true) (iteO (op == 34) (some true) (iteO (op == 35) (some true) (iteO (op == 36) (some true) (some false)))))))
@[push_cast] def ar13 : Rs Int := rsO (rI .i64)
@[push_cast] def v13 (r : Bool) : AV := .bool r
@[push_cast] def sh13 : Shp := .one (.leaf none)
noncomputable def t13 : List AV → Option AV := TL ar13.e fun x => bindO (F1410 x) fun r => some (v13 r)
@[push_cast] def H31 : Nat → Hint
 | _ => ⟨[], [], []⟩
def F1420 (a : Int) : Option (Int) := iteO (decide (a < 0)) (some a) (some (IntKind.i64.wrap (1 - a)))
@[push_cast] def ar31 : Rs Int := rsO (rI .i64)
@[push_cast] def v31 (r : Int) : AV := .int .i64 r
@[push_cast] def sh31 : Shp := .one (.leaf none)
noncomputable def t31 : List AV → Option AV := TL ar31.e fun x => bindO (F1420 x) fun r => some (v31 r)
@[push_cast] def H32 : Nat → Hint
 | _ => ⟨[], [], []⟩
def F1421 (a : Int) (b : Int) : Option (Int) := iteO (a == 1) (some 1) (iteO (b == 1) (some 1) (iteO (decide (a < 0)) (some (-1)) (iteO (decide (b < 0)) (some (-1)) (some 0))))
@[push_cast] def ar32 : Rs (Int × Int) := rsC (rI .i64) (rsO (rI .i64))
@[push_cast] def v32 (r : Int) : AV := .int .i64 r
@[push_cast] def sh32 : Shp := .one (.leaf none)
noncomputable def t32 : List AV → Option AV := TL ar32.e fun x => bindO (F1421 x.1 x.2) fun r => some (v32 r)
@[push_cast] def H14 : Nat → Hint
 | 0 => ⟨[2, 3, 16, 17, 18], [], []⟩
 | 1 => ⟨[], [2, 3, 16, 17, 18], []⟩
 | 2 => ⟨[1, 2, 3, 9, 33, 34, 35], [3, 9], []⟩
 | 3 => ⟨[], [1, 2, 3, 9, 33, 34, 35], []⟩
 | 4 => ⟨[], [9], []⟩
 | _ => ⟨[], [], []⟩
def F1411_s2 (self14 : Node → (List Node) → (List Bool) → Option (Int)) (atoms : List Node) (truths : List Bool) (s9 : Int × Int) (i7 : Nat) (x8 : Node) : Option (Sum (Int × Int) (Int)) := bindO (self14 x8 atoms truths) fun r10 => iteO ((i7 : Int) == 0) (some (.inl (r10, s9.2))) (iteO ((i7 : Int) == 1) (some (.inl (s9.1, r10))) (none))
def F1411_f2 (n : Node) (s9 : Int × Int) : Option (Int) := iteO (n.op == 30) (some 1) (iteO (n.op == 31) (some 0) (iteO (n.op == 32) (bindO (F1420 s9.1) fun r11 => some r11) (iteO (n.op == 33) (bindO (F1420 s9.1) fun r12 => bindO (F1420 s9.2) fun r13 => bindO (F1421 r12 r13) fun r14 => bindO (F1420 r14) fun r15 => some r15) (iteO (n.op == 34) (bindO (F1421 s9.1 s9.2) fun r16 => some r16) (iteO (n.op == 35) (bindO (F1420 s9.1) fun r17 => bindO (F1421 r17 s9.2) fun r18 => some r18) (iteO (decide (s9.1 < 0)) (some (-1)) (iteO (decide (s9.2 < 0)) (some (-1)) (iteO (s9.1 == s9.2) (some 1) (some 0)))))))))
def F1411_s1 (N : Nat) (n : Node) (truths : List Bool) (s4 : Unit) (i2 : Nat) (x3 : Node) : Option (Sum (Unit) (Int)) := bindO (F20 N x3 n) fun r5 => iteO r5 (bindO (atO truths (i2 : Int)) fun x6 => iteO x6 (some (.inr 1)) (some (.inr 0))) (some (.inl ()))
def F1411_f1  (s4 : Unit) : Option (Int) := some (-1)
def F1411b (self14 : Node → (List Node) → (List Bool) → Option (Int)) (N : Nat) (n : Node) (atoms : List Node) (truths : List Bool) : Option (Int) := bindO (F1410 n.op) fun r1 => iteO r1 (foldN (S := Int × Int) (F1411_s2 self14 atoms truths) (F1411_f2 n) N n.kids 0 ((-1), (-1))) (foldN (S := Unit) (F1411_s1 N n truths) (F1411_f1) N atoms 0 ())
def F1411 : Nat → Node → (List Node) → (List Bool) → Option (Int)
 | 0 => fun _ _ _ => none
 | N + 1 => fun n atoms truths => F1411b (F1411 N) N n atoms truths
@[push_cast] def ar14 : Rs (Node × (List Node) × (List Bool)) := rsC rNode (rsC (rL 5 Node.cells Node.cells_inj) (rsO (rL 1 cB cB_inj)))
@[push_cast] def v14 (r : Int) : AV := .int .i64 r
@[push_cast] def sh14 : Shp := .one (.leaf none)
noncomputable def t14 (N : Nat) : List AV → Option AV := TL ar14.e fun x => bindO (F1411 N x.1 x.2.1 x.2.2) fun r => some (v14 r)
noncomputable def ts14 (self14 : Node → (List Node) → (List Bool) → Option (Int)) : List AV → Option AV := TL ar14.e fun x => bindO (self14 x.1 x.2.1 x.2.2) fun r => some (v14 r)
@[push_cast] theorem t13_1 (z1 : Int) : t13 [.int .i64 z1] = bindO (F1410 z1) fun r => some (v13 r) :=
 TL_hit ar13.inj z1 (by simp only [push_cast] <;> rfl)
@[push_cast] theorem t30_3 {N : Nat} (z1 : Int) (z2 : Int) (z3 : ByteArray) (z4 : Int) (z5 : List Node) (z6 : Int) (z7 : Int) (z8 : ByteArray) (z9 : Int) (z10 : List Node) : t30 N [.agg [.int .i64 z1, .int .i64 z2, .str z3, .int .i64 z4, .sl false 5 (List.map Node.cells z5)], .agg [.int .i64 z6, .int .i64 z7, .str z8, .int .i64 z9, .sl false 5 (List.map Node.cells z10)]] = bindO (F20 N (⟨z1, z2, z3, z4, z5⟩ : Node) (⟨z6, z7, z8, z9, z10⟩ : Node)) fun r => some (v30 r) :=
 TL_hit ar30.inj ((⟨z1, z2, z3, z4, z5⟩ : Node), (⟨z6, z7, z8, z9, z10⟩ : Node)) (by simp only [push_cast] <;> rfl)
@[push_cast] theorem t14_1 (self14 : Node → (List Node) → (List Bool) → Option (Int)) (z1 : Int) (z2 : Int) (z3 : ByteArray) (z4 : Int) (z5 : List Node) (z6 : List Node) (z7 : List Bool) : ts14 self14 [.agg [.int .i64 z1, .int .i64 z2, .str z3, .int .i64 z4, .sl false 5 (List.map Node.cells z5)], .sl false 5 (List.map Node.cells z6), .sl false 1 (List.map cB z7)] = bindO (self14 (⟨z1, z2, z3, z4, z5⟩ : Node) z6 z7) fun r => some (v14 r) :=
 TL_hit ar14.inj ((⟨z1, z2, z3, z4, z5⟩ : Node), z6, z7) (by simp only [push_cast] <;> rfl)
@[push_cast] theorem t31_1 (z1 : Int) : t31 [.int .i64 z1] = bindO (F1420 z1) fun r => some (v31 r) :=
 TL_hit ar31.inj z1 (by simp only [push_cast] <;> rfl)
@[push_cast] theorem t32_1 (z1 : Int) (z2 : Int) : t32 [.int .i64 z1, .int .i64 z2] = bindO (F1421 z1 z2) fun r => some (v32 r) :=
 TL_hit ar32.inj (z1, z2) (by simp only [push_cast] <;> rfl)
def ckB (k : Int) (n : Node) (c : Cert) : Bool := (n.op == k) && ((n.sortf == 0) && ((n.name.size == 0) && ((n.num == 0) && (n.kids.isEmpty && ((c.certKind == 3) && ((c.certAtom.op == 0) && ((c.certAtom.sortf == 0) && ((c.certAtom.name.size == 0) && ((c.certAtom.num == 0) && (c.certAtom.kids.isEmpty && (c.certDeriv.derivSteps.isEmpty && ((!c.certDeriv.derivSplit) && (c.certDeriv.derivForm.linMonos.isEmpty && ((c.certDeriv.derivForm.linConst == 0) && (c.certDeriv.derivKids.isEmpty && c.certKids.isEmpty)))))))))))))))
def F1409 (N : Nat) (goal : Node) (c : Cert) : Option (Bool × Int) := iteO (ckB 30 goal c) (some (true, 0)) (iteO (ckB 31 goal c) (some (false, 0)) none)
@[push_cast] def ar11 : Rs (Node × Cert) := rsC rNode (rsO rCert)
@[push_cast] def v11 (r : Bool × Int) : AV := .tuple [.bool r.1, .int .i64 r.2]
noncomputable def t11 (N : Nat) : List AV → Option AV := TL ar11.e fun x => bindO (F1409 N x.1 x.2) fun r => some (v11 r)
@[push_cast] theorem t12_1 {N : Nat} (z1 : Int) (z2 : Int) (z3 : ByteArray) (z4 : Int) (z5 : List Node) (z6 : Int) : t12 N [.agg [.int .i64 z1, .int .i64 z2, .str z3, .int .i64 z4, .sl false 5 (List.map Node.cells z5)], .int .i64 z6] = bindO (F14 N (⟨z1, z2, z3, z4, z5⟩ : Node) z6) fun r => some (v12 r) :=
 TL_hit ar12.inj ((⟨z1, z2, z3, z4, z5⟩ : Node), z6) (by simp only [push_cast] <;> rfl)
@[push_cast] theorem t22_1 (z1 : Int) (z2 : Int) (z3 : ByteArray) (z4 : Int) (z5 : List Node) : t22 [.agg [.int .i64 z1, .int .i64 z2, .str z3, .int .i64 z4, .sl false 5 (List.map Node.cells z5)]] = bindO (F42 (⟨z1, z2, z3, z4, z5⟩ : Node)) fun r => some (v22 r) :=
 TL_hit ar22.inj (⟨z1, z2, z3, z4, z5⟩ : Node) (by simp only [push_cast] <;> rfl)
@[push_cast] theorem t23_2 {N : Nat} (z1 : Int) (z2 : Int) (z3 : Int) (z4 : ByteArray) (z5 : Int) (z6 : List Node) (z7 : List (List Mult)) (z8 : Bool) (z9 : List Mono) (z10 : Int) (z11 : List Deriv) (z12 : List Cert) : t23 N [.agg [.int .i64 z1, .int .i64 z2, .int .i64 z3, .str z4, .int .i64 z5, .sl false 5 (List.map Node.cells z6), .sl false 1 (List.map (cL 2 Mult.cells) z7), .bool z8, .sl false 6 (List.map Mono.cells z9), .int .i64 z10, .sl false 5 (List.map Deriv.cells z11), .sl false 12 (List.map Cert.cells z12)]] = bindO (F1417 N (⟨z1, (⟨z2, z3, z4, z5, z6⟩ : Node), (⟨z7, z8, (⟨z9, z10⟩ : Lin), z11⟩ : Deriv), z12⟩ : Cert)) fun r => some (v23 r) :=
 TL_hit ar23.inj (⟨z1, (⟨z2, z3, z4, z5, z6⟩ : Node), (⟨z7, z8, (⟨z9, z10⟩ : Lin), z11⟩ : Deriv), z12⟩ : Cert) (by simp only [push_cast] <;> rfl)
@[push_cast] theorem t24_2 {N : Nat} (z1 : Int) (z2 : Int) (z3 : Int) (z4 : ByteArray) (z5 : Int) (z6 : List Node) (z7 : List (List Mult)) (z8 : Bool) (z9 : List Mono) (z10 : Int) (z11 : List Deriv) (z12 : List Cert) : t24 N [.agg [.int .i64 z1, .int .i64 z2, .int .i64 z3, .str z4, .int .i64 z5, .sl false 5 (List.map Node.cells z6), .sl false 1 (List.map (cL 2 Mult.cells) z7), .bool z8, .sl false 6 (List.map Mono.cells z9), .int .i64 z10, .sl false 5 (List.map Deriv.cells z11), .sl false 12 (List.map Cert.cells z12)]] = bindO (F1418 N (⟨z1, (⟨z2, z3, z4, z5, z6⟩ : Node), (⟨z7, z8, (⟨z9, z10⟩ : Lin), z11⟩ : Deriv), z12⟩ : Cert)) fun r => some (v24 r) :=
 TL_hit ar24.inj (⟨z1, (⟨z2, z3, z4, z5, z6⟩ : Node), (⟨z7, z8, (⟨z9, z10⟩ : Lin), z11⟩ : Deriv), z12⟩ : Cert) (by simp only [push_cast] <;> rfl)
@[push_cast] theorem t49_1 {N : Nat} (z1 : Int) (z2 : Int) (z3 : Int) (z4 : ByteArray) (z5 : Int) (z6 : List Node) (z7 : List (List Mult)) (z8 : Bool) (z9 : List Mono) (z10 : Int) (z11 : List Deriv) (z12 : List Cert) (z13 : Int) (z14 : Bool) (z15 : Bool) : t49 N [.agg [.int .i64 z1, .int .i64 z2, .int .i64 z3, .str z4, .int .i64 z5, .sl false 5 (List.map Node.cells z6), .sl false 1 (List.map (cL 2 Mult.cells) z7), .bool z8, .sl false 6 (List.map Mono.cells z9), .int .i64 z10, .sl false 5 (List.map Deriv.cells z11), .sl false 12 (List.map Cert.cells z12)], .int .i64 z13, .bool z14, .bool z15] = bindO (F1427 N (⟨z1, (⟨z2, z3, z4, z5, z6⟩ : Node), (⟨z7, z8, (⟨z9, z10⟩ : Lin), z11⟩ : Deriv), z12⟩ : Cert) z13 z14 z15) fun r => some (v49 r) :=
 TL_hit ar49.inj ((⟨z1, (⟨z2, z3, z4, z5, z6⟩ : Node), (⟨z7, z8, (⟨z9, z10⟩ : Lin), z11⟩ : Deriv), z12⟩ : Cert), z13, z14, z15) (by simp only [push_cast] <;> rfl)
@[push_cast] theorem t14_2 {N : Nat} (z1 : Int) (z2 : Int) (z3 : ByteArray) (z4 : Int) (z5 : List Node) : t14 N [.agg [.int .i64 z1, .int .i64 z2, .str z3, .int .i64 z4, .sl false 5 (List.map Node.cells z5)], .sl true 0 [], .sl true 0 []] = bindO (F1411 N (⟨z1, z2, z3, z4, z5⟩ : Node) ([]) ([])) fun r => some (v14 r) :=
 TL_hit ar14.inj ((⟨z1, z2, z3, z4, z5⟩ : Node), [], []) (by simp only [push_cast] <;> rfl)
@[push_cast] theorem t14_3 {N : Nat} (z1 : Int) (z2 : Int) (z3 : ByteArray) (z4 : Int) (z5 : List Node) : t14 N [.agg [.int .i64 z1, .int .i64 z2, .str z3, .int .i64 z4, .sl false 5 (List.map Node.cells z5)], .sl false 0 [], .sl false 0 []] = bindO (F1411 N (⟨z1, z2, z3, z4, z5⟩ : Node) ([]) ([])) fun r => some (v14 r) :=
 TL_hit ar14.inj ((⟨z1, z2, z3, z4, z5⟩ : Node), [], []) (by simp only [push_cast] <;> rfl)
@[push_cast] def H4 : Nat → Hint
 | _ => ⟨[], [], []⟩
def F1403 (N : Nat) : Option (Bool) := bindO (F1409 N (⟨30, 0, (⟨#[]⟩ : ByteArray), 0, []⟩ : Node) (⟨3, (⟨0, 0, (⟨#[]⟩ : ByteArray), 0, []⟩ : Node), (⟨[], false, (⟨[], 0⟩ : Lin), []⟩ : Deriv), []⟩ : Cert)) fun r1 => bindO (F1409 N (⟨31, 0, (⟨#[]⟩ : ByteArray), 0, []⟩ : Node) (⟨3, (⟨0, 0, (⟨#[]⟩ : ByteArray), 0, []⟩ : Node), (⟨[], false, (⟨[], 0⟩ : Lin), []⟩ : Deriv), []⟩ : Cert)) fun r2 => iteO r1.1 (iteO (r1.2 == 0) (iteO r2.1 (some false) (some (r2.2 == 0))) (some false)) (some false)
@[push_cast] def ar4 : Rs Unit := rsN
@[push_cast] def v4 (r : Bool) : AV := .bool r
@[push_cast] def sh4 : Shp := .one (.leaf none)
noncomputable def t4 (N : Nat) : List AV → Option AV := TL ar4.e fun x => bindO (F1403 N) fun r => some (v4 r)
@[push_cast] theorem t11_1 {N : Nat} (z1 : Int) (z2 : Int) (z3 : ByteArray) (z4 : Int) (z6 : Int) (z7 : Int) (z8 : Int) (z9 : ByteArray) (z10 : Int) (z13 : Bool) (z15 : Int) : t11 N [.agg [.int .i64 z1, .int .i64 z2, .str z3, .int .i64 z4, .sl true 5 []], .agg [.int .i64 z6, .int .i64 z7, .int .i64 z8, .str z9, .int .i64 z10, .sl true 5 [], .sl true 1 [], .bool z13, .sl true 6 [], .int .i64 z15, .sl true 5 [], .sl true 12 []]] = bindO (F1409 N (⟨z1, z2, z3, z4, []⟩ : Node) (⟨z6, (⟨z7, z8, z9, z10, []⟩ : Node), (⟨[], z13, (⟨[], z15⟩ : Lin), []⟩ : Deriv), []⟩ : Cert)) fun r => some (v11 r) :=
 TL_hit ar11.inj ((⟨z1, z2, z3, z4, []⟩ : Node), (⟨z6, (⟨z7, z8, z9, z10, []⟩ : Node), (⟨[], z13, (⟨[], z15⟩ : Lin), []⟩ : Deriv), []⟩ : Cert)) (by simp only [push_cast] <;> rfl)
@[push_cast] theorem t11_2 {N : Nat} (z1 : Int) (z2 : Int) (z3 : ByteArray) (z4 : Int) (z6 : Int) (z7 : Int) (z8 : Int) (z9 : ByteArray) (z10 : Int) (z13 : Bool) (z15 : Int) : t11 N [.agg [.int .i64 z1, .int .i64 z2, .str z3, .int .i64 z4, .sl false 5 []], .agg [.int .i64 z6, .int .i64 z7, .int .i64 z8, .str z9, .int .i64 z10, .sl false 5 [], .sl false 1 [], .bool z13, .sl false 6 [], .int .i64 z15, .sl false 5 [], .sl false 12 []]] = bindO (F1409 N (⟨z1, z2, z3, z4, []⟩ : Node) (⟨z6, (⟨z7, z8, z9, z10, []⟩ : Node), (⟨[], z13, (⟨[], z15⟩ : Lin), []⟩ : Deriv), []⟩ : Cert)) fun r => some (v11 r) :=
 TL_hit ar11.inj ((⟨z1, z2, z3, z4, []⟩ : Node), (⟨z6, (⟨z7, z8, z9, z10, []⟩ : Node), (⟨[], z13, (⟨[], z15⟩ : Lin), []⟩ : Deriv), []⟩ : Cert)) (by simp only [push_cast] <;> rfl)
@[push_cast] def H5 : Nat → Hint
 | 0 => ⟨[3, 7, 8, 9], [3], []⟩
 | 1 => ⟨[], [3, 7, 8, 9], []⟩
 | _ => ⟨[], [], []⟩
def F27_s1 (self5 : Node → Option (Int)) (s3 : Int) (i1 : Nat) (x2 : Node) : Option (Sum (Int) (Int)) := bindO (self5 x2) fun r4 => some (.inl (IntKind.i64.wrap (s3 + r4)))
def F27_f1  (s3 : Int) : Option (Int) := some s3
def F27b (self5 : Node → Option (Int)) (N : Nat) (n : Node) : Option (Int) := foldN (S := Int) (F27_s1 self5) (F27_f1) N n.kids 0 1
def F27 : Nat → Node → Option (Int)
 | 0 => fun _ => none
 | N + 1 => fun n => F27b (F27 N) N n
@[push_cast] def ar5 : Rs Node := rsO rNode
@[push_cast] def v5 (r : Int) : AV := .int .i64 r
@[push_cast] def sh5 : Shp := .one (.leaf none)
noncomputable def t5 (N : Nat) : List AV → Option AV := TL ar5.e fun x => bindO (F27 N x) fun r => some (v5 r)
noncomputable def ts5 (self5 : Node → Option (Int)) : List AV → Option AV := TL ar5.e fun x => bindO (self5 x) fun r => some (v5 r)
@[push_cast] theorem t5_1 (self5 : Node → Option (Int)) (z1 : Int) (z2 : Int) (z3 : ByteArray) (z4 : Int) (z5 : List Node) : ts5 self5 [.agg [.int .i64 z1, .int .i64 z2, .str z3, .int .i64 z4, .sl false 5 (List.map Node.cells z5)]] = bindO (self5 (⟨z1, z2, z3, z4, z5⟩ : Node)) fun r => some (v5 r) :=
 TL_hit ar5.inj (⟨z1, z2, z3, z4, z5⟩ : Node) (by simp only [push_cast] <;> rfl)
@[push_cast] def H6 : Nat → Hint
 | 0 => ⟨[1, 2, 3, 21, 22, 23], [1, 2, 3], []⟩
 | 1 => ⟨[], [1, 2, 3, 21, 22, 23], []⟩
 | _ => ⟨[], [], []⟩
def F1404_s1 (N : Nat) (s4 : Unit) (i2 : Nat) (x3 : Node) : Option (Sum (Unit) (Int × Int)) := bindO (F1410 x3.op) fun r5 => iteO r5 (some (.inr (0, 3))) (bindO (F14 N x3 2) fun r6 => iteO (r6 == 0) (some (.inl ())) (some (.inr (0, 3))))
def F1404_f1 (N : Nat) (atoms : List Node) (n : Node) (truths : List Bool) (s4 : Unit) : Option (Int × Int) := bindO (F1411 N n atoms truths) fun r7 => some (r7, 0)
def F1404 (N : Nat) (n : Node) (atoms : List Node) (truths : List Bool) : Option (Int × Int) := bindO (F14 N n 2) fun r1 => iteO (r1 == 0) (iteO ((atoms.length : Int) == (truths.length : Int)) (foldN (S := Unit) (F1404_s1 N) (F1404_f1 N atoms n truths) N atoms 0 ()) (some (0, 3))) (some (0, r1))
@[push_cast] def ar6 : Rs (Node × (List Node) × (List Bool)) := rsC rNode (rsC (rL 5 Node.cells Node.cells_inj) (rsO (rL 1 cB cB_inj)))
@[push_cast] def v6 (r : Int × Int) : AV := .tuple [.int .i64 r.1, .int .i64 r.2]
@[push_cast] def sh6 : Shp := .tup [.leaf none, .leaf none]
noncomputable def t6 (N : Nat) : List AV → Option AV := TL ar6.e fun x => bindO (F1404 N x.1 x.2.1 x.2.2) fun r => some (v6 r)
@[push_cast] theorem t14_4 {N : Nat} (z1 : Int) (z2 : Int) (z3 : ByteArray) (z4 : Int) (z5 : List Node) (z6 : List Node) (z7 : List Bool) : t14 N [.agg [.int .i64 z1, .int .i64 z2, .str z3, .int .i64 z4, .sl false 5 (List.map Node.cells z5)], .sl false 5 (List.map Node.cells z6), .sl false 1 (List.map cB z7)] = bindO (F1411 N (⟨z1, z2, z3, z4, z5⟩ : Node) z6 z7) fun r => some (v14 r) :=
 TL_hit ar14.inj ((⟨z1, z2, z3, z4, z5⟩ : Node), z6, z7) (by simp only [push_cast] <;> rfl)
@[push_cast] def H33 : Nat → Hint
 | 0 => ⟨[3, 7, 8, 9], [3], []⟩
 | 1 => ⟨[], [3, 7, 8, 9], []⟩
 | _ => ⟨[], [], []⟩
def F39_s1 (self33 : Node → Option (Int)) (s3 : Int) (i1 : Nat) (x2 : Node) : Option (Sum (Int) (Int)) := bindO (self33 x2) fun r4 => some (.inl (max s3 r4))
def F39_f1  (s3 : Int) : Option (Int) := some (IntKind.i64.wrap (s3 + 1))
def F39b (self33 : Node → Option (Int)) (N : Nat) (n : Node) : Option (Int) := foldN (S := Int) (F39_s1 self33) (F39_f1) N n.kids 0 0
def F39 : Nat → Node → Option (Int)
 | 0 => fun _ => none
 | N + 1 => fun n => F39b (F39 N) N n
@[push_cast] def ar33 : Rs Node := rsO rNode
@[push_cast] def v33 (r : Int) : AV := .int .i64 r
@[push_cast] def sh33 : Shp := .one (.leaf none)
noncomputable def t33 (N : Nat) : List AV → Option AV := TL ar33.e fun x => bindO (F39 N x) fun r => some (v33 r)
noncomputable def ts33 (self33 : Node → Option (Int)) : List AV → Option AV := TL ar33.e fun x => bindO (self33 x) fun r => some (v33 r)
@[push_cast] theorem t33_1 (self33 : Node → Option (Int)) (z1 : Int) (z2 : Int) (z3 : ByteArray) (z4 : Int) (z5 : List Node) : ts33 self33 [.agg [.int .i64 z1, .int .i64 z2, .str z3, .int .i64 z4, .sl false 5 (List.map Node.cells z5)]] = bindO (self33 (⟨z1, z2, z3, z4, z5⟩ : Node)) fun r => some (v33 r) :=
 TL_hit ar33.inj (⟨z1, z2, z3, z4, z5⟩ : Node) (by simp only [push_cast] <;> rfl)
@[push_cast] def H129 : Nat → Hint
 | _ => ⟨[], [], []⟩
def F75 (c : Int) : Option (Bool) := iteO (decide (c ≥ 97)) (iteO (decide (c ≤ 122)) (some true) (iteO (decide (c ≥ 65)) (some (decide (c ≤ 90))) (some false))) (iteO (decide (c ≥ 65)) (some (decide (c ≤ 90))) (some false))
@[push_cast] def ar129 : Rs Int := rsO (rI .u8)
@[push_cast] def v129 (r : Bool) : AV := .bool r
@[push_cast] def sh129 : Shp := .one (.leaf none)
noncomputable def t129 : List AV → Option AV := TL ar129.e fun x => bindO (F75 x) fun r => some (v129 r)
@[push_cast] def H152 : Nat → Hint
 | _ => ⟨[], [], []⟩
def F121  : Option (List ByteArray) := some ([(⟨#[116, 114, 117, 101]⟩ : ByteArray), (⟨#[102, 97, 108, 115, 101]⟩ : ByteArray), (⟨#[105, 110]⟩ : ByteArray), (⟨#[115, 117, 98]⟩ : ByteArray), (⟨#[101, 109, 112, 116, 121]⟩ : ByteArray), (⟨#[115, 105, 110, 103]⟩ : ByteArray), (⟨#[99, 117, 112]⟩ : ByteArray), (⟨#[99, 97, 112]⟩ : ByteArray), (⟨#[100, 105, 102, 102]⟩ : ByteArray), (⟨#[115, 101, 108]⟩ : ByteArray), (⟨#[115, 116, 111]⟩ : ByteArray), (⟨#[118, 108, 101, 110]⟩ : ByteArray), (⟨#[105, 116, 101]⟩ : ByteArray)])
@[push_cast] def ar152 : Rs Unit := rsN
@[push_cast] def v152 (r : List ByteArray) : AV := .sl false 1 (List.map cS r)
@[push_cast] def sh152 : Shp := .one (.leaf (some 1))
noncomputable def t152 : List AV → Option AV := TL ar152.e fun x => bindO (F121) fun r => some (v152 r)
@[push_cast] def H130 : Nat → Hint
 | 0 => ⟨[0, 5, 6, 7], [], []⟩
 | 1 => ⟨[], [0, 5, 6, 7], []⟩
 | _ => ⟨[], [], []⟩
def F76_s1 (s : ByteArray) (s4 : Unit) (i2 : Nat) (x3 : ByteArray) : Option (Sum (Unit) (Bool)) := iteO (x3.toList == s.toList) (some (.inr true)) (some (.inl ()))
def F76_f1  (s4 : Unit) : Option (Bool) := some false
def F76 (N : Nat) (s : ByteArray) : Option (Bool) := bindO (F121) fun r1 => foldN (S := Unit) (F76_s1 s) (F76_f1) N r1 0 ()
@[push_cast] def ar130 : Rs ByteArray := rsO rS
@[push_cast] def v130 (r : Bool) : AV := .bool r
@[push_cast] def sh130 : Shp := .one (.leaf none)
noncomputable def t130 (N : Nat) : List AV → Option AV := TL ar130.e fun x => bindO (F76 N x) fun r => some (v130 r)
@[push_cast] theorem t152_1  : t152 [] = bindO (F121) fun r => some (v152 r) :=
 TL_hit ar152.inj () (by simp only [push_cast] <;> rfl)
@[push_cast] def H131 : Nat → Hint
 | _ => ⟨[], [], []⟩
def F77 (c : Int) : Option (Bool) := iteO (decide (c ≥ 48)) (some (decide (c ≤ 57))) (some false)
@[push_cast] def ar131 : Rs Int := rsO (rI .u8)
@[push_cast] def v131 (r : Bool) : AV := .bool r
@[push_cast] def sh131 : Shp := .one (.leaf none)
noncomputable def t131 : List AV → Option AV := TL ar131.e fun x => bindO (F77 x) fun r => some (v131 r)
@[push_cast] def H98 : Nat → Hint
 | 0 => ⟨[0, 3], [], []⟩
 | 1 => ⟨[], [0, 3], []⟩
 | _ => ⟨[], [], []⟩
def F17_s1 (s : ByteArray) (s3 : Int) : Option (Sum (Int) (Bool)) := iteO (decide (s3 < (s.size : Int))) (iteO (inB s3 s.size) (bindO (F75 (bt s s3)) fun r4 => iteO r4 (some (.inl (IntKind.i64.wrap (s3 + 1)))) (bindO (F77 (bt s s3)) fun r5 => iteO r5 (some (.inl (IntKind.i64.wrap (s3 + 1)))) (iteO ((bt s s3) == 46) (some (.inl (IntKind.i64.wrap (s3 + 1)))) (some (.inr false))))) (none)) (some (.inr true))
def F17 (N : Nat) (s : ByteArray) : Option (Bool) := iteO ((s.size : Int) == 0) (some false) (iteO (decide ((s.size : Int) > 24)) (some false) (iteO (inB 0 s.size) (bindO (F75 (bt s 0)) fun r1 => iteO r1 (bindO (F76 N s) fun r2 => iteO r2 (some false) (whileN (S := Int) (F17_s1 s) N 1)) (some false)) (none)))
@[push_cast] def ar98 : Rs ByteArray := rsO rS
@[push_cast] def v98 (r : Bool) : AV := .bool r
@[push_cast] def sh98 : Shp := .one (.leaf none)
noncomputable def t98 (N : Nat) : List AV → Option AV := TL ar98.e fun x => bindO (F17 N x) fun r => some (v98 r)
@[push_cast] theorem t129_1 (z1 : Int) : t129 [.int .u8 z1] = bindO (F75 z1) fun r => some (v129 r) :=
 TL_hit ar129.inj z1 (by simp only [push_cast] <;> rfl)
@[push_cast] theorem t130_1 {N : Nat} (z1 : ByteArray) : t130 N [.str z1] = bindO (F76 N z1) fun r => some (v130 r) :=
 TL_hit ar130.inj z1 (by simp only [push_cast] <;> rfl)
@[push_cast] theorem t131_1 (z1 : Int) : t131 [.int .u8 z1] = bindO (F77 z1) fun r => some (v131 r) :=
 TL_hit ar131.inj z1 (by simp only [push_cast] <;> rfl)
@[push_cast] def H62 : Nat → Hint
 | 0 => ⟨[], [1], []⟩
 | _ => ⟨[], [], []⟩
def F118 (N : Nat) (n : Node) : Option (Bool) := iteO (n.op == 1) (bindO (F17 N n.name) fun r2 => iteO r2 (iteO (decide (n.sortf < 1)) (some false) (iteO (decide (n.sortf > 5)) (some false) (iteO (n.op == 2) (iteO (decide (n.num ≥ (-1000000000000))) (some (decide (n.num ≤ 1000000000000))) (some false)) (iteO (n.op == 7) (iteO (decide (n.num ≥ (-1000000000000))) (some (decide (n.num ≤ 1000000000000))) (some false)) (iteO (n.op == 42) (iteO (decide (n.num ≥ 0)) (some (decide (n.num < 200))) (some false)) (some (n.num == 0))))))) (some false)) (iteO (n.op == 3) (bindO (F17 N n.name) fun r1 => iteO r1 (iteO (decide (n.sortf < 1)) (some false) (iteO (decide (n.sortf > 5)) (some false) (iteO (n.op == 2) (iteO (decide (n.num ≥ (-1000000000000))) (some (decide (n.num ≤ 1000000000000))) (some false)) (iteO (n.op == 7) (iteO (decide (n.num ≥ (-1000000000000))) (some (decide (n.num ≤ 1000000000000))) (some false)) (iteO (n.op == 42) (iteO (decide (n.num ≥ 0)) (some (decide (n.num < 200))) (some false)) (some (n.num == 0))))))) (some false)) (iteO (n.name.toList == (⟨#[]⟩ : ByteArray).toList) (iteO (n.sortf == 0) (iteO (n.op == 2) (iteO (decide (n.num ≥ (-1000000000000))) (some (decide (n.num ≤ 1000000000000))) (some false)) (iteO (n.op == 7) (iteO (decide (n.num ≥ (-1000000000000))) (some (decide (n.num ≤ 1000000000000))) (some false)) (iteO (n.op == 42) (iteO (decide (n.num ≥ 0)) (some (decide (n.num < 200))) (some false)) (some (n.num == 0))))) (some false)) (some false)))
@[push_cast] def ar62 : Rs Node := rsO rNode
@[push_cast] def v62 (r : Bool) : AV := .bool r
@[push_cast] def sh62 : Shp := .one (.leaf none)
noncomputable def t62 (N : Nat) : List AV → Option AV := TL ar62.e fun x => bindO (F118 N x) fun r => some (v62 r)
@[push_cast] theorem t98_1 {N : Nat} (z1 : ByteArray) : t98 N [.str z1] = bindO (F17 N z1) fun r => some (v98 r) :=
 TL_hit ar98.inj z1 (by simp only [push_cast] <;> rfl)
@[push_cast] def H36 : Nat → Hint
 | 0 => ⟨[], [1], []⟩
 | _ => ⟨[], [], []⟩
def F28b (self36 : Node → Option (Int)) (N : Nat) (n : Node) : Option (Int) := iteO (n.op == 1) (some n.sortf) (iteO (n.op == 3) (some n.sortf) (iteO (n.op == 2) (some 1) (iteO (n.op == 4) (some 1) (iteO (n.op == 5) (some 1) (iteO (n.op == 6) (some 1) (iteO (n.op == 7) (some 1) (iteO (n.op == 14) (some 1) (iteO (n.op == 16) (some 1) (iteO (n.op == 8) (iteO (decide ((n.kids.length : Int) < 2)) (some 0) (bindO (atO n.kids 1) fun x1 => bindO (self36 x1) fun r2 => some r2)) (iteO (n.op == 9) (some 4) (iteO (n.op == 10) (some 4) (iteO (n.op == 11) (some 4) (iteO (n.op == 12) (some 4) (iteO (n.op == 13) (some 4) (iteO (n.op == 15) (some 5) (iteO (decide (n.op ≥ 30)) (iteO (decide (n.op ≤ 42)) (some 2) (some 0)) (some 0)))))))))))))))))
def F28 : Nat → Node → Option (Int)
 | 0 => fun _ => none
 | N + 1 => fun n => F28b (F28 N) N n
@[push_cast] def ar36 : Rs Node := rsO rNode
@[push_cast] def v36 (r : Int) : AV := .int .i64 r
@[push_cast] def sh36 : Shp := .one (.leaf none)
noncomputable def t36 (N : Nat) : List AV → Option AV := TL ar36.e fun x => bindO (F28 N x) fun r => some (v36 r)
noncomputable def ts36 (self36 : Node → Option (Int)) : List AV → Option AV := TL ar36.e fun x => bindO (self36 x) fun r => some (v36 r)
@[push_cast] theorem t36_1 (self36 : Node → Option (Int)) (z1 : Int) (z2 : Int) (z3 : ByteArray) (z4 : Int) (z5 : List Node) : ts36 self36 [.agg [.int .i64 z1, .int .i64 z2, .str z3, .int .i64 z4, .sl false 5 (List.map Node.cells z5)]] = bindO (self36 (⟨z1, z2, z3, z4, z5⟩ : Node)) fun r => some (v36 r) :=
 TL_hit ar36.inj (⟨z1, z2, z3, z4, z5⟩ : Node) (by simp only [push_cast] <;> rfl)
@[push_cast] def H63 : Nat → Hint
 | _ => ⟨[], [], []⟩
def F119 (s : Int) : Option (Bool) := iteO (s == 1) (some true) (iteO (s == 3) (some true) (iteO (s == 4) (some true) (some (s == 5))))
@[push_cast] def ar63 : Rs Int := rsO (rI .i64)
@[push_cast] def v63 (r : Bool) : AV := .bool r
@[push_cast] def sh63 : Shp := .one (.leaf none)
noncomputable def t63 : List AV → Option AV := TL ar63.e fun x => bindO (F119 x) fun r => some (v63 r)
@[push_cast] def H64 : Nat → Hint
 | _ => ⟨[], [], []⟩
def F120 (op : Int) : Option ((List Int) × Bool) := iteO (op == 1) (some ([], true)) (iteO (op == 2) (some ([], true)) (iteO (op == 9) (some ([], true)) (iteO (op == 30) (some ([], true)) (iteO (op == 31) (some ([], true)) (iteO (op == 6) (some ([1], true)) (iteO (op == 7) (some ([1], true)) (iteO (op == 10) (some ([1], true)) (iteO (op == 4) (some ([1, 1], true)) (iteO (op == 5) (some ([1, 1], true)) (iteO (op == 38) (some ([1, 1], true)) (iteO (op == 39) (some ([1, 1], true)) (iteO (op == 11) (some ([4, 4], true)) (iteO (op == 12) (some ([4, 4], true)) (iteO (op == 13) (some ([4, 4], true)) (iteO (op == 41) (some ([4, 4], true)) (iteO (op == 40) (some ([1, 4], true)) (iteO (op == 14) (some ([5, 1], true)) (iteO (op == 15) (some ([5, 1, 1], true)) (iteO (op == 16) (some ([5], true)) (iteO (op == 32) (some ([2], true)) (iteO (op == 33) (some ([2, 2], true)) (iteO (op == 34) (some ([2, 2], true)) (iteO (op == 35) (some ([2, 2], true)) (iteO (op == 36) (some ([2, 2], true)) (some ([], false))))))))))))))))))))))))))
@[push_cast] def ar64 : Rs Int := rsO (rI .i64)
@[push_cast] def v64 (r : (List Int) × Bool) : AV := .tuple [.sl false 1 (List.map (cI .i64) r.1), .bool r.2]
@[push_cast] def sh64 : Shp := .tup [.leaf (some 1), .leaf none]
noncomputable def t64 : List AV → Option AV := TL ar64.e fun x => bindO (F120 x) fun r => some (v64 r)
@[push_cast] def H34 : Nat → Hint
 | 0 => ⟨[1, 13, 14, 15], [1], []⟩
 | 1 => ⟨[], [1, 13, 14, 15], []⟩
 | 2 => ⟨[], [1], []⟩
 | 3 => ⟨[1, 121, 122, 123], [], []⟩
 | 4 => ⟨[], [1, 121, 122, 123], []⟩
 | _ => ⟨[], [], []⟩
def F72_s1 (self34 : Node → Option (Bool)) (s4 : Unit) (i2 : Nat) (x3 : Node) : Option (Sum (Unit) (Bool)) := bindO (self34 x3) fun r5 => iteO r5 (some (.inl ())) (some (.inr false))
def F72_s2 (N : Nat) (n : Node) (s23 : Unit) (i21 : Nat) (x22 : Int) : Option (Sum (Unit) (Bool)) := bindO (atO n.kids (i21 : Int)) fun x24 => bindO (F28 N x24) fun r25 => iteO (r25 == x22) (some (.inl ())) (some (.inr false))
def F72_f2  (s23 : Unit) : Option (Bool) := some true
def F72_f1 (N : Nat) (n : Node) (s4 : Unit) : Option (Bool) := iteO (n.op == 3) (some (decide ((n.kids.length : Int) ≤ 8))) (iteO (n.op == 42) (iteO (decide ((n.kids.length : Int) ≥ 1)) (some (decide ((n.kids.length : Int) ≤ 40))) (some false)) (iteO (n.op == 37) (iteO ((n.kids.length : Int) == 2) (bindO (atO n.kids 0) fun x6 => bindO (F28 N x6) fun r7 => bindO (atO n.kids 1) fun x8 => bindO (F28 N x8) fun r9 => iteO (r7 == r9) (bindO (F28 N x6) fun r10 => bindO (F119 r10) fun r11 => some r11) (some false)) (some false)) (iteO (n.op == 8) (iteO ((n.kids.length : Int) == 3) (bindO (atO n.kids 0) fun x12 => bindO (F28 N x12) fun r13 => iteO (r13 == 2) (bindO (atO n.kids 1) fun x14 => bindO (F28 N x14) fun r15 => bindO (atO n.kids 2) fun x16 => bindO (F28 N x16) fun r17 => iteO (r15 == r17) (bindO (F28 N x14) fun r18 => bindO (F119 r18) fun r19 => some r19) (some false)) (some false)) (some false)) (bindO (F120 n.op) fun r20 => iteO r20.2 (iteO ((r20.1.length : Int) == (n.kids.length : Int)) (foldN (S := Unit) (F72_s2 N n) (F72_f2) N r20.1 0 ()) (some false)) (some false)))))
def F72b (self34 : Node → Option (Bool)) (N : Nat) (n : Node) : Option (Bool) := bindO (F118 N n) fun r1 => iteO r1 (foldN (S := Unit) (F72_s1 self34) (F72_f1 N n) N n.kids 0 ()) (some false)
def F72 : Nat → Node → Option (Bool)
 | 0 => fun _ => none
 | N + 1 => fun n => F72b (F72 N) N n
@[push_cast] def ar34 : Rs Node := rsO rNode
@[push_cast] def v34 (r : Bool) : AV := .bool r
@[push_cast] def sh34 : Shp := .one (.leaf none)
noncomputable def t34 (N : Nat) : List AV → Option AV := TL ar34.e fun x => bindO (F72 N x) fun r => some (v34 r)
noncomputable def ts34 (self34 : Node → Option (Bool)) : List AV → Option AV := TL ar34.e fun x => bindO (self34 x) fun r => some (v34 r)
@[push_cast] theorem t62_1 {N : Nat} (z1 : Int) (z2 : Int) (z3 : ByteArray) (z4 : Int) (z5 : List Node) : t62 N [.agg [.int .i64 z1, .int .i64 z2, .str z3, .int .i64 z4, .sl false 5 (List.map Node.cells z5)]] = bindO (F118 N (⟨z1, z2, z3, z4, z5⟩ : Node)) fun r => some (v62 r) :=
 TL_hit ar62.inj (⟨z1, z2, z3, z4, z5⟩ : Node) (by simp only [push_cast] <;> rfl)
@[push_cast] theorem t34_1 (self34 : Node → Option (Bool)) (z1 : Int) (z2 : Int) (z3 : ByteArray) (z4 : Int) (z5 : List Node) : ts34 self34 [.agg [.int .i64 z1, .int .i64 z2, .str z3, .int .i64 z4, .sl false 5 (List.map Node.cells z5)]] = bindO (self34 (⟨z1, z2, z3, z4, z5⟩ : Node)) fun r => some (v34 r) :=
 TL_hit ar34.inj (⟨z1, z2, z3, z4, z5⟩ : Node) (by simp only [push_cast] <;> rfl)
@[push_cast] theorem t36_2 {N : Nat} (z1 : Int) (z2 : Int) (z3 : ByteArray) (z4 : Int) (z5 : List Node) : t36 N [.agg [.int .i64 z1, .int .i64 z2, .str z3, .int .i64 z4, .sl false 5 (List.map Node.cells z5)]] = bindO (F28 N (⟨z1, z2, z3, z4, z5⟩ : Node)) fun r => some (v36 r) :=
 TL_hit ar36.inj (⟨z1, z2, z3, z4, z5⟩ : Node) (by simp only [push_cast] <;> rfl)
@[push_cast] theorem t63_1 (z1 : Int) : t63 [.int .i64 z1] = bindO (F119 z1) fun r => some (v63 r) :=
 TL_hit ar63.inj z1 (by simp only [push_cast] <;> rfl)
@[push_cast] theorem t64_1 (z1 : Int) : t64 [.int .i64 z1] = bindO (F120 z1) fun r => some (v64 r) :=
 TL_hit ar64.inj z1 (by simp only [push_cast] <;> rfl)
@[push_cast] def H153 : Nat → Hint
 | _ => ⟨[], [], []⟩
def F168 (a : Decl) (b : Decl) : Option (Bool) := iteO (Op.bytesLess a.declName.toList b.declName.toList) (some true) (iteO (a.declName.toList == b.declName.toList) (some (decide (a.declSort < b.declSort))) (some false))
@[push_cast] def ar153 : Rs (Decl × Decl) := rsC rDecl (rsO rDecl)
@[push_cast] def v153 (r : Bool) : AV := .bool r
@[push_cast] def sh153 : Shp := .one (.leaf none)
noncomputable def t153 : List AV → Option AV := TL ar153.e fun x => bindO (F168 x.1 x.2) fun r => some (v153 r)
@[push_cast] def H132 : Nat → Hint
 | 0 => ⟨[3, 5, 6, 9, 10, 11], [3, 5, 6], []⟩
 | 1 => ⟨[], [3, 5, 6, 9, 10, 11], []⟩
 | _ => ⟨[], [], []⟩
def F140_s1 (d : Decl) (s3 : (List Decl) × Bool) (i1 : Nat) (x2 : Decl) : Option (Sum ((List Decl) × Bool) (List Decl)) := iteO ((x2.declName.toList == d.declName.toList) && (x2.declSort == d.declSort)) (iteO (fits (s3.1.length + 1) 24) (some (.inl (s3.1 ++ ([x2]), true))) (none)) (iteO s3.2 (iteO (fits (s3.1.length + 1) 24) (some (.inl (s3.1 ++ ([x2]), s3.2))) (none)) (bindO (F168 d x2) fun r4 => iteO r4 (iteO (fits (s3.1.length + 1) 24) (iteO (fits (s3.1.length + 1 + 1) 24) (some (.inl ((s3.1 ++ ([d])) ++ ([x2]), true))) (none)) (none)) (iteO (fits (s3.1.length + 1) 24) (some (.inl (s3.1 ++ ([x2]), s3.2))) (none))))
def F140_f1 (d : Decl) (s3 : (List Decl) × Bool) : Option (List Decl) := iteO s3.2 (some s3.1) (iteO (fits (s3.1.length + 1) 24) (some (s3.1 ++ ([d]))) (none))
def F140 (N : Nat) (l : List Decl) (d : Decl) : Option (List Decl) := foldN (S := (List Decl) × Bool) (F140_s1 d) (F140_f1 d) N l 0 ([], false)
@[push_cast] def ar132 : Rs ((List Decl) × Decl) := rsC (rL 2 Decl.cells Decl.cells_inj) (rsO rDecl)
@[push_cast] def v132 (r : List Decl) : AV := .sl false 2 (List.map Decl.cells r)
@[push_cast] def sh132 : Shp := .one (.leaf (some 2))
noncomputable def t132 (N : Nat) : List AV → Option AV := TL ar132.e fun x => bindO (F140 N x.1 x.2) fun r => some (v132 r)
@[push_cast] theorem t153_1 (z1 : ByteArray) (z2 : Int) (z3 : ByteArray) (z4 : Int) : t153 [.agg [.str z1, .int .i64 z2], .agg [.str z3, .int .i64 z4]] = bindO (F168 (⟨z1, z2⟩ : Decl) (⟨z3, z4⟩ : Decl)) fun r => some (v153 r) :=
 TL_hit ar153.inj ((⟨z1, z2⟩ : Decl), (⟨z3, z4⟩ : Decl)) (by simp only [push_cast] <;> rfl)
@[push_cast] def H99 : Nat → Hint
 | 0 => ⟨[0, 18, 19, 20], [0], []⟩
 | 1 => ⟨[], [0, 18, 19, 20], []⟩
 | _ => ⟨[], [], []⟩
def F95_s1 (self99 : (List Decl) → Node → Option (List Decl)) (s4 : List Decl) (i2 : Nat) (x3 : Node) : Option (Sum (List Decl) (List Decl)) := bindO (self99 s4 x3) fun r5 => some (.inl r5)
def F95_f1  (s4 : List Decl) : Option (List Decl) := some s4
def F95_s2 (self99 : (List Decl) → Node → Option (List Decl)) (s8 : List Decl) (i6 : Nat) (x7 : Node) : Option (Sum (List Decl) (List Decl)) := bindO (self99 s8 x7) fun r9 => some (.inl r9)
def F95_f2  (s8 : List Decl) : Option (List Decl) := some s8
def F95b (self99 : (List Decl) → Node → Option (List Decl)) (N : Nat) (l : List Decl) (n : Node) : Option (List Decl) := iteO (n.op == 1) (bindO (F140 N l (⟨n.name, n.sortf⟩ : Decl)) fun r1 => foldN (S := List Decl) (F95_s1 self99) (F95_f1) N n.kids 0 r1) (foldN (S := List Decl) (F95_s2 self99) (F95_f2) N n.kids 0 l)
def F95 : Nat → (List Decl) → Node → Option (List Decl)
 | 0 => fun _ _ => none
 | N + 1 => fun l n => F95b (F95 N) N l n
@[push_cast] def ar99 : Rs ((List Decl) × Node) := rsC (rL 2 Decl.cells Decl.cells_inj) (rsO rNode)
@[push_cast] def v99 (r : List Decl) : AV := .sl false 2 (List.map Decl.cells r)
@[push_cast] def sh99 : Shp := .one (.leaf (some 2))
noncomputable def t99 (N : Nat) : List AV → Option AV := TL ar99.e fun x => bindO (F95 N x.1 x.2) fun r => some (v99 r)
noncomputable def ts99 (self99 : (List Decl) → Node → Option (List Decl)) : List AV → Option AV := TL ar99.e fun x => bindO (self99 x.1 x.2) fun r => some (v99 r)
@[push_cast] theorem t132_1 {N : Nat} (z1 : List Decl) (z2 : ByteArray) (z3 : Int) : t132 N [.sl false 2 (List.map Decl.cells z1), .agg [.str z2, .int .i64 z3]] = bindO (F140 N z1 (⟨z2, z3⟩ : Decl)) fun r => some (v132 r) :=
 TL_hit ar132.inj (z1, (⟨z2, z3⟩ : Decl)) (by simp only [push_cast] <;> rfl)
@[push_cast] theorem t99_1 (self99 : (List Decl) → Node → Option (List Decl)) (z1 : List Decl) (z2 : Int) (z3 : Int) (z4 : ByteArray) (z5 : Int) (z6 : List Node) : ts99 self99 [.sl false 2 (List.map Decl.cells z1), .agg [.int .i64 z2, .int .i64 z3, .str z4, .int .i64 z5, .sl false 5 (List.map Node.cells z6)]] = bindO (self99 z1 (⟨z2, z3, z4, z5, z6⟩ : Node)) fun r => some (v99 r) :=
 TL_hit ar99.inj (z1, (⟨z2, z3, z4, z5, z6⟩ : Node)) (by simp only [push_cast] <;> rfl)
@[push_cast] def H65 : Nat → Hint
 | _ => ⟨[], [], []⟩
def F47 (N : Nat) (n : Node) : Option (List Decl) := bindO (F95 N ([]) n) fun r1 => some r1
@[push_cast] def ar65 : Rs Node := rsO rNode
@[push_cast] def v65 (r : List Decl) : AV := .sl false 2 (List.map Decl.cells r)
@[push_cast] def sh65 : Shp := .one (.leaf (some 2))
noncomputable def t65 (N : Nat) : List AV → Option AV := TL ar65.e fun x => bindO (F47 N x) fun r => some (v65 r)
@[push_cast] theorem t99_2 {N : Nat} (z2 : Int) (z3 : Int) (z4 : ByteArray) (z5 : Int) (z6 : List Node) : t99 N [.sl true 0 [], .agg [.int .i64 z2, .int .i64 z3, .str z4, .int .i64 z5, .sl false 5 (List.map Node.cells z6)]] = bindO (F95 N ([]) (⟨z2, z3, z4, z5, z6⟩ : Node)) fun r => some (v99 r) :=
 TL_hit ar99.inj ([], (⟨z2, z3, z4, z5, z6⟩ : Node)) (by simp only [push_cast] <;> rfl)
@[push_cast] theorem t99_3 {N : Nat} (z2 : Int) (z3 : Int) (z4 : ByteArray) (z5 : Int) (z6 : List Node) : t99 N [.sl false 0 [], .agg [.int .i64 z2, .int .i64 z3, .str z4, .int .i64 z5, .sl false 5 (List.map Node.cells z6)]] = bindO (F95 N ([]) (⟨z2, z3, z4, z5, z6⟩ : Node)) fun r => some (v99 r) :=
 TL_hit ar99.inj ([], (⟨z2, z3, z4, z5, z6⟩ : Node)) (by simp only [push_cast] <;> rfl)
@[push_cast] def H66 : Nat → Hint
 | 0 => ⟨[1, 23, 24, 25], [], []⟩
 | 1 => ⟨[], [1, 23, 24, 25], []⟩
 | _ => ⟨[], [], []⟩
def F92_s1 (self66 : Node → ByteArray → Option (Bool)) (name : ByteArray) (s3 : Unit) (i1 : Nat) (x2 : Node) : Option (Sum (Unit) (Bool)) := bindO (self66 x2 name) fun r4 => iteO r4 (some (.inr true)) (some (.inl ()))
def F92_f1  (s3 : Unit) : Option (Bool) := some false
def F92_s2 (self66 : Node → ByteArray → Option (Bool)) (name : ByteArray) (s7 : Unit) (i5 : Nat) (x6 : Node) : Option (Sum (Unit) (Bool)) := bindO (self66 x6 name) fun r8 => iteO r8 (some (.inr true)) (some (.inl ()))
def F92_f2  (s7 : Unit) : Option (Bool) := some false
def F92_s3 (self66 : Node → ByteArray → Option (Bool)) (name : ByteArray) (s11 : Unit) (i9 : Nat) (x10 : Node) : Option (Sum (Unit) (Bool)) := bindO (self66 x10 name) fun r12 => iteO r12 (some (.inr true)) (some (.inl ()))
def F92_f3  (s11 : Unit) : Option (Bool) := some false
def F92b (self66 : Node → ByteArray → Option (Bool)) (N : Nat) (n : Node) (name : ByteArray) : Option (Bool) := iteO (n.op == 3) (iteO (n.name.toList == name.toList) (iteO ((n.kids.length : Int) == 0) (some true) (foldN (S := Unit) (F92_s1 self66 name) (F92_f1) N n.kids 0 ())) (foldN (S := Unit) (F92_s2 self66 name) (F92_f2) N n.kids 0 ())) (foldN (S := Unit) (F92_s3 self66 name) (F92_f3) N n.kids 0 ())
def F92 : Nat → Node → ByteArray → Option (Bool)
 | 0 => fun _ _ => none
 | N + 1 => fun n name => F92b (F92 N) N n name
@[push_cast] def ar66 : Rs (Node × ByteArray) := rsC rNode (rsO rS)
@[push_cast] def v66 (r : Bool) : AV := .bool r
@[push_cast] def sh66 : Shp := .one (.leaf none)
noncomputable def t66 (N : Nat) : List AV → Option AV := TL ar66.e fun x => bindO (F92 N x.1 x.2) fun r => some (v66 r)
noncomputable def ts66 (self66 : Node → ByteArray → Option (Bool)) : List AV → Option AV := TL ar66.e fun x => bindO (self66 x.1 x.2) fun r => some (v66 r)
@[push_cast] theorem t66_1 (self66 : Node → ByteArray → Option (Bool)) (z1 : Int) (z2 : Int) (z3 : ByteArray) (z4 : Int) (z5 : List Node) (z6 : ByteArray) : ts66 self66 [.agg [.int .i64 z1, .int .i64 z2, .str z3, .int .i64 z4, .sl false 5 (List.map Node.cells z5)], .str z6] = bindO (self66 (⟨z1, z2, z3, z4, z5⟩ : Node) z6) fun r => some (v66 r) :=
 TL_hit ar66.inj ((⟨z1, z2, z3, z4, z5⟩ : Node), z6) (by simp only [push_cast] <;> rfl)
@[push_cast] def H35 : Nat → Hint
 | 0 => ⟨[1, 3, 4], [1, 3], []⟩
 | 1 => ⟨[], [1, 3, 4], []⟩
 | 2 => ⟨[1, 27, 28, 29], [], []⟩
 | 3 => ⟨[], [1, 27, 28, 29], []⟩
 | _ => ⟨[], [], []⟩
def F41_s2 (N : Nat) (n : Node) (s7 : Unit) (i5 : Nat) (x6 : Decl) : Option (Sum (Unit) (Bool)) := bindO (F92 N n x6.declName) fun r8 => iteO r8 (some (.inr false)) (some (.inl ()))
def F41_f2  (s7 : Unit) : Option (Bool) := some true
def F41_s1 (N : Nat) (n : Node) (r1 : List Decl) (s2 : Int) : Option (Sum (Int) (Bool)) := iteO (decide (s2 < (r1.length : Int))) (bindO (atO r1 (IntKind.i64.wrap (s2 - 1))) fun x3 => bindO (atO r1 s2) fun x4 => iteO (x3.declName.toList == x4.declName.toList) (some (.inr false)) (some (.inl (IntKind.i64.wrap (s2 + 1))))) (bindO (foldN (S := Unit) (F41_s2 N n) (F41_f2) N r1 0 ()) fun yy => some (.inr yy))
def F41 (N : Nat) (n : Node) : Option (Bool) := bindO (F47 N n) fun r1 => whileN (S := Int) (F41_s1 N n r1) N 1
@[push_cast] def ar35 : Rs Node := rsO rNode
@[push_cast] def v35 (r : Bool) : AV := .bool r
@[push_cast] def sh35 : Shp := .one (.leaf none)
noncomputable def t35 (N : Nat) : List AV → Option AV := TL ar35.e fun x => bindO (F41 N x) fun r => some (v35 r)
@[push_cast] theorem t65_1 {N : Nat} (z1 : Int) (z2 : Int) (z3 : ByteArray) (z4 : Int) (z5 : List Node) : t65 N [.agg [.int .i64 z1, .int .i64 z2, .str z3, .int .i64 z4, .sl false 5 (List.map Node.cells z5)]] = bindO (F47 N (⟨z1, z2, z3, z4, z5⟩ : Node)) fun r => some (v65 r) :=
 TL_hit ar65.inj (⟨z1, z2, z3, z4, z5⟩ : Node) (by simp only [push_cast] <;> rfl)
@[push_cast] theorem t66_2 {N : Nat} (z1 : Int) (z2 : Int) (z3 : ByteArray) (z4 : Int) (z5 : List Node) (z6 : ByteArray) : t66 N [.agg [.int .i64 z1, .int .i64 z2, .str z3, .int .i64 z4, .sl false 5 (List.map Node.cells z5)], .str z6] = bindO (F92 N (⟨z1, z2, z3, z4, z5⟩ : Node) z6) fun r => some (v66 r) :=
 TL_hit ar66.inj ((⟨z1, z2, z3, z4, z5⟩ : Node), z6) (by simp only [push_cast] <;> rfl)
@[push_cast] def H15 : Nat → Hint
 | _ => ⟨[], [], []⟩
def F15 (N : Nat) (n : Node) (sortq : Int) : Option (Int) := iteO (decide (sortq < 0)) (some 1) (iteO (decide (sortq > 5)) (some 1) (bindO (F27 N n) fun r1 => iteO (decide (r1 > 4000)) (some 2) (bindO (F39 N n) fun r2 => iteO (decide (r2 > 100)) (some 2) (bindO (F72 N n) fun r3 => iteO r3 (bindO (F41 N n) fun r4 => iteO r4 (iteO (sortq == 0) (some 0) (bindO (F28 N n) fun r5 => iteO (r5 == sortq) (some 0) (some 10))) (some 3)) (some 3)))))
@[push_cast] def ar15 : Rs (Node × Int) := rsC rNode (rsO (rI .i64))
@[push_cast] def v15 (r : Int) : AV := .int .i64 r
@[push_cast] def sh15 : Shp := .one (.leaf none)
noncomputable def t15 (N : Nat) : List AV → Option AV := TL ar15.e fun x => bindO (F15 N x.1 x.2) fun r => some (v15 r)
@[push_cast] theorem t5_2 {N : Nat} (z1 : Int) (z2 : Int) (z3 : ByteArray) (z4 : Int) (z5 : List Node) : t5 N [.agg [.int .i64 z1, .int .i64 z2, .str z3, .int .i64 z4, .sl false 5 (List.map Node.cells z5)]] = bindO (F27 N (⟨z1, z2, z3, z4, z5⟩ : Node)) fun r => some (v5 r) :=
 TL_hit ar5.inj (⟨z1, z2, z3, z4, z5⟩ : Node) (by simp only [push_cast] <;> rfl)
@[push_cast] theorem t33_2 {N : Nat} (z1 : Int) (z2 : Int) (z3 : ByteArray) (z4 : Int) (z5 : List Node) : t33 N [.agg [.int .i64 z1, .int .i64 z2, .str z3, .int .i64 z4, .sl false 5 (List.map Node.cells z5)]] = bindO (F39 N (⟨z1, z2, z3, z4, z5⟩ : Node)) fun r => some (v33 r) :=
 TL_hit ar33.inj (⟨z1, z2, z3, z4, z5⟩ : Node) (by simp only [push_cast] <;> rfl)
@[push_cast] theorem t34_2 {N : Nat} (z1 : Int) (z2 : Int) (z3 : ByteArray) (z4 : Int) (z5 : List Node) : t34 N [.agg [.int .i64 z1, .int .i64 z2, .str z3, .int .i64 z4, .sl false 5 (List.map Node.cells z5)]] = bindO (F72 N (⟨z1, z2, z3, z4, z5⟩ : Node)) fun r => some (v34 r) :=
 TL_hit ar34.inj (⟨z1, z2, z3, z4, z5⟩ : Node) (by simp only [push_cast] <;> rfl)
@[push_cast] theorem t35_1 {N : Nat} (z1 : Int) (z2 : Int) (z3 : ByteArray) (z4 : Int) (z5 : List Node) : t35 N [.agg [.int .i64 z1, .int .i64 z2, .str z3, .int .i64 z4, .sl false 5 (List.map Node.cells z5)]] = bindO (F41 N (⟨z1, z2, z3, z4, z5⟩ : Node)) fun r => some (v35 r) :=
 TL_hit ar35.inj (⟨z1, z2, z3, z4, z5⟩ : Node) (by simp only [push_cast] <;> rfl)
@[push_cast] def H16 : Nat → Hint
 | _ => ⟨[], [], []⟩
def F1412 (n : Node) : Option (Bool) := iteO (n.op == 30) (some true) (iteO (n.op == 31) (some true) (iteO (n.op == 32) (some true) (iteO (n.op == 33) (some true) (iteO (n.op == 34) (some true) (iteO (n.op == 35) (some true) (iteO (n.op == 36) (some true) (some false)))))))
@[push_cast] def ar16 : Rs Node := rsO rNode
@[push_cast] def v16 (r : Bool) : AV := .bool r
@[push_cast] def sh16 : Shp := .one (.leaf none)
noncomputable def t16 : List AV → Option AV := TL ar16.e fun x => bindO (F1412 x) fun r => some (v16 r)
@[push_cast] def H67 : Nat → Hint
 | _ => ⟨[], [], []⟩
def F81 (a : Int) (b : Int) : Option (Int) := iteO (decide (a < b)) (some (-1)) (iteO (decide (a > b)) (some 1) (some 0))
@[push_cast] def ar67 : Rs (Int × Int) := rsC (rI .i64) (rsO (rI .i64))
@[push_cast] def v67 (r : Int) : AV := .int .i64 r
@[push_cast] def sh67 : Shp := .one (.leaf none)
noncomputable def t67 : List AV → Option AV := TL ar67.e fun x => bindO (F81 x.1 x.2) fun r => some (v67 r)
@[push_cast] def H40 : Nat → Hint
 | 0 => ⟨[2, 3, 5, 6], [5], []⟩
 | 1 => ⟨[], [2, 3, 5, 6], []⟩
 | _ => ⟨[], [], []⟩
def F19_s1  (s3 : Unit) : Option (Sum (Unit) (Int)) := some (.inr (-1))
def F19_s3 (self40 : Node → Node → Option (Int)) (a : Node) (b : Node) (s7 : Int × Int) : Option (Sum (Int × Int) (Int)) := iteO (s7.1 == 0) (iteO (decide (s7.2 < (a.kids.length : Int))) (bindO (atO a.kids s7.2) fun x8 => bindO (atO b.kids s7.2) fun x9 => bindO (self40 x8 x9) fun r10 => some (.inl (r10, IntKind.i64.wrap (s7.2 + 1)))) (some (.inr s7.1))) (some (.inr s7.1))
def F19_s4 (r5 : Int) (s11 : Unit) : Option (Sum (Unit) (Int)) := some (.inr r5)
def F19_s2  (s4 : Unit) : Option (Sum (Unit) (Int)) := some (.inr 1)
def F19_s5 (r2 : Int) (s12 : Unit) : Option (Sum (Unit) (Int)) := some (.inr r2)
def F19_s6 (r1 : Int) (s13 : Unit) : Option (Sum (Unit) (Int)) := some (.inr r1)
def F19b (self40 : Node → Node → Option (Int)) (N : Nat) (a : Node) (b : Node) : Option (Int) := bindO (F81 a.op b.op) fun r1 => iteO (r1 == 0) (bindO (F81 a.sortf b.sortf) fun r2 => iteO (r2 == 0) (iteO (Op.bytesLess a.name.toList b.name.toList) (whileN (S := Unit) (F19_s1) N ()) (iteO (Op.bytesLess a.name.toList b.name.toList || a.name.toList == b.name.toList) (bindO (F81 a.num b.num) fun r5 => iteO (r5 == 0) (bindO (F81 (a.kids.length : Int) (b.kids.length : Int)) fun r6 => whileN (S := Int × Int) (F19_s3 self40 a b) N (r6, 0)) (whileN (S := Unit) (F19_s4 r5) N ())) (whileN (S := Unit) (F19_s2) N ()))) (whileN (S := Unit) (F19_s5 r2) N ())) (whileN (S := Unit) (F19_s6 r1) N ())
def F19 : Nat → Node → Node → Option (Int)
 | 0 => fun _ _ => none
 | N + 1 => fun a b => F19b (F19 N) N a b
@[push_cast] def ar40 : Rs (Node × Node) := rsC rNode (rsO rNode)
@[push_cast] def v40 (r : Int) : AV := .int .i64 r
@[push_cast] def sh40 : Shp := .one (.leaf none)
noncomputable def t40 (N : Nat) : List AV → Option AV := TL ar40.e fun x => bindO (F19 N x.1 x.2) fun r => some (v40 r)
noncomputable def ts40 (self40 : Node → Node → Option (Int)) : List AV → Option AV := TL ar40.e fun x => bindO (self40 x.1 x.2) fun r => some (v40 r)
@[push_cast] theorem t67_1 (z1 : Int) (z2 : Int) : t67 [.int .i64 z1, .int .i64 z2] = bindO (F81 z1 z2) fun r => some (v67 r) :=
 TL_hit ar67.inj (z1, z2) (by simp only [push_cast] <;> rfl)
@[push_cast] theorem t40_1 (self40 : Node → Node → Option (Int)) (z1 : Int) (z2 : Int) (z3 : ByteArray) (z4 : Int) (z5 : List Node) (z6 : Int) (z7 : Int) (z8 : ByteArray) (z9 : Int) (z10 : List Node) : ts40 self40 [.agg [.int .i64 z1, .int .i64 z2, .str z3, .int .i64 z4, .sl false 5 (List.map Node.cells z5)], .agg [.int .i64 z6, .int .i64 z7, .str z8, .int .i64 z9, .sl false 5 (List.map Node.cells z10)]] = bindO (self40 (⟨z1, z2, z3, z4, z5⟩ : Node) (⟨z6, z7, z8, z9, z10⟩ : Node)) fun r => some (v40 r) :=
 TL_hit ar40.inj ((⟨z1, z2, z3, z4, z5⟩ : Node), (⟨z6, z7, z8, z9, z10⟩ : Node)) (by simp only [push_cast] <;> rfl)
@[push_cast] def H18 : Nat → Hint
 | _ => ⟨[], [], []⟩
def F21 (N : Nat) (a : Node) (b : Node) : Option (Bool) := bindO (F19 N a b) fun r1 => some (r1 == 0)
@[push_cast] def ar18 : Rs (Node × Node) := rsC rNode (rsO rNode)
@[push_cast] def v18 (r : Bool) : AV := .bool r
@[push_cast] def sh18 : Shp := .one (.leaf none)
noncomputable def t18 (N : Nat) : List AV → Option AV := TL ar18.e fun x => bindO (F21 N x.1 x.2) fun r => some (v18 r)
@[push_cast] theorem t40_2 {N : Nat} (z1 : Int) (z2 : Int) (z3 : ByteArray) (z4 : Int) (z5 : List Node) (z6 : Int) (z7 : Int) (z8 : ByteArray) (z9 : Int) (z10 : List Node) : t40 N [.agg [.int .i64 z1, .int .i64 z2, .str z3, .int .i64 z4, .sl false 5 (List.map Node.cells z5)], .agg [.int .i64 z6, .int .i64 z7, .str z8, .int .i64 z9, .sl false 5 (List.map Node.cells z10)]] = bindO (F19 N (⟨z1, z2, z3, z4, z5⟩ : Node) (⟨z6, z7, z8, z9, z10⟩ : Node)) fun r => some (v40 r) :=
 TL_hit ar40.inj ((⟨z1, z2, z3, z4, z5⟩ : Node), (⟨z6, z7, z8, z9, z10⟩ : Node)) (by simp only [push_cast] <;> rfl)
@[push_cast] def H37 : Nat → Hint
 | _ => ⟨[], [], []⟩
def F1422 (b : Bool) : Option (Int) := iteO b (some 1) (some 0)
@[push_cast] def ar37 : Rs Bool := rsO rB
@[push_cast] def v37 (r : Int) : AV := .int .i64 r
@[push_cast] def sh37 : Shp := .one (.leaf none)
noncomputable def t37 : List AV → Option AV := TL ar37.e fun x => bindO (F1422 x) fun r => some (v37 r)
@[push_cast] def H38 : Nat → Hint
 | _ => ⟨[], [], []⟩
def F1423 (v : Int) : Option (Int) := iteO (decide (v < 0)) (some (-1)) (some (IntKind.i64.wrap (1 - v)))
@[push_cast] def ar38 : Rs Int := rsO (rI .i64)
@[push_cast] def v38 (r : Int) : AV := .int .i64 r
@[push_cast] def sh38 : Shp := .one (.leaf none)
noncomputable def t38 : List AV → Option AV := TL ar38.e fun x => bindO (F1423 x) fun r => some (v38 r)
@[push_cast] def H39 : Nat → Hint
 | _ => ⟨[], [], []⟩
def F1424 (a : Int) (b : Int) : Option (Int) := iteO (a == 0) (some 0) (iteO (b == 0) (some 0) (iteO (a == 1) (iteO (b == 1) (some 1) (some (-1))) (some (-1))))
@[push_cast] def ar39 : Rs (Int × Int) := rsC (rI .i64) (rsO (rI .i64))
@[push_cast] def v39 (r : Int) : AV := .int .i64 r
@[push_cast] def sh39 : Shp := .one (.leaf none)
noncomputable def t39 : List AV → Option AV := TL ar39.e fun x => bindO (F1424 x.1 x.2) fun r => some (v39 r)
@[push_cast] def H17 : Nat → Hint
 | 0 => ⟨[2, 3, 16, 17, 18], [], []⟩
 | 1 => ⟨[], [2, 3, 16, 17, 18], []⟩
 | 2 => ⟨[1, 2, 3, 9, 33, 34, 35], [3, 9], []⟩
 | 3 => ⟨[], [1, 2, 3, 9, 33, 34, 35], []⟩
 | 4 => ⟨[], [9], []⟩
 | _ => ⟨[], [], []⟩
def F1413_s2 (self17 : Node → (List Node) → (List Bool) → Option (Int)) (l : List Node) (truths : List Bool) (s10 : List Int) (i8 : Nat) (x9 : Node) : Option (Sum (List Int) (Int)) := bindO (self17 x9 l truths) fun r11 => iteO (fits (s10.length + 1) 8) (some (.inl (s10 ++ ([r11])))) (none)
def F1413_f2 (n : Node) (s10 : List Int) : Option (Int) := iteO (n.op == 30) (some 1) (iteO (n.op == 31) (some 0) (iteO (n.op == 32) (bindO (atO s10 0) fun x12 => bindO (F1423 x12) fun r13 => some r13) (iteO (n.op == 33) (bindO (atO s10 0) fun x14 => bindO (atO s10 1) fun x15 => bindO (F1424 x14 x15) fun r16 => some r16) (iteO (n.op == 34) (bindO (atO s10 0) fun x17 => bindO (F1423 x17) fun r18 => bindO (atO s10 1) fun x19 => bindO (F1423 x19) fun r20 => bindO (F1424 r18 r20) fun r21 => bindO (F1423 r21) fun r22 => some r22) (iteO (n.op == 35) (bindO (atO s10 0) fun x23 => bindO (atO s10 1) fun x24 => bindO (F1423 x24) fun r25 => bindO (F1424 x23 r25) fun r26 => bindO (F1423 r26) fun r27 => some r27) (bindO (atO s10 0) fun x28 => iteO (decide (x28 < 0)) (some (-1)) (bindO (atO s10 1) fun x29 => iteO (decide (x29 < 0)) (some (-1)) (bindO (F1422 (x28 == x29)) fun r30 => some r30))))))))
def F1413_s1 (N : Nat) (n : Node) (truths : List Bool) (s4 : Unit) (i2 : Nat) (x3 : Node) : Option (Sum (Unit) (Int)) := bindO (F21 N x3 n) fun r5 => iteO r5 (bindO (atO truths (i2 : Int)) fun x6 => bindO (F1422 x6) fun r7 => some (.inr r7)) (some (.inl ()))
def F1413_f1  (s4 : Unit) : Option (Int) := some (-1)
def F1413b (self17 : Node → (List Node) → (List Bool) → Option (Int)) (N : Nat) (n : Node) (l : List Node) (truths : List Bool) : Option (Int) := bindO (F1412 n) fun r1 => iteO r1 (foldN (S := List Int) (F1413_s2 self17 l truths) (F1413_f2 n) N n.kids 0 ([])) (foldN (S := Unit) (F1413_s1 N n truths) (F1413_f1) N l 0 ())
def F1413 : Nat → Node → (List Node) → (List Bool) → Option (Int)
 | 0 => fun _ _ _ => none
 | N + 1 => fun n l truths => F1413b (F1413 N) N n l truths
@[push_cast] def ar17 : Rs (Node × (List Node) × (List Bool)) := rsC rNode (rsC (rL 5 Node.cells Node.cells_inj) (rsO (rL 1 cB cB_inj)))
@[push_cast] def v17 (r : Int) : AV := .int .i64 r
@[push_cast] def sh17 : Shp := .one (.leaf none)
noncomputable def t17 (N : Nat) : List AV → Option AV := TL ar17.e fun x => bindO (F1413 N x.1 x.2.1 x.2.2) fun r => some (v17 r)
noncomputable def ts17 (self17 : Node → (List Node) → (List Bool) → Option (Int)) : List AV → Option AV := TL ar17.e fun x => bindO (self17 x.1 x.2.1 x.2.2) fun r => some (v17 r)
@[push_cast] theorem t16_1 (z1 : Int) (z2 : Int) (z3 : ByteArray) (z4 : Int) (z5 : List Node) : t16 [.agg [.int .i64 z1, .int .i64 z2, .str z3, .int .i64 z4, .sl false 5 (List.map Node.cells z5)]] = bindO (F1412 (⟨z1, z2, z3, z4, z5⟩ : Node)) fun r => some (v16 r) :=
 TL_hit ar16.inj (⟨z1, z2, z3, z4, z5⟩ : Node) (by simp only [push_cast] <;> rfl)
@[push_cast] theorem t18_1 {N : Nat} (z1 : Int) (z2 : Int) (z3 : ByteArray) (z4 : Int) (z5 : List Node) (z6 : Int) (z7 : Int) (z8 : ByteArray) (z9 : Int) (z10 : List Node) : t18 N [.agg [.int .i64 z1, .int .i64 z2, .str z3, .int .i64 z4, .sl false 5 (List.map Node.cells z5)], .agg [.int .i64 z6, .int .i64 z7, .str z8, .int .i64 z9, .sl false 5 (List.map Node.cells z10)]] = bindO (F21 N (⟨z1, z2, z3, z4, z5⟩ : Node) (⟨z6, z7, z8, z9, z10⟩ : Node)) fun r => some (v18 r) :=
 TL_hit ar18.inj ((⟨z1, z2, z3, z4, z5⟩ : Node), (⟨z6, z7, z8, z9, z10⟩ : Node)) (by simp only [push_cast] <;> rfl)
@[push_cast] theorem t37_1 (z1 : Bool) : t37 [.bool z1] = bindO (F1422 z1) fun r => some (v37 r) :=
 TL_hit ar37.inj z1 (by simp only [push_cast] <;> rfl)
@[push_cast] theorem t17_1 (self17 : Node → (List Node) → (List Bool) → Option (Int)) (z1 : Int) (z2 : Int) (z3 : ByteArray) (z4 : Int) (z5 : List Node) (z6 : List Node) (z7 : List Bool) : ts17 self17 [.agg [.int .i64 z1, .int .i64 z2, .str z3, .int .i64 z4, .sl false 5 (List.map Node.cells z5)], .sl false 5 (List.map Node.cells z6), .sl false 1 (List.map cB z7)] = bindO (self17 (⟨z1, z2, z3, z4, z5⟩ : Node) z6 z7) fun r => some (v17 r) :=
 TL_hit ar17.inj ((⟨z1, z2, z3, z4, z5⟩ : Node), z6, z7) (by simp only [push_cast] <;> rfl)
@[push_cast] theorem t38_1 (z1 : Int) : t38 [.int .i64 z1] = bindO (F1423 z1) fun r => some (v38 r) :=
 TL_hit ar38.inj z1 (by simp only [push_cast] <;> rfl)
@[push_cast] theorem t39_1 (z1 : Int) (z2 : Int) : t39 [.int .i64 z1, .int .i64 z2] = bindO (F1424 z1 z2) fun r => some (v39 r) :=
 TL_hit ar39.inj (z1, z2) (by simp only [push_cast] <;> rfl)
@[push_cast] def H7 : Nat → Hint
 | 0 => ⟨[1, 2, 3, 21, 22, 23], [1, 2, 3], []⟩
 | 1 => ⟨[], [1, 2, 3, 21, 22, 23], []⟩
 | _ => ⟨[], [], []⟩
def F1405_s1 (N : Nat) (s4 : Unit) (i2 : Nat) (x3 : Node) : Option (Sum (Unit) (Int × Int)) := bindO (F15 N x3 2) fun r5 => iteO (r5 == 0) (bindO (F1412 x3) fun r6 => iteO r6 (some (.inr (0, 3))) (some (.inl ()))) (some (.inr (0, 3)))
def F1405_f1 (N : Nat) (l : List Node) (n : Node) (truths : List Bool) (s4 : Unit) : Option (Int × Int) := bindO (F1413 N n l truths) fun r7 => some (r7, 0)
def F1405 (N : Nat) (n : Node) (l : List Node) (truths : List Bool) : Option (Int × Int) := bindO (F15 N n 2) fun r1 => iteO (r1 == 0) (iteO ((l.length : Int) == (truths.length : Int)) (foldN (S := Unit) (F1405_s1 N) (F1405_f1 N l n truths) N l 0 ()) (some (0, 3))) (some (0, r1))
@[push_cast] def ar7 : Rs (Node × (List Node) × (List Bool)) := rsC rNode (rsC (rL 5 Node.cells Node.cells_inj) (rsO (rL 1 cB cB_inj)))
@[push_cast] def v7 (r : Int × Int) : AV := .tuple [.int .i64 r.1, .int .i64 r.2]
@[push_cast] def sh7 : Shp := .tup [.leaf none, .leaf none]
noncomputable def t7 (N : Nat) : List AV → Option AV := TL ar7.e fun x => bindO (F1405 N x.1 x.2.1 x.2.2) fun r => some (v7 r)
@[push_cast] theorem t15_1 {N : Nat} (z1 : Int) (z2 : Int) (z3 : ByteArray) (z4 : Int) (z5 : List Node) (z6 : Int) : t15 N [.agg [.int .i64 z1, .int .i64 z2, .str z3, .int .i64 z4, .sl false 5 (List.map Node.cells z5)], .int .i64 z6] = bindO (F15 N (⟨z1, z2, z3, z4, z5⟩ : Node) z6) fun r => some (v15 r) :=
 TL_hit ar15.inj ((⟨z1, z2, z3, z4, z5⟩ : Node), z6) (by simp only [push_cast] <;> rfl)
@[push_cast] theorem t17_2 {N : Nat} (z1 : Int) (z2 : Int) (z3 : ByteArray) (z4 : Int) (z5 : List Node) (z6 : List Node) (z7 : List Bool) : t17 N [.agg [.int .i64 z1, .int .i64 z2, .str z3, .int .i64 z4, .sl false 5 (List.map Node.cells z5)], .sl false 5 (List.map Node.cells z6), .sl false 1 (List.map cB z7)] = bindO (F1413 N (⟨z1, z2, z3, z4, z5⟩ : Node) z6 z7) fun r => some (v17 r) :=
 TL_hit ar17.inj ((⟨z1, z2, z3, z4, z5⟩ : Node), z6, z7) (by simp only [push_cast] <;> rfl)
@[push_cast] def H19 : Nat → Hint
 | 0 => ⟨[1, 2, 10, 11, 12], [1, 2], []⟩
 | 1 => ⟨[], [1, 2, 10, 11, 12], []⟩
 | _ => ⟨[], [], []⟩
def F1414_s1 (self19 : Node → Option (Node)) (s3 : List Node) (i1 : Nat) (x2 : Nat) : Option (Sum (List Node) (Node)) := bindO (atO s3 (i1 : Int)) fun x4 => bindO (self19 x4) fun r5 => some (.inl (s3.set i1 r5))
def F1414_f1 (n : Node) (s3 : List Node) : Option (Node) := some (⟨n.op, n.sortf, n.name, n.num, s3⟩ : Node)
def F1414b (self19 : Node → Option (Node)) (N : Nat) (n : Node) : Option (Node) := iteO (fits (n.kids.length) 64) (foldN (S := List Node) (F1414_s1 self19) (F1414_f1 n) N (List.range ((n.kids.length : Int)).toNat) 0 n.kids) (none)
def F1414 : Nat → Node → Option (Node)
 | 0 => fun _ => none
 | N + 1 => fun n => F1414b (F1414 N) N n
@[push_cast] def ar19 : Rs Node := rsO rNode
@[push_cast] def v19 (r : Node) : AV := .agg (Node.cells r)
@[push_cast] def sh19 : Shp := .one (.agg [none, none, none, none, some 5])
noncomputable def t19 (N : Nat) : List AV → Option AV := TL ar19.e fun x => bindO (F1414 N x) fun r => some (v19 r)
noncomputable def ts19 (self19 : Node → Option (Node)) : List AV → Option AV := TL ar19.e fun x => bindO (self19 x) fun r => some (v19 r)
@[push_cast] theorem t19_1 (self19 : Node → Option (Node)) (z1 : Int) (z2 : Int) (z3 : ByteArray) (z4 : Int) (z5 : List Node) : ts19 self19 [.agg [.int .i64 z1, .int .i64 z2, .str z3, .int .i64 z4, .sl false 5 (List.map Node.cells z5)]] = bindO (self19 (⟨z1, z2, z3, z4, z5⟩ : Node)) fun r => some (v19 r) :=
 TL_hit ar19.inj (⟨z1, z2, z3, z4, z5⟩ : Node) (by simp only [push_cast] <;> rfl)
@[push_cast] def H9 : Nat → Hint
 | 0 => ⟨[3, 16, 17, 18], [3], []⟩
 | 1 => ⟨[], [3, 16, 17, 18], []⟩
 | 2 => ⟨[3, 16, 17, 18, 23, 24, 25], [3, 16, 17, 18], []⟩
 | 3 => ⟨[], [3, 16, 17, 18, 23, 24, 25], []⟩
 | _ => ⟨[], [], []⟩
@[push_cast] def H20 : Nat → Hint
 | _ => ⟨[], [], []⟩
@[push_cast] def H42 : Nat → Hint
 | 0 => ⟨[0, 2, 4, 8, 9, 10], [0, 2, 4, 8, 9], []⟩
 | 1 => ⟨[], [0, 2, 4, 8, 9, 10], []⟩
 | _ => ⟨[], [], []⟩
def F1407_s3 (N : Nat) (s9 : List Node) (x8 : Node) (s10 : Int × Int) : Option (Sum (Int × Int) (Sum (List Node) (Sum (List Node) (List Node)))) := iteO (decide (s10.2 < s10.1)) (bindO (atO s9 (IntKind.i64.wrap ((IntKind.u64.wrap (IntKind.i64.wrap (s10.2 + s10.1))).fdiv (2 ^ (min (1 : Int).toNat (IntKind.u64).bits))))) fun x11 => bindO (F18 N x11 x8) fun r12 => iteO (decide (r12 < 0)) (some (.inl (s10.1, IntKind.i64.wrap ((IntKind.i64.wrap ((IntKind.u64.wrap (IntKind.i64.wrap (s10.2 + s10.1))).fdiv (2 ^ (min (1 : Int).toNat (IntKind.u64).bits)))) + 1)))) (some (.inl (IntKind.i64.wrap ((IntKind.u64.wrap (IntKind.i64.wrap (s10.2 + s10.1))).fdiv (2 ^ (min (1 : Int).toNat (IntKind.u64).bits))), s10.2)))) (iteO (decide (s10.2 < ((s9.length : Int)))) (bindO (atO s9 s10.2) fun x13 => bindO (F18 N x13 x8) fun r14 => iteO (r14 == 0) (some (.inr (.inl s9))) (bindO (F142 s9 s10.2 ([x8])) fun r15 => some (.inr (.inl r15)))) (bindO (F142 s9 s10.2 ([x8])) fun r16 => some (.inr (.inl r16))))
def F1407_s2 (N : Nat) (s9 : List Node) (i7 : Nat) (x8 : Node) : Option (Sum (List Node) (Sum (List Node) (List Node))) := whileN (S := Int × Int) (F1407_s3 N s9 x8) N (((s9.length : Int)), 0)
def F1407_f2  (s9 : List Node) : Option (Sum (List Node) (List Node)) := some (.inl s9)
def F1407_s1 (self9 : Node → Option (List Node)) (N : Nat) (s5 : List Node) (i3 : Nat) (x4 : Node) : Option (Sum (List Node) (List Node)) := bindO (self9 x4) fun r6 => foldN (S := List Node) (F1407_s2 N) (F1407_f2) N r6 0 s5
def F1407_f1  (s5 : List Node) : Option (List Node) := some s5
def F1407b (self9 : Node → Option (List Node)) (N : Nat) (n : Node) : Option (List Node) := bindO (F1410 n.op) fun r1 => iteO r1 (foldN (S := List Node) (F1407_s1 self9 N) (F1407_f1) N n.kids 0 ([])) (bindO (F1414 N n) fun r2 => some ([r2]))
def F1407 : Nat → Node → Option (List Node)
 | 0 => fun _ => none
 | N + 1 => fun n => F1407b (F1407 N) N n
@[push_cast] def ar9 : Rs Node := rsO rNode
@[push_cast] def v9 (r : List Node) : AV := .sl false 5 (List.map Node.cells r)
@[push_cast] def sh9 : Shp := .one (.leaf (some 5))
noncomputable def t9 (N : Nat) : List AV → Option AV := TL ar9.e fun x => bindO (F1407 N x) fun r => some (v9 r)
noncomputable def ts9 (self9 : Node → Option (List Node)) : List AV → Option AV := TL ar9.e fun x => bindO (self9 x) fun r => some (v9 r)
@[push_cast] theorem t19_2 {N : Nat} (z1 : Int) (z2 : Int) (z3 : ByteArray) (z4 : Int) (z5 : List Node) : t19 N [.agg [.int .i64 z1, .int .i64 z2, .str z3, .int .i64 z4, .sl false 5 (List.map Node.cells z5)]] = bindO (F1414 N (⟨z1, z2, z3, z4, z5⟩ : Node)) fun r => some (v19 r) :=
 TL_hit ar19.inj (⟨z1, z2, z3, z4, z5⟩ : Node) (by simp only [push_cast] <;> rfl)
@[push_cast] theorem t9_1 (self9 : Node → Option (List Node)) (z1 : Int) (z2 : Int) (z3 : ByteArray) (z4 : Int) (z5 : List Node) : ts9 self9 [.agg [.int .i64 z1, .int .i64 z2, .str z3, .int .i64 z4, .sl false 5 (List.map Node.cells z5)]] = bindO (self9 (⟨z1, z2, z3, z4, z5⟩ : Node)) fun r => some (v9 r) :=
 TL_hit ar9.inj (⟨z1, z2, z3, z4, z5⟩ : Node) (by simp only [push_cast] <;> rfl)
@[push_cast] def H45 : Nat → Hint
 | 0 => ⟨[3, 5, 6, 10, 11, 12], [3, 5, 6], []⟩
 | 1 => ⟨[], [3, 5, 6, 10, 11, 12], []⟩
 | _ => ⟨[], [], []⟩
def F143_s1 (N : Nat) (n : Node) (s3 : (List Node) × Bool) (i1 : Nat) (x2 : Node) : Option (Sum ((List Node) × Bool) (List Node)) := bindO (F19 N n x2) fun r4 => iteO (r4 == 0) (iteO (fits (s3.1.length + 1) 64) (some (.inl (s3.1 ++ ([x2]), true))) (none)) (iteO s3.2 (iteO (fits (s3.1.length + 1) 64) (some (.inl (s3.1 ++ ([x2]), s3.2))) (none)) (iteO (decide (r4 < 0)) (iteO (fits (s3.1.length + 1) 64) (iteO (fits (s3.1.length + 1 + 1) 64) (some (.inl ((s3.1 ++ ([n])) ++ ([x2]), true))) (none)) (none)) (iteO (fits (s3.1.length + 1) 64) (some (.inl (s3.1 ++ ([x2]), s3.2))) (none))))
def F143_f1 (n : Node) (s3 : (List Node) × Bool) : Option (List Node) := iteO s3.2 (some s3.1) (iteO (fits (s3.1.length + 1) 64) (some (s3.1 ++ ([n]))) (none))
def F143 (N : Nat) (l : List Node) (n : Node) : Option (List Node) := foldN (S := (List Node) × Bool) (F143_s1 N n) (F143_f1 n) N l 0 ([], false)
@[push_cast] def ar45 : Rs ((List Node) × Node) := rsC (rL 5 Node.cells Node.cells_inj) (rsO rNode)
@[push_cast] def v45 (r : List Node) : AV := .sl false 5 (List.map Node.cells r)
@[push_cast] def sh45 : Shp := .one (.leaf (some 5))
noncomputable def t45 (N : Nat) : List AV → Option AV := TL ar45.e fun x => bindO (F143 N x.1 x.2) fun r => some (v45 r)
@[push_cast] def H21 : Nat → Hint
 | 0 => ⟨[0, 14, 15, 16], [0], []⟩
 | 1 => ⟨[], [0, 14, 15, 16], []⟩
 | _ => ⟨[], [], []⟩
def F1416_s1 (self21 : (List Node) → Node → Option (List Node)) (s5 : List Node) (i3 : Nat) (x4 : Node) : Option (Sum (List Node) (List Node)) := bindO (self21 s5 x4) fun r6 => some (.inl r6)
def F1416_f1  (s5 : List Node) : Option (List Node) := some s5
def F1416b (self21 : (List Node) → Node → Option (List Node)) (N : Nat) (l : List Node) (n : Node) : Option (List Node) := bindO (F1412 n) fun r1 => iteO r1 (foldN (S := List Node) (F1416_s1 self21) (F1416_f1) N n.kids 0 l) (bindO (F143 N l n) fun r2 => some r2)
def F1416 : Nat → (List Node) → Node → Option (List Node)
 | 0 => fun _ _ => none
 | N + 1 => fun l n => F1416b (F1416 N) N l n
@[push_cast] def ar21 : Rs ((List Node) × Node) := rsC (rL 5 Node.cells Node.cells_inj) (rsO rNode)
@[push_cast] def v21 (r : List Node) : AV := .sl false 5 (List.map Node.cells r)
@[push_cast] def sh21 : Shp := .one (.leaf (some 5))
noncomputable def t21 (N : Nat) : List AV → Option AV := TL ar21.e fun x => bindO (F1416 N x.1 x.2) fun r => some (v21 r)
noncomputable def ts21 (self21 : (List Node) → Node → Option (List Node)) : List AV → Option AV := TL ar21.e fun x => bindO (self21 x.1 x.2) fun r => some (v21 r)
@[push_cast] theorem t45_1 {N : Nat} (z1 : List Node) (z2 : Int) (z3 : Int) (z4 : ByteArray) (z5 : Int) (z6 : List Node) : t45 N [.sl false 5 (List.map Node.cells z1), .agg [.int .i64 z2, .int .i64 z3, .str z4, .int .i64 z5, .sl false 5 (List.map Node.cells z6)]] = bindO (F143 N z1 (⟨z2, z3, z4, z5, z6⟩ : Node)) fun r => some (v45 r) :=
 TL_hit ar45.inj (z1, (⟨z2, z3, z4, z5, z6⟩ : Node)) (by simp only [push_cast] <;> rfl)
@[push_cast] theorem t21_1 (self21 : (List Node) → Node → Option (List Node)) (z1 : List Node) (z2 : Int) (z3 : Int) (z4 : ByteArray) (z5 : Int) (z6 : List Node) : ts21 self21 [.sl false 5 (List.map Node.cells z1), .agg [.int .i64 z2, .int .i64 z3, .str z4, .int .i64 z5, .sl false 5 (List.map Node.cells z6)]] = bindO (self21 z1 (⟨z2, z3, z4, z5, z6⟩ : Node)) fun r => some (v21 r) :=
 TL_hit ar21.inj (z1, (⟨z2, z3, z4, z5, z6⟩ : Node)) (by simp only [push_cast] <;> rfl)
@[push_cast] def H10 : Nat → Hint
 | _ => ⟨[], [], []⟩
def F1408 (N : Nat) (n : Node) : Option (List Node) := bindO (F1416 N ([]) n) fun r1 => some r1
@[push_cast] def ar10 : Rs Node := rsO rNode
@[push_cast] def v10 (r : List Node) : AV := .sl false 5 (List.map Node.cells r)
@[push_cast] def sh10 : Shp := .one (.leaf (some 5))
noncomputable def t10 (N : Nat) : List AV → Option AV := TL ar10.e fun x => bindO (F1408 N x) fun r => some (v10 r)
@[push_cast] theorem t21_2 {N : Nat} (z2 : Int) (z3 : Int) (z4 : ByteArray) (z5 : Int) (z6 : List Node) : t21 N [.sl true 0 [], .agg [.int .i64 z2, .int .i64 z3, .str z4, .int .i64 z5, .sl false 5 (List.map Node.cells z6)]] = bindO (F1416 N ([]) (⟨z2, z3, z4, z5, z6⟩ : Node)) fun r => some (v21 r) :=
 TL_hit ar21.inj ([], (⟨z2, z3, z4, z5, z6⟩ : Node)) (by simp only [push_cast] <;> rfl)
@[push_cast] theorem t21_3 {N : Nat} (z2 : Int) (z3 : Int) (z4 : ByteArray) (z5 : Int) (z6 : List Node) : t21 N [.sl false 0 [], .agg [.int .i64 z2, .int .i64 z3, .str z4, .int .i64 z5, .sl false 5 (List.map Node.cells z6)]] = bindO (F1416 N ([]) (⟨z2, z3, z4, z5, z6⟩ : Node)) fun r => some (v21 r) :=
 TL_hit ar21.inj ([], (⟨z2, z3, z4, z5, z6⟩ : Node)) (by simp only [push_cast] <;> rfl)
@[push_cast] def H8 : Nat → Hint
 | 0 => ⟨[0, 1, 12, 13], [], []⟩
 | 1 => ⟨[], [0, 1, 12, 13], []⟩
 | _ => ⟨[], [], []⟩
def F1406_s1 (N : Nat) (b : List Node) (s3 : Unit) (i1 : Nat) (x2 : Node) : Option (Sum (Unit) (Bool)) := bindO (atO b (i1 : Int)) fun x4 => bindO (F21 N x2 x4) fun r5 => iteO r5 (some (.inl ())) (some (.inr false))
def F1406_f1  (s3 : Unit) : Option (Bool) := some true
def F1406 (N : Nat) (a : List Node) (b : List Node) : Option (Bool) := iteO ((a.length : Int) == (b.length : Int)) (foldN (S := Unit) (F1406_s1 N b) (F1406_f1) N a 0 ()) (some false)
@[push_cast] def ar8 : Rs ((List Node) × (List Node)) := rsC (rL 5 Node.cells Node.cells_inj) (rsO (rL 5 Node.cells Node.cells_inj))
@[push_cast] def v8 (r : Bool) : AV := .bool r
@[push_cast] def sh8 : Shp := .one (.leaf none)
noncomputable def t8 (N : Nat) : List AV → Option AV := TL ar8.e fun x => bindO (F1406 N x.1 x.2) fun r => some (v8 r)
@[push_cast] def H3 : Nat → Hint
 | 0 => ⟨[1, 2, 3, 28, 29, 30], [1, 2, 3], []⟩
 | 1 => ⟨[], [1, 2, 3, 28, 29, 30], []⟩
 | _ => ⟨[], [], []⟩
def F1402_s1 (N : Nat) (s5 : Unit) (i3 : Nat) (x4 : Node) : Option (Sum (Unit) (Bool)) := bindO (F27 N x4) fun r6 => iteO (decide (r6 > 200)) (some (.inr true)) (some (.inl ()))
def F1402_f1 (N : Nat) (atoms : List Node) (n : Node) (truths : List Bool) (s5 : Unit) : Option (Bool) := bindO (F1404 N n atoms truths) fun r7 => bindO (F1405 N n atoms truths) fun r8 => iteO (r7.1 == r8.1) (iteO (r7.2 == r8.2) (bindO (F1407 N n) fun r9 => bindO (F1408 N n) fun r10 => bindO (F1406 N r9 r10) fun r11 => some r11) (some false)) (some false)
def F1402 (N : Nat) (n : Node) (atoms : List Node) (truths : List Bool) : Option (Bool) := bindO (F1403 N) fun r1 => iteO r1 (bindO (F27 N n) fun r2 => iteO (decide (r2 > 400)) (some true) (iteO (decide ((atoms.length : Int) > 40)) (some true) (iteO (decide ((truths.length : Int) > 40)) (some true) (foldN (S := Unit) (F1402_s1 N) (F1402_f1 N atoms n truths) N atoms 0 ())))) (some false)
@[push_cast] def ar3 : Rs (Node × (List Node) × (List Bool)) := rsC rNode (rsC (rL 5 Node.cells Node.cells_inj) (rsO (rL 1 cB cB_inj)))
@[push_cast] def v3 (r : Bool) : AV := .bool r
@[push_cast] def sh3 : Shp := .one (.leaf none)
noncomputable def t3 (N : Nat) : List AV → Option AV := TL ar3.e fun x => bindO (F1402 N x.1 x.2.1 x.2.2) fun r => some (v3 r)
@[push_cast] theorem t4_1 {N : Nat}  : t4 N [] = bindO (F1403 N) fun r => some (v4 r) :=
 TL_hit ar4.inj () (by simp only [push_cast] <;> rfl)
@[push_cast] theorem t6_1 {N : Nat} (z1 : Int) (z2 : Int) (z3 : ByteArray) (z4 : Int) (z5 : List Node) (z6 : List Node) (z7 : List Bool) : t6 N [.agg [.int .i64 z1, .int .i64 z2, .str z3, .int .i64 z4, .sl false 5 (List.map Node.cells z5)], .sl false 5 (List.map Node.cells z6), .sl false 1 (List.map cB z7)] = bindO (F1404 N (⟨z1, z2, z3, z4, z5⟩ : Node) z6 z7) fun r => some (v6 r) :=
 TL_hit ar6.inj ((⟨z1, z2, z3, z4, z5⟩ : Node), z6, z7) (by simp only [push_cast] <;> rfl)
@[push_cast] theorem t7_1 {N : Nat} (z1 : Int) (z2 : Int) (z3 : ByteArray) (z4 : Int) (z5 : List Node) (z6 : List Node) (z7 : List Bool) : t7 N [.agg [.int .i64 z1, .int .i64 z2, .str z3, .int .i64 z4, .sl false 5 (List.map Node.cells z5)], .sl false 5 (List.map Node.cells z6), .sl false 1 (List.map cB z7)] = bindO (F1405 N (⟨z1, z2, z3, z4, z5⟩ : Node) z6 z7) fun r => some (v7 r) :=
 TL_hit ar7.inj ((⟨z1, z2, z3, z4, z5⟩ : Node), z6, z7) (by simp only [push_cast] <;> rfl)
@[push_cast] theorem t9_2 {N : Nat} (z1 : Int) (z2 : Int) (z3 : ByteArray) (z4 : Int) (z5 : List Node) : t9 N [.agg [.int .i64 z1, .int .i64 z2, .str z3, .int .i64 z4, .sl false 5 (List.map Node.cells z5)]] = bindO (F1407 N (⟨z1, z2, z3, z4, z5⟩ : Node)) fun r => some (v9 r) :=
 TL_hit ar9.inj (⟨z1, z2, z3, z4, z5⟩ : Node) (by simp only [push_cast] <;> rfl)
@[push_cast] theorem t10_1 {N : Nat} (z1 : Int) (z2 : Int) (z3 : ByteArray) (z4 : Int) (z5 : List Node) : t10 N [.agg [.int .i64 z1, .int .i64 z2, .str z3, .int .i64 z4, .sl false 5 (List.map Node.cells z5)]] = bindO (F1408 N (⟨z1, z2, z3, z4, z5⟩ : Node)) fun r => some (v10 r) :=
 TL_hit ar10.inj (⟨z1, z2, z3, z4, z5⟩ : Node) (by simp only [push_cast] <;> rfl)
@[push_cast] theorem t8_1 {N : Nat} (z1 : List Node) (z2 : List Node) : t8 N [.sl false 5 (List.map Node.cells z1), .sl false 5 (List.map Node.cells z2)] = bindO (F1406 N z1 z2) fun r => some (v8 r) :=
 TL_hit ar8.inj (z1, z2) (by simp only [push_cast] <;> rfl)
end Go.Abs.Try
