import Derived.Test.YtdigpkmbcojpoaaGreatSqW2
import Derived.Test.YtdigpkmbcojpoaaGreatGen3
import Derived.Test.YtdigpkmbcojpoaaGreatSqCl
set_option linter.unusedSimpArgs false
set_option linter.unusedVariables false
namespace Go.Abs.Try
abbrev Z : AV := .top
@[push_cast] theorem Z_eq : Z = AV.top := rfl
open Go.RowKit
set_option maxRecDepth 100000
set_option maxHeartbeats 4000000
def cmpS (a b : ByteArray) : Int := Lib.compareBytes a.data.toList b.data.toList
def F79 (a b : ByteArray) : Option Int := some (cmpS a b)
@[push_cast] def ar152 : Rs (ByteArray × ByteArray) := rsC rS (rsO rS)
@[push_cast] def v152 (r : Int) : AV := .int .i64 r
noncomputable def t152 : List AV → Option AV := TL ar152.e fun x => bindO (F79 x.1 x.2) fun r => some (v152 r)
@[push_cast] def H19 : Nat → Hint
 | _ => ⟨[],[],[]⟩
def F84 (op : Int) (a : Node) (b : Node) : Option (Node) := some (⟨op,0,(⟨#[]⟩ : ByteArray),0,[a,b]⟩ : Node)
@[push_cast] def ar19 : Rs (Int × Node × Node) := rsC (rI .i64) (rsC rNode (rsO rNode))
@[push_cast] def v19 (r : Node) : AV := .agg (Node.cells r)
@[push_cast] def sh19 : Shp := .one (.agg [none,none,none,none,some 5])
noncomputable def t19 : List AV → Option AV := TL ar19.e fun x => bindO (F84 x.1 x.2.1 x.2.2) fun r => some (v19 r)
@[push_cast] def H18 : Nat → Hint
 | _ => ⟨[],[],[]⟩
def F1224 (op : Int) (a : Node) : Option (Node) := some (⟨op,0,(⟨#[]⟩ : ByteArray),0,[a]⟩ : Node)
@[push_cast] def ar18 : Rs (Int × Node) := rsC (rI .i64) (rsO rNode)
@[push_cast] def v18 (r : Node) : AV := .agg (Node.cells r)
@[push_cast] def sh18 : Shp := .one (.agg [none,none,none,none,some 5])
noncomputable def t18 : List AV → Option AV := TL ar18.e fun x => bindO (F1224 x.1 x.2) fun r => some (v18 r)
@[push_cast] def H107 : Nat → Hint
 | 0 => ⟨[],[3],[]⟩
 | 1 => ⟨[],[3],[]⟩
 | _ => ⟨[],[],[]⟩
def F37_s1  (s3 : Int) (x2 : Node) : Option (Sum (Int) (Int)) := some (.inl (IntKind.i64.wrap (s3 + 1)))
def F37_f1  (s3 : Int) : Option (Int) := some s3
def F37 (n : Node) : Option (Int) := bindO (walkO n) fun l1 => foldO (S := Int) (F37_s1) (F37_f1) l1 0
@[push_cast] def ar107 : Rs Node := rsO rNode
@[push_cast] def v107 (r : Int) : AV := .int .i64 r
@[push_cast] def sh107 : Shp := .one (.leaf none)
noncomputable def t107 : List AV → Option AV := TL ar107.e fun x => bindO (F37 x) fun r => some (v107 r)
@[push_cast] def H108 : Nat → Hint
 | 0 => ⟨[3,7,8,9],[3],[]⟩
 | 1 => ⟨[],[3,7,8,9],[]⟩
 | _ => ⟨[],[],[]⟩
def F38_s1 (self108 : Node → Option (Int)) (s3 : Int) (i1 : Nat) (x2 : Node) : Option (Sum (Int) (Int)) := bindO (self108 x2) fun r4 => some (.inl (max s3 r4))
def F38_f1  (s3 : Int) : Option (Int) := some (IntKind.i64.wrap (s3 + 1))
def F38b (self108 : Node → Option (Int)) (N : Nat) (n : Node) : Option (Int) := foldN (S := Int) (F38_s1 self108) (F38_f1) N n.kids 0 0
def F38 : Nat → Node → Option (Int)
 | 0 => fun _ => none
 | N + 1 => fun n => F38b (F38 N) N n
@[push_cast] def ar108 : Rs Node := rsO rNode
@[push_cast] def v108 (r : Int) : AV := .int .i64 r
@[push_cast] def sh108 : Shp := .one (.leaf none)
noncomputable def t108 (N : Nat) : List AV → Option AV := TL ar108.e fun x => bindO (F38 N x) fun r => some (v108 r)
noncomputable def ts108 (self108 : Node → Option (Int)) : List AV → Option AV := TL ar108.e fun x => bindO (self108 x) fun r => some (v108 r)
@[push_cast] theorem t108_1 (self108 : Node → Option (Int)) (z1 : Int) (z2 : Int) (z3 : ByteArray) (z4 : Int) (z5 : List Node) : ts108 self108 [.agg [.int .i64 z1,.int .i64 z2,.str z3,.int .i64 z4,.sl false 5 (List.map Node.cells z5)]] = bindO (self108 (⟨z1,z2,z3,z4,z5⟩ : Node)) fun r => some (v108 r) :=
 TL_hit ar108.inj (⟨z1,z2,z3,z4,z5⟩ : Node) (by simp only [push_cast] <;> rfl)
@[push_cast] def H50 : Nat → Hint
 | _ => ⟨[],[],[]⟩
def F70 (N : Nat) (n : Node) : Option (Bool) := bindO (F37 n) fun r1 => iteO (decide (r1 ≤ 4000)) (bindO (F38 N n) fun r2 => some (decide (r2 ≤ 100))) (some false)
@[push_cast] def ar50 : Rs Node := rsO rNode
@[push_cast] def v50 (r : Bool) : AV := .bool r
@[push_cast] def sh50 : Shp := .one (.leaf none)
noncomputable def t50 (N : Nat) : List AV → Option AV := TL ar50.e fun x => bindO (F70 N x) fun r => some (v50 r)
@[push_cast] theorem t107_1 (z1 : Int) (z2 : Int) (z3 : ByteArray) (z4 : Int) (z5 : List Node) : t107 [.agg [.int .i64 z1,.int .i64 z2,.str z3,.int .i64 z4,.sl false 5 (List.map Node.cells z5)]] = bindO (F37 (⟨z1,z2,z3,z4,z5⟩ : Node)) fun r => some (v107 r) :=
 TL_hit ar107.inj (⟨z1,z2,z3,z4,z5⟩ : Node) (by simp only [push_cast] <;> rfl)
@[push_cast] theorem t108_2 {N : Nat} (z1 : Int) (z2 : Int) (z3 : ByteArray) (z4 : Int) (z5 : List Node) : t108 N [.agg [.int .i64 z1,.int .i64 z2,.str z3,.int .i64 z4,.sl false 5 (List.map Node.cells z5)]] = bindO (F38 N (⟨z1,z2,z3,z4,z5⟩ : Node)) fun r => some (v108 r) :=
 TL_hit ar108.inj (⟨z1,z2,z3,z4,z5⟩ : Node) (by simp only [push_cast] <;> rfl)
@[push_cast] def H163 : Nat → Hint
 | _ => ⟨[],[],[]⟩
def F73 (c : Int) : Option (Bool) := iteO (decide (c ≥ 97)) (iteO (decide (c ≤ 122)) (some true) (iteO (decide (c ≥ 65)) (some (decide (c ≤ 90))) (some false))) (iteO (decide (c ≥ 65)) (some (decide (c ≤ 90))) (some false))
@[push_cast] def ar163 : Rs Int := rsO (rI .u8)
@[push_cast] def v163 (r : Bool) : AV := .bool r
@[push_cast] def sh163 : Shp := .one (.leaf none)
noncomputable def t163 : List AV → Option AV := TL ar163.e fun x => bindO (F73 x) fun r => some (v163 r)
@[push_cast] def H164 : Nat → Hint
 | _ => ⟨[],[],[]⟩
def F74 (s : ByteArray) : Option (Bool) := iteO (s.toList == (⟨#[116,114,117,101]⟩ : ByteArray).toList) (some true) (iteO (s.toList == (⟨#[102,97,108,115,101]⟩ : ByteArray).toList) (some true) (iteO (s.toList == (⟨#[105,110]⟩ : ByteArray).toList) (some true) (iteO (s.toList == (⟨#[115,117,98]⟩ : ByteArray).toList) (some true) (iteO (s.toList == (⟨#[101,109,112,116,121]⟩ : ByteArray).toList) (some true) (iteO (s.toList == (⟨#[115,105,110,103]⟩ : ByteArray).toList) (some true) (iteO (s.toList == (⟨#[99,117,112]⟩ : ByteArray).toList) (some true) (iteO (s.toList == (⟨#[99,97,112]⟩ : ByteArray).toList) (some true) (iteO (s.toList == (⟨#[100,105,102,102]⟩ : ByteArray).toList) (some true) (iteO (s.toList == (⟨#[115,101,108]⟩ : ByteArray).toList) (some true) (iteO (s.toList == (⟨#[115,116,111]⟩ : ByteArray).toList) (some true) (iteO (s.toList == (⟨#[118,108,101,110]⟩ : ByteArray).toList) (some true) (iteO (s.toList == (⟨#[105,116,101]⟩ : ByteArray).toList) (some true) (some false)))))))))))))
@[push_cast] def ar164 : Rs ByteArray := rsO rS
@[push_cast] def v164 (r : Bool) : AV := .bool r
@[push_cast] def sh164 : Shp := .one (.leaf none)
noncomputable def t164 : List AV → Option AV := TL ar164.e fun x => bindO (F74 x) fun r => some (v164 r)
@[push_cast] def H145 : Nat → Hint
 | 0 => ⟨[0,24,25],[],[]⟩
 | 1 => ⟨[],[0,24,25],[]⟩
 | _ => ⟨[],[],[]⟩
def F16_s1 (s : ByteArray) (s5 : Unit) (i3 : Nat) (x4 : Nat) : Option (Sum (Unit) (Bool)) := bindO (F73 (bt s (i3 : Int))) fun r6 => iteO r6 (some (.inl ())) (iteO (decide ((bt s (i3 : Int)) < 48)) (iteO ((bt s (i3 : Int)) == 46) (some (.inl ())) (some (.inr false))) (iteO (decide ((bt s (i3 : Int)) > 57)) (iteO ((bt s (i3 : Int)) == 46) (some (.inl ())) (some (.inr false))) (some (.inl ()))))
def F16_f1  (s5 : Unit) : Option (Bool) := some true
def F16 (N : Nat) (s : ByteArray) : Option (Bool) := iteO (decide ((s.size : Int) < 1)) (some false) (iteO (decide ((s.size : Int) > 24)) (some false) (iteO (inB 0 s.size) (bindO (F73 (bt s 0)) fun r1 => iteO r1 (bindO (F74 s) fun r2 => iteO r2 (some false) (foldN (S := Unit) (F16_s1 s) (F16_f1) N (List.range s.size) 0 ())) (some false)) (none)))
@[push_cast] def ar145 : Rs ByteArray := rsO rS
@[push_cast] def v145 (r : Bool) : AV := .bool r
@[push_cast] def sh145 : Shp := .one (.leaf none)
noncomputable def t145 (N : Nat) : List AV → Option AV := TL ar145.e fun x => bindO (F16 N x) fun r => some (v145 r)
@[push_cast] theorem t163_1 (z1 : Int) : t163 [.int .u8 z1] = bindO (F73 z1) fun r => some (v163 r) :=
 TL_hit ar163.inj z1 (by simp only [push_cast] <;> rfl)
@[push_cast] theorem t164_1 (z1 : ByteArray) : t164 [.str z1] = bindO (F74 z1) fun r => some (v164 r) :=
 TL_hit ar164.inj z1 (by simp only [push_cast] <;> rfl)
@[push_cast] def H109 : Nat → Hint
 | 0 => ⟨[],[1],[]⟩
 | _ => ⟨[],[],[]⟩
def F116 (N : Nat) (n : Node) : Option (Bool) := iteO (n.op == 1) (bindO (F16 N n.name) fun r2 => iteO r2 (iteO (decide (n.sortf < 1)) (some false) (iteO (decide (n.sortf > 5)) (some false) (iteO (n.op == 2) (iteO (decide (n.num ≥ (-1000000000000))) (some (decide (n.num ≤ 1000000000000))) (some false)) (iteO (n.op == 7) (iteO (decide (n.num ≥ (-1000000000000))) (some (decide (n.num ≤ 1000000000000))) (some false)) (iteO (n.op == 42) (iteO (decide (n.num ≥ 0)) (some (decide (n.num < 200))) (some false)) (some (n.num == 0))))))) (some false)) (bindO (F16 N n.name) fun r1 => iteO ((n.op == 3) == r1) (iteO (n.op == 3) (iteO (decide (n.sortf < 1)) (some false) (iteO (decide (n.sortf > 5)) (some false) (iteO (n.op == 2) (iteO (decide (n.num ≥ (-1000000000000))) (some (decide (n.num ≤ 1000000000000))) (some false)) (iteO (n.op == 7) (iteO (decide (n.num ≥ (-1000000000000))) (some (decide (n.num ≤ 1000000000000))) (some false)) (iteO (n.op == 42) (iteO (decide (n.num ≥ 0)) (some (decide (n.num < 200))) (some false)) (some (n.num == 0))))))) (iteO (n.name.toList == (⟨#[]⟩ : ByteArray).toList) (iteO (n.sortf == 0) (iteO (n.op == 2) (iteO (decide (n.num ≥ (-1000000000000))) (some (decide (n.num ≤ 1000000000000))) (some false)) (iteO (n.op == 7) (iteO (decide (n.num ≥ (-1000000000000))) (some (decide (n.num ≤ 1000000000000))) (some false)) (iteO (n.op == 42) (iteO (decide (n.num ≥ 0)) (some (decide (n.num < 200))) (some false)) (some (n.num == 0))))) (some false)) (some false))) (some false))
@[push_cast] def ar109 : Rs Node := rsO rNode
@[push_cast] def v109 (r : Bool) : AV := .bool r
@[push_cast] def sh109 : Shp := .one (.leaf none)
noncomputable def t109 (N : Nat) : List AV → Option AV := TL ar109.e fun x => bindO (F116 N x) fun r => some (v109 r)
@[push_cast] theorem t145_1 {N : Nat} (z1 : ByteArray) : t145 N [.str z1] = bindO (F16 N z1) fun r => some (v145 r) :=
 TL_hit ar145.inj z1 (by simp only [push_cast] <;> rfl)
@[push_cast] def H53 : Nat → Hint
 | 0 => ⟨[1],[1],[]⟩
 | 1 => ⟨[],[1],[]⟩
 | 2 => ⟨[],[1],[]⟩
 | _ => ⟨[],[],[]⟩
def F36_s1  (s1 : Int × Int × ByteArray × Int × (List Node)) : Option (Sum (Int × Int × ByteArray × Int × (List Node)) (Int)) := iteO (s1.1 == 8) (iteO (decide ((s1.2.2.2.2.length : Int) < 2)) (some (.inr 0)) (bindO (atO s1.2.2.2.2 1) fun x2 => some (.inl (x2.op,x2.sortf,x2.name,x2.num,x2.kids)))) (iteO (s1.1 == 1) (some (.inr s1.2.1)) (iteO (s1.1 == 3) (some (.inr s1.2.1)) (iteO (s1.1 == 2) (some (.inr 1)) (iteO (s1.1 == 4) (some (.inr 1)) (iteO (s1.1 == 5) (some (.inr 1)) (iteO (s1.1 == 6) (some (.inr 1)) (iteO (s1.1 == 7) (some (.inr 1)) (iteO (s1.1 == 14) (some (.inr 1)) (iteO (s1.1 == 16) (some (.inr 1)) (iteO (s1.1 == 9) (some (.inr 4)) (iteO (s1.1 == 10) (some (.inr 4)) (iteO (s1.1 == 11) (some (.inr 4)) (iteO (s1.1 == 12) (some (.inr 4)) (iteO (s1.1 == 13) (some (.inr 4)) (iteO (s1.1 == 15) (some (.inr 5)) (iteO (decide (s1.1 ≥ 30)) (iteO (decide (s1.1 ≤ 42)) (some (.inr 2)) (some (.inr 0))) (some (.inr 0))))))))))))))))))
def F36 (N : Nat) (n : Node) : Option (Int) := whileN (S := Int × Int × ByteArray × Int × (List Node)) (F36_s1) N (n.op,n.sortf,n.name,n.num,n.kids)
@[push_cast] def ar53 : Rs Node := rsO rNode
@[push_cast] def v53 (r : Int) : AV := .int .i64 r
@[push_cast] def sh53 : Shp := .one (.leaf none)
noncomputable def t53 (N : Nat) : List AV → Option AV := TL ar53.e fun x => bindO (F36 N x) fun r => some (v53 r)
@[push_cast] def H146 : Nat → Hint
 | _ => ⟨[],[],[]⟩
def F153 (op : Int) : Option ((List Int) × Bool) := iteO (op == 2) (some ([],true)) (iteO (op == 9) (some ([],true)) (iteO (op == 30) (some ([],true)) (iteO (op == 31) (some ([],true)) (iteO (op == 1) (some ([],true)) (iteO (op == 4) (some ([1,1],true)) (iteO (op == 5) (some ([1,1],true)) (iteO (op == 38) (some ([1,1],true)) (iteO (op == 39) (some ([1,1],true)) (iteO (op == 6) (some ([1],true)) (iteO (op == 7) (some ([1],true)) (iteO (op == 10) (some ([1],true)) (iteO (op == 11) (some ([4,4],true)) (iteO (op == 12) (some ([4,4],true)) (iteO (op == 13) (some ([4,4],true)) (iteO (op == 41) (some ([4,4],true)) (iteO (op == 40) (some ([1,4],true)) (iteO (op == 14) (some ([5,1],true)) (iteO (op == 15) (some ([5,1,1],true)) (iteO (op == 16) (some ([5],true)) (iteO (op == 32) (some ([2],true)) (iteO (op == 33) (some ([2,2],true)) (iteO (op == 34) (some ([2,2],true)) (iteO (op == 35) (some ([2,2],true)) (iteO (op == 36) (some ([2,2],true)) (some ([],false))))))))))))))))))))))))))
@[push_cast] def ar146 : Rs Int := rsO (rI .i64)
@[push_cast] def v146 (r : (List Int) × Bool) : AV := .tuple [.sl false 1 (List.map (cI .i64) r.1),.bool r.2]
@[push_cast] def sh146 : Shp := .tup [.leaf (some 1),.leaf none]
noncomputable def t146 : List AV → Option AV := TL ar146.e fun x => bindO (F153 x) fun r => some (v146 r)
@[push_cast] def H147 : Nat → Hint
 | 0 => ⟨[0,1,12,13],[],[]⟩
 | 1 => ⟨[],[0,1,12,13],[]⟩
 | _ => ⟨[],[],[]⟩
def F154_s1 (s2q : List Int) (s3 : Unit) (i1 : Nat) (x2 : Int) : Option (Sum (Unit) (Bool)) := bindO (atO s2q (i1 : Int)) fun x4 => iteO (x2 == x4) (some (.inl ())) (some (.inr false))
def F154_f1  (s3 : Unit) : Option (Bool) := some true
def F154 (N : Nat) (s1q : List Int) (s2q : List Int) : Option (Bool) := iteO ((s1q.length : Int) == (s2q.length : Int)) (foldN (S := Unit) (F154_s1 s2q) (F154_f1) N s1q 0 ()) (some false)
@[push_cast] def ar147 : Rs ((List Int) × (List Int)) := rsC (rL 1 (cI .i64) (cI_inj .i64)) (rsO (rL 1 (cI .i64) (cI_inj .i64)))
@[push_cast] def v147 (r : Bool) : AV := .bool r
@[push_cast] def sh147 : Shp := .one (.leaf none)
noncomputable def t147 (N : Nat) : List AV → Option AV := TL ar147.e fun x => bindO (F154 N x.1 x.2) fun r => some (v147 r)
@[push_cast] def H110 : Nat → Hint
 | 0 => ⟨[1,3,14,15,16],[1,3],[]⟩
 | 1 => ⟨[],[1,3,14,15,16],[]⟩
 | _ => ⟨[],[],[]⟩
@[push_cast] def H148 : Nat → Hint
 | _ => ⟨[],[],[]⟩
def F117_s1 (N : Nat) (s3 : List Int) (i1 : Nat) (x2 : Node) : Option (Sum (List Int) (Bool)) := bindO (F36 N x2) fun r4 => bindO (atO s3 (i1 : Int)) fun x5 => some (.inl (s3.set i1 r4))
def F117_f1 (N : Nat) (n : Node) (s3 : List Int) : Option (Bool) := bindO (F153 n.op) fun r6 => iteO r6.2 (bindO (F154 N s3 r6.1) fun r7 => some r7) (iteO (n.op == 8) (iteO (((s3.length : Int)) == 3) (bindO (atO s3 0) fun x8 => iteO (x8 == 2) (bindO (atO s3 1) fun x9 => bindO (atO s3 2) fun x10 => iteO (x9 == x10) (iteO (x9 == 1) (some true) (some (decide (x9 ≥ 3)))) (some false)) (some false)) (some false)) (iteO (n.op == 37) (iteO (((s3.length : Int)) == 2) (bindO (atO s3 0) fun x11 => bindO (atO s3 1) fun x12 => iteO (x11 == x12) (iteO (x11 == 1) (some true) (some (decide (x11 ≥ 3)))) (some false)) (some false)) (iteO (n.op == 3) (some (decide (((s3.length : Int)) ≤ 8))) (iteO (n.op == 42) (iteO (decide (((s3.length : Int)) ≥ 1)) (some (decide (((s3.length : Int)) ≤ 40))) (some false)) (some false)))))
def F117 (N : Nat) (n : Node) : Option (Bool) := iteO (decide (0 ≤ (n.kids.length : Int) ∧ (n.kids.length : Int) ≤ (n.kids.length : Int) ∧ (n.kids.length : Int) * 8 ≤ 140737488355328 ∧ (n.kids.length : Int) ≤ 9223372036854775807)) (foldN (S := List Int) (F117_s1 N) (F117_f1 N n) N n.kids 0 (List.replicate n.kids.length 0)) (none)
@[push_cast] def ar110 : Rs Node := rsO rNode
@[push_cast] def v110 (r : Bool) : AV := .bool r
@[push_cast] def sh110 : Shp := .one (.leaf none)
noncomputable def t110 (N : Nat) : List AV → Option AV := TL ar110.e fun x => bindO (F117 N x) fun r => some (v110 r)
@[push_cast] theorem t53_1 {N : Nat} (z1 : Int) (z2 : Int) (z3 : ByteArray) (z4 : Int) (z5 : List Node) : t53 N [.agg [.int .i64 z1,.int .i64 z2,.str z3,.int .i64 z4,.sl false 5 (List.map Node.cells z5)]] = bindO (F36 N (⟨z1,z2,z3,z4,z5⟩ : Node)) fun r => some (v53 r) :=
 TL_hit ar53.inj (⟨z1,z2,z3,z4,z5⟩ : Node) (by simp only [push_cast] <;> rfl)
@[push_cast] theorem t146_1 (z1 : Int) : t146 [.int .i64 z1] = bindO (F153 z1) fun r => some (v146 r) :=
 TL_hit ar146.inj z1 (by simp only [push_cast] <;> rfl)
@[push_cast] theorem t147_1 {N : Nat} (z1 : List Int) (z2 : List Int) : t147 N [.sl false 1 (List.map (cI .i64) z1),.sl false 1 (List.map (cI .i64) z2)] = bindO (F154 N z1 z2) fun r => some (v147 r) :=
 TL_hit ar147.inj (z1,z2) (by simp only [push_cast] <;> rfl)
@[push_cast] def H51 : Nat → Hint
 | 0 => ⟨[],[2],[]⟩
 | 1 => ⟨[],[2],[]⟩
 | _ => ⟨[],[],[]⟩
def F71_s1 (N : Nat) (s3 : Unit) (x2 : Node) : Option (Sum (Unit) (Bool)) := bindO (F116 N x2) fun r4 => iteO r4 (bindO (F117 N x2) fun r5 => iteO r5 (some (.inl ())) (some (.inr false))) (some (.inr false))
def F71_f1  (s3 : Unit) : Option (Bool) := some true
def F71 (N : Nat) (n : Node) : Option (Bool) := bindO (walkO n) fun l1 => foldO (S := Unit) (F71_s1 N) (F71_f1) l1 ()
@[push_cast] def ar51 : Rs Node := rsO rNode
@[push_cast] def v51 (r : Bool) : AV := .bool r
@[push_cast] def sh51 : Shp := .one (.leaf none)
noncomputable def t51 (N : Nat) : List AV → Option AV := TL ar51.e fun x => bindO (F71 N x) fun r => some (v51 r)
@[push_cast] theorem t109_1 {N : Nat} (z1 : Int) (z2 : Int) (z3 : ByteArray) (z4 : Int) (z5 : List Node) : t109 N [.agg [.int .i64 z1,.int .i64 z2,.str z3,.int .i64 z4,.sl false 5 (List.map Node.cells z5)]] = bindO (F116 N (⟨z1,z2,z3,z4,z5⟩ : Node)) fun r => some (v109 r) :=
 TL_hit ar109.inj (⟨z1,z2,z3,z4,z5⟩ : Node) (by simp only [push_cast] <;> rfl)
@[push_cast] theorem t110_1 {N : Nat} (z1 : Int) (z2 : Int) (z3 : ByteArray) (z4 : Int) (z5 : List Node) : t110 N [.agg [.int .i64 z1,.int .i64 z2,.str z3,.int .i64 z4,.sl false 5 (List.map Node.cells z5)]] = bindO (F117 N (⟨z1,z2,z3,z4,z5⟩ : Node)) fun r => some (v110 r) :=
 TL_hit ar110.inj (⟨z1,z2,z3,z4,z5⟩ : Node) (by simp only [push_cast] <;> rfl)
@[push_cast] def H52 : Nat → Hint
 | 0 => ⟨[],[2],[]⟩
 | 1 => ⟨[],[2,3],[]⟩
 | _ => ⟨[],[],[]⟩
def F40_s1  (s3 : ByteArray → Option Int) (x2 : Node) : Option (Sum (ByteArray → Option Int) (Bool)) := iteO (x2.op == 3) (optO (s3 x2.name) (fun m4 => iteO ((x2.kids.length : Int) == 0) (iteO (m4 == (-4611686018427387904)) (iteO (x2.op == 1) (some (.inr false)) (some (.inl (putM s3 x2.name (-4611686018427387904))))) (some (.inr false))) (iteO (x2.op == 1) (iteO (m4 == (-4611686018427387904)) (some (.inr false)) (optO (s3 x2.name) (fun m5 => iteO (m5 == x2.sortf) (some (.inl (putM s3 x2.name x2.sortf))) (some (.inr false))) (some (.inl (putM s3 x2.name x2.sortf))))) (some (.inl s3)))) (iteO ((x2.kids.length : Int) == 0) (iteO (x2.op == 1) (optO ((putM s3 x2.name (-4611686018427387904)) x2.name) (fun m6 => iteO (m6 == x2.sortf) (some (.inl (putM (putM s3 x2.name (-4611686018427387904)) x2.name x2.sortf))) (some (.inr false))) (some (.inl (putM (putM s3 x2.name (-4611686018427387904)) x2.name x2.sortf)))) (some (.inl (putM s3 x2.name (-4611686018427387904))))) (iteO (x2.op == 1) (optO (s3 x2.name) (fun m7 => iteO (m7 == x2.sortf) (some (.inl (putM s3 x2.name x2.sortf))) (some (.inr false))) (some (.inl (putM s3 x2.name x2.sortf)))) (some (.inl s3))))) (optO (s3 x2.name) (fun m8 => iteO (x2.op == 1) (iteO (m8 == (-4611686018427387904)) (some (.inr false)) (optO (s3 x2.name) (fun m9 => iteO (m9 == x2.sortf) (some (.inl (putM s3 x2.name x2.sortf))) (some (.inr false))) (some (.inl (putM s3 x2.name x2.sortf))))) (some (.inl s3))) (iteO (x2.op == 1) (optO (s3 x2.name) (fun m10 => iteO (m10 == x2.sortf) (some (.inl (putM s3 x2.name x2.sortf))) (some (.inr false))) (some (.inl (putM s3 x2.name x2.sortf)))) (some (.inl s3))))
def F40_f1  (s3 : ByteArray → Option Int) : Option (Bool) := some true
def F40 (n : Node) : Option (Bool) := bindO (walkO n) fun l1 => foldO (S := ByteArray → Option Int) (F40_s1) (F40_f1) l1 (fun _ => none)
@[push_cast] def ar52 : Rs Node := rsO rNode
@[push_cast] def v52 (r : Bool) : AV := .bool r
@[push_cast] def sh52 : Shp := .one (.leaf none)
noncomputable def t52 : List AV → Option AV := TL ar52.e fun x => bindO (F40 x) fun r => some (v52 r)
theorem mk94 {E : Env} {fr : Fr} {σ : Store} {t : Nat} (hty : E.ty = tys) : run (aOp E fr σ t (.makeMap 94 none)) = some (.map σ.length,σ ++ [.map .string (mS (evI .i64) fun _ => none)]) := by
 rw [r_makeMap,hty, ← mS_empty (evI .i64)]
 simp only [push_cast,ty94,ty9] <;> rfl
@[push_cast] def H20 : Nat → Hint
 | _ => ⟨[],[],[]⟩
def F14 (N : Nat) (n : Node) (sortq : Int) : Option (Int) := iteO (decide (sortq < 0)) (some 1) (iteO (decide (sortq > 5)) (some 1) (bindO (F70 N n) fun r1 => iteO r1 (bindO (F71 N n) fun r2 => iteO r2 (bindO (F40 n) fun r3 => iteO r3 (iteO (sortq == 0) (some 0) (bindO (F36 N n) fun r4 => iteO (r4 == sortq) (some 0) (some 10))) (some 3)) (some 3)) (some 2)))
@[push_cast] def ar20 : Rs (Node × Int) := rsC rNode (rsO (rI .i64))
@[push_cast] def v20 (r : Int) : AV := .int .i64 r
@[push_cast] def sh20 : Shp := .one (.leaf none)
noncomputable def t20 (N : Nat) : List AV → Option AV := TL ar20.e fun x => bindO (F14 N x.1 x.2) fun r => some (v20 r)
@[push_cast] theorem t50_1 {N : Nat} (z1 : Int) (z2 : Int) (z3 : ByteArray) (z4 : Int) (z5 : List Node) : t50 N [.agg [.int .i64 z1,.int .i64 z2,.str z3,.int .i64 z4,.sl false 5 (List.map Node.cells z5)]] = bindO (F70 N (⟨z1,z2,z3,z4,z5⟩ : Node)) fun r => some (v50 r) :=
 TL_hit ar50.inj (⟨z1,z2,z3,z4,z5⟩ : Node) (by simp only [push_cast] <;> rfl)
@[push_cast] theorem t51_1 {N : Nat} (z1 : Int) (z2 : Int) (z3 : ByteArray) (z4 : Int) (z5 : List Node) : t51 N [.agg [.int .i64 z1,.int .i64 z2,.str z3,.int .i64 z4,.sl false 5 (List.map Node.cells z5)]] = bindO (F71 N (⟨z1,z2,z3,z4,z5⟩ : Node)) fun r => some (v51 r) :=
 TL_hit ar51.inj (⟨z1,z2,z3,z4,z5⟩ : Node) (by simp only [push_cast] <;> rfl)
@[push_cast] theorem t52_1 (z1 : Int) (z2 : Int) (z3 : ByteArray) (z4 : Int) (z5 : List Node) : t52 [.agg [.int .i64 z1,.int .i64 z2,.str z3,.int .i64 z4,.sl false 5 (List.map Node.cells z5)]] = bindO (F40 (⟨z1,z2,z3,z4,z5⟩ : Node)) fun r => some (v52 r) :=
 TL_hit ar52.inj (⟨z1,z2,z3,z4,z5⟩ : Node) (by simp only [push_cast] <;> rfl)
@[push_cast] def H21 : Nat → Hint
 | 0 => ⟨[],[2],[]⟩
 | 1 => ⟨[],[2],[]⟩
 | _ => ⟨[],[],[]⟩
def F42_s1  (s3 : Unit) (x2 : Node) : Option (Sum (Unit) (Bool)) := iteO (x2.op == 42) (some (.inr true)) (some (.inl ()))
def F42_f1  (s3 : Unit) : Option (Bool) := some false
def F42 (n : Node) : Option (Bool) := bindO (walkO n) fun l1 => foldO (S := Unit) (F42_s1) (F42_f1) l1 ()
@[push_cast] def ar21 : Rs Node := rsO rNode
@[push_cast] def v21 (r : Bool) : AV := .bool r
@[push_cast] def sh21 : Shp := .one (.leaf none)
noncomputable def t21 : List AV → Option AV := TL ar21.e fun x => bindO (F42 x) fun r => some (v21 r)
@[push_cast] def H55 : Nat → Hint
 | 0 => ⟨[3,9,10,11],[3],[]⟩
 | 1 => ⟨[],[3,9,10,11],[]⟩
 | _ => ⟨[],[],[]⟩
def F1243_s1 (N : Nat) (s3 : List Int) (i1 : Nat) (x2 : Node) : Option (Sum (List Int) (List Int)) := bindO (F36 N x2) fun r4 => bindO (atO s3 (i1 : Int)) fun x5 => some (.inl (s3.set i1 r4))
def F1243_f1  (s3 : List Int) : Option (List Int) := some s3
def F1243 (N : Nat) (l : List Node) : Option (List Int) := iteO (decide (0 ≤ (l.length : Int) ∧ (l.length : Int) ≤ (l.length : Int) ∧ (l.length : Int) * 8 ≤ 140737488355328 ∧ (l.length : Int) ≤ 9223372036854775807)) (foldN (S := List Int) (F1243_s1 N) (F1243_f1) N l 0 (List.replicate l.length 0)) (none)
@[push_cast] def ar55 : Rs (List Node) := rsO (rL 5 Node.cells Node.cells_inj)
@[push_cast] def v55 (r : List Int) : AV := .sl false 1 (List.map (cI .i64) r)
@[push_cast] def sh55 : Shp := .one (.leaf (some 1))
noncomputable def t55 (N : Nat) : List AV → Option AV := TL ar55.e fun x => bindO (F1243 N x) fun r => some (v55 r)
@[push_cast] def H57 : Nat → Hint
 | 0 => ⟨[2,3,45,46],[],[]⟩
 | 1 => ⟨[],[2,3,45,46],[]⟩
 | _ => ⟨[],[],[]⟩
def F1245_s1 (N : Nat) (b : Node) (s3 : Unit) (i1 : Nat) (x2 : Node) : Option (Sum (Unit) (Bool)) := bindO (F36 N x2) fun r4 => bindO (atO b.kids (i1 : Int)) fun x5 => bindO (F36 N x5) fun r6 => iteO (r4 == r6) (some (.inl ())) (some (.inr false))
def F1245_f1  (s3 : Unit) : Option (Bool) := some true
def F1245 (N : Nat) (a : Node) (b : Node) : Option (Bool) := iteO (a.op == 3) (iteO (b.op == 3) (iteO (a.name.toList == b.name.toList) (iteO (a.sortf == b.sortf) (iteO ((a.kids.length : Int) == (b.kids.length : Int)) (iteO ((a.kids.length : Int) == 0) (some false) (foldN (S := Unit) (F1245_s1 N b) (F1245_f1) N a.kids 0 ())) (some false)) (some false)) (some false)) (some false)) (some false)
@[push_cast] def ar57 : Rs (Node × Node) := rsC rNode (rsO rNode)
@[push_cast] def v57 (r : Bool) : AV := .bool r
@[push_cast] def sh57 : Shp := .one (.leaf none)
noncomputable def t57 (N : Nat) : List AV → Option AV := TL ar57.e fun x => bindO (F1245 N x.1 x.2) fun r => some (v57 r)
@[push_cast] def H113 : Nat → Hint
 | _ => ⟨[],[],[]⟩
def F1282 (op : Int) (a : Node) (b : Node) : Option (Node) := some (⟨op,0,(⟨#[]⟩ : ByteArray),0,[a,b]⟩ : Node)
@[push_cast] def ar113 : Rs (Int × Node × Node) := rsC (rI .i64) (rsC rNode (rsO rNode))
@[push_cast] def v113 (r : Node) : AV := .agg (Node.cells r)
@[push_cast] def sh113 : Shp := .one (.agg [none,none,none,none,some 5])
noncomputable def t113 : List AV → Option AV := TL ar113.e fun x => bindO (F1282 x.1 x.2.1 x.2.2) fun r => some (v113 r)
@[push_cast] def H91 : Nat → Hint
 | _ => ⟨[],[],[]⟩
def F1270 (N : Nat) (a : Node) (b : Node) : Option (Node) := bindO (F36 N a) fun r1 => iteO (r1 == 2) (bindO (F1282 36 a b) fun r2 => some r2) (bindO (F1282 37 a b) fun r3 => some r3)
@[push_cast] def ar91 : Rs (Node × Node) := rsC rNode (rsO rNode)
@[push_cast] def v91 (r : Node) : AV := .agg (Node.cells r)
@[push_cast] def sh91 : Shp := .one (.agg [none,none,none,none,some 5])
noncomputable def t91 (N : Nat) : List AV → Option AV := TL ar91.e fun x => bindO (F1270 N x.1 x.2) fun r => some (v91 r)
@[push_cast] theorem t113_1 (z1 : Int) (z2 : Int) (z3 : Int) (z4 : ByteArray) (z5 : Int) (z6 : List Node) (z7 : Int) (z8 : Int) (z9 : ByteArray) (z10 : Int) (z11 : List Node) : t113 [.int .i64 z1,.agg [.int .i64 z2,.int .i64 z3,.str z4,.int .i64 z5,.sl false 5 (List.map Node.cells z6)],.agg [.int .i64 z7,.int .i64 z8,.str z9,.int .i64 z10,.sl false 5 (List.map Node.cells z11)]] = bindO (F1282 z1 (⟨z2,z3,z4,z5,z6⟩ : Node) (⟨z7,z8,z9,z10,z11⟩ : Node)) fun r => some (v113 r) :=
 TL_hit ar113.inj (z1,(⟨z2,z3,z4,z5,z6⟩ : Node),(⟨z7,z8,z9,z10,z11⟩ : Node)) (by simp only [push_cast] <;> rfl)
@[push_cast] def H119 : Nat → Hint
 | 0 => ⟨[1,2,10,11,12],[1,2],[]⟩
 | 1 => ⟨[],[1,2,10,11,12],[]⟩
 | _ => ⟨[],[],[]⟩
def F82_s1 (self119 : Node → Option (Node)) (s3 : List Node) (i1 : Nat) (x2 : Nat) : Option (Sum (List Node) (Node)) := bindO (atO s3 (i1 : Int)) fun x4 => bindO (self119 x4) fun r5 => some (.inl (s3.set i1 r5))
def F82_f1 (n : Node) (s3 : List Node) : Option (Node) := some (⟨n.op,n.sortf,n.name,n.num,s3⟩ : Node)
def F82b (self119 : Node → Option (Node)) (N : Nat) (n : Node) : Option (Node) := iteO (fits (n.kids.length) 64) (foldN (S := List Node) (F82_s1 self119) (F82_f1 n) N (List.range ((n.kids.length : Int)).toNat) 0 n.kids) (none)
def F82 : Nat → Node → Option (Node)
 | 0 => fun _ => none
 | N + 1 => fun n => F82b (F82 N) N n
@[push_cast] def ar119 : Rs Node := rsO rNode
@[push_cast] def v119 (r : Node) : AV := .agg (Node.cells r)
@[push_cast] def sh119 : Shp := .one (.agg [none,none,none,none,some 5])
noncomputable def t119 (N : Nat) : List AV → Option AV := TL ar119.e fun x => bindO (F82 N x) fun r => some (v119 r)
noncomputable def ts119 (self119 : Node → Option (Node)) : List AV → Option AV := TL ar119.e fun x => bindO (self119 x) fun r => some (v119 r)
@[push_cast] theorem t119_1 (self119 : Node → Option (Node)) (z1 : Int) (z2 : Int) (z3 : ByteArray) (z4 : Int) (z5 : List Node) : ts119 self119 [.agg [.int .i64 z1,.int .i64 z2,.str z3,.int .i64 z4,.sl false 5 (List.map Node.cells z5)]] = bindO (self119 (⟨z1,z2,z3,z4,z5⟩ : Node)) fun r => some (v119 r) :=
 TL_hit ar119.inj (⟨z1,z2,z3,z4,z5⟩ : Node) (by simp only [push_cast] <;> rfl)
@[push_cast] def H90 : Nat → Hint
 | 0 => ⟨[2,3,15,16,17,1001004],[2,3],[]⟩
 | 1 => ⟨[],[2,3,15,16,17],[]⟩
 | _ => ⟨[],[],[]⟩
def F52_s2 (N : Nat) (s8 : Int × Int × ByteArray × Int × (List Node)) (i6 : Nat) (x7 : Node) : Option (Sum (Int × Int × ByteArray × Int × (List Node)) (Node)) := bindO (F82 N x7) fun r9 => some (.inl (33,0,(⟨#[]⟩ : ByteArray),0,[(⟨s8.1,s8.2.1,s8.2.2.1,s8.2.2.2.1,s8.2.2.2.2⟩ : Node),r9]))
def F52_f2  (s8 : Int × Int × ByteArray × Int × (List Node)) : Option (Node) := some (⟨s8.1,s8.2.1,s8.2.2.1,s8.2.2.2.1,s8.2.2.2.2⟩ : Node)
def F52 (N : Nat) (l : List Node) : Option (Node) := iteO ((l.length : Int) == 0) (some (⟨30,0,(⟨#[]⟩ : ByteArray),0,[]⟩ : Node)) (bindO (atO l 0) fun x1 => bindO (F82 N x1) fun r2 => iteO (inS 1 (l.length : Int) l.length) (foldN (S := Int × Int × ByteArray × Int × (List Node)) (F52_s2 N) (F52_f2) N (cutL l 1 (l.length : Int)) 0 (r2.op,r2.sortf,r2.name,r2.num,r2.kids)) (none))
@[push_cast] def ar90 : Rs (List Node) := rsO (rL 5 Node.cells Node.cells_inj)
@[push_cast] def v90 (r : Node) : AV := .agg (Node.cells r)
@[push_cast] def sh90 : Shp := .one (.agg [none,none,none,none,some 5])
noncomputable def t90 (N : Nat) : List AV → Option AV := TL ar90.e fun x => bindO (F52 N x) fun r => some (v90 r)
@[push_cast] theorem t119_2 {N : Nat} (z1 : Int) (z2 : Int) (z3 : ByteArray) (z4 : Int) (z5 : List Node) : t119 N [.agg [.int .i64 z1,.int .i64 z2,.str z3,.int .i64 z4,.sl false 5 (List.map Node.cells z5)]] = bindO (F82 N (⟨z1,z2,z3,z4,z5⟩ : Node)) fun r => some (v119 r) :=
 TL_hit ar119.inj (⟨z1,z2,z3,z4,z5⟩ : Node) (by simp only [push_cast] <;> rfl)
@[push_cast] def H58 : Nat → Hint
 | 0 => ⟨[2,3,4,5,9,10],[2,3,4,5],[]⟩
 | 1 => ⟨[],[2,3,4,5,9,10],[]⟩
 | _ => ⟨[],[],[]⟩
@[push_cast] def ali58 : Nat → List (Nat × Nat)
 | 7 => [(2,2),(3,3)]
 | _ => []
def F1246_s1 (N : Nat) (b : Node) (s3 : List Node) (i1 : Nat) (x2 : Node) : Option (Sum (List Node) (Node)) := bindO (atO b.kids (i1 : Int)) fun x4 => bindO (F1270 N x2 x4) fun r5 => iteO (fits (s3.length + 1) 64) (some (.inl (s3 ++ ([r5])))) (none)
def F1246_f1 (N : Nat) (a : Node) (b : Node) (s3 : List Node) : Option (Node) := bindO (F52 N s3) fun r6 => bindO (F1270 N a b) fun r7 => bindO (F1282 35 r6 r7) fun r8 => some r8
def F1246 (N : Nat) (a : Node) (b : Node) : Option (Node) := foldN (S := List Node) (F1246_s1 N b) (F1246_f1 N a b) N a.kids 0 ([])
@[push_cast] def ar58 : Rs (Node × Node) := rsC rNode (rsO rNode)
@[push_cast] def v58 (r : Node) : AV := .agg (Node.cells r)
@[push_cast] def sh58 : Shp := .one (.agg [none,none,none,none,some 5])
noncomputable def t58 (N : Nat) : List AV → Option AV := TL ar58.e fun x => bindO (F1246 N x.1 x.2) fun r => some (v58 r)
@[push_cast] theorem t91_1 {N : Nat} (z1 : Int) (z2 : Int) (z3 : ByteArray) (z4 : Int) (z5 : List Node) (z6 : Int) (z7 : Int) (z8 : ByteArray) (z9 : Int) (z10 : List Node) : t91 N [.agg [.int .i64 z1,.int .i64 z2,.str z3,.int .i64 z4,.sl false 5 (List.map Node.cells z5)],.agg [.int .i64 z6,.int .i64 z7,.str z8,.int .i64 z9,.sl false 5 (List.map Node.cells z10)]] = bindO (F1270 N (⟨z1,z2,z3,z4,z5⟩ : Node) (⟨z6,z7,z8,z9,z10⟩ : Node)) fun r => some (v91 r) :=
 TL_hit ar91.inj ((⟨z1,z2,z3,z4,z5⟩ : Node),(⟨z6,z7,z8,z9,z10⟩ : Node)) (by simp only [push_cast] <;> rfl)
@[push_cast] theorem t90_1 {N : Nat} (z1 : List Node) : t90 N [.sl false 5 (List.map Node.cells z1)] = bindO (F52 N z1) fun r => some (v90 r) :=
 TL_hit ar90.inj z1 (by simp only [push_cast] <;> rfl)
@[push_cast] def H2001 : Nat → Hint
 | 0 => ⟨[0,1,11,12],[],[]⟩
 | 1 => ⟨[],[0,1,11,12],[]⟩
 | _ => ⟨[],[],[]⟩
def F1394_s1 (h2 : List Int) (s3 : Unit) (i1 : Nat) (x2 : Int) : Option (Sum (Unit) (Bool)) := bindO (atO h2 (i1 : Int)) fun x4 => iteO (x4 == x2) (some (.inl ())) (some (.inr false))
def F1394_f1  (s3 : Unit) : Option (Bool) := some true
def F1394 (N : Nat) (u1 : List Int) (h2 : List Int) : Option (Bool) := iteO ((h2.length : Int) == (u1.length : Int)) (foldN (S := Unit) (F1394_s1 h2) (F1394_f1) N u1 0 ()) (some false)
@[push_cast] def ar2001 : Ra ((List Int) × (Unit)) := raC (rL 1 (cI .i64) (cI_inj .i64)) (raK (.ptr 0 0) (wkc_ptr _ _) (raN))
@[push_cast] def st2001 : Rt (((List Int) × Unit) × (Unit)) := rtC (oVar (rcL 1 (cI .i64) (cI_inj .i64) (rcN))) (rtN)
@[push_cast] def v2001 (u1 : List Int) (h2 : List Int) (r : Bool) : AV := .bool r
@[push_cast] def so2001 (u1 : List Int) (h2 : List Int) (r : Bool) : Store := [.var [.sl false 1 (List.map (cI .i64) h2)]]
@[push_cast] def sh2001 : Shp := .one (.leaf none)
@[push_cast] def sw2001 : List ShO := [.var [some 1]]
noncomputable def t2001 (N : Nat) : List AV → Store → Option (AV × Store) := TLX (fun x : ((List Int) × (Unit)) × (((List Int) × Unit) × (Unit)) => ar2001.e x.1) (fun x => st2001.e x.2) fun x => bindO (F1394 N x.1.1 x.2.1.1) fun r => some (v2001 x.1.1 x.2.1.1 r,so2001 x.1.1 x.2.1.1 r)
@[push_cast] def H115 : Nat → Hint
 | _ => ⟨[],[],[]⟩
def F1284 (op : Int) (a : Node) : Option (Node) := some (⟨op,0,(⟨#[]⟩ : ByteArray),0,[a]⟩ : Node)
@[push_cast] def ar115 : Rs (Int × Node) := rsC (rI .i64) (rsO rNode)
@[push_cast] def v115 (r : Node) : AV := .agg (Node.cells r)
@[push_cast] def sh115 : Shp := .one (.agg [none,none,none,none,some 5])
noncomputable def t115 : List AV → Option AV := TL ar115.e fun x => bindO (F1284 x.1 x.2) fun r => some (v115 r)
@[push_cast] def H2002 : Nat → Hint
 | _ => ⟨[],[],[]⟩
def F1395 (u1 : Int) (h2 : Int) (h3 : Int) (h4 : ByteArray) (h5 : Int) (h6 : List Node) (h7 : Int) (h8 : Int) (h9 : ByteArray) (h10 : Int) (h11 : List Node) : Option (Node) := bindO (atO h11 u1) fun x1 => bindO (F1282 40 (⟨h2,h3,h4,h5,h6⟩ : Node) x1) fun r2 => some r2
@[push_cast] def ar2002 : Ra ((Int) × (Unit)) := raC (rI .i64) (raK (.ptr 0 0) (wkc_ptr _ _) (raK (.ptr 1 0) (wkc_ptr _ _) (raN)))
@[push_cast] def st2002 : Rt ((Int × (Int × (ByteArray × (Int × ((List Node) × Unit))))) × ((Int × (Int × (ByteArray × (Int × ((List Node) × Unit))))) × (Unit))) := rtC (oVar (rcI .i64 (rcI .i64 (rcS (rcI .i64 (rcL 5 Node.cells Node.cells_inj (rcN))))))) (rtC (oVar (rcI .i64 (rcI .i64 (rcS (rcI .i64 (rcL 5 Node.cells Node.cells_inj (rcN))))))) (rtN))
@[push_cast] def v2002 (u1 : Int) (h2 : Int) (h3 : Int) (h4 : ByteArray) (h5 : Int) (h6 : List Node) (h7 : Int) (h8 : Int) (h9 : ByteArray) (h10 : Int) (h11 : List Node) (r : Node) : AV := .agg [.int .i64 r.op,.int .i64 r.sortf,.str r.name,.int .i64 r.num,.sl false 5 (List.map Node.cells r.kids)]
@[push_cast] def so2002 (u1 : Int) (h2 : Int) (h3 : Int) (h4 : ByteArray) (h5 : Int) (h6 : List Node) (h7 : Int) (h8 : Int) (h9 : ByteArray) (h10 : Int) (h11 : List Node) (r : Node) : Store := [.var [.int .i64 h2,.int .i64 h3,.str h4,.int .i64 h5,.sl false 5 (List.map Node.cells h6)],.var [.int .i64 h7,.int .i64 h8,.str h9,.int .i64 h10,.sl false 5 (List.map Node.cells h11)]]
@[push_cast] def sh2002 : Shp := .one (.agg [none,none,none,none,some 5])
@[push_cast] def sw2002 : List ShO := [.var [none,none,none,none,some 5],.var [none,none,none,none,some 5]]
noncomputable def t2002 : List AV → Store → Option (AV × Store) := TLX (fun x : ((Int) × (Unit)) × ((Int × (Int × (ByteArray × (Int × ((List Node) × Unit))))) × ((Int × (Int × (ByteArray × (Int × ((List Node) × Unit))))) × (Unit))) => ar2002.e x.1) (fun x => st2002.e x.2) fun x => bindO (F1395 x.1.1 x.2.1.1 x.2.1.2.1 x.2.1.2.2.1 x.2.1.2.2.2.1 x.2.1.2.2.2.2.1 x.2.2.1.1 x.2.2.1.2.1 x.2.2.1.2.2.1 x.2.2.1.2.2.2.1 x.2.2.1.2.2.2.2.1) fun r => some (v2002 x.1.1 x.2.1.1 x.2.1.2.1 x.2.1.2.2.1 x.2.1.2.2.2.1 x.2.1.2.2.2.2.1 x.2.2.1.1 x.2.2.1.2.1 x.2.2.1.2.2.1 x.2.2.1.2.2.2.1 x.2.2.1.2.2.2.2.1 r,so2002 x.1.1 x.2.1.1 x.2.1.2.1 x.2.1.2.2.1 x.2.1.2.2.2.1 x.2.1.2.2.2.2.1 x.2.2.1.1 x.2.2.1.2.1 x.2.2.1.2.2.1 x.2.2.1.2.2.2.1 x.2.2.1.2.2.2.2.1 r)
theorem ro2002 : ∀ args σ v σ',lensRun 2 [.keep,.keep,.keep] (t2002) args σ = some (v,σ') → σ' = σ := fun _ _ _ _ h => lens_ro (X := ((Int) × (Unit)) × ((Int × (Int × (ByteArray × (Int × ((List Node) × Unit))))) × ((Int × (Int × (ByteArray × (Int × ((List Node) × Unit))))) × (Unit)))) (s := fun x => st2002.e x.2) rfl (fun _ => rfl) (fun _ _ _ h => some_same h fun _ => rfl) h
@[push_cast] def H59 : Nat → Hint
 | 0 => ⟨[],[4],[]⟩
 | _ => ⟨[],[],[]⟩
@[push_cast] def ali59 : Nat → List (Nat × Nat)
 | 9 => [(7,7)]
 | 11 => [(7,7)]
 | 13 => [(7,7)]
 | _ => []
def F1247 (e : Node) (s : Node) : Option (Node × Bool) := bindO (F1282 40 e s) fun r1 => iteO (s.op == 9) (bindO (F1284 32 r1) fun r2 => some (r2,true)) (iteO (s.op == 10) (bindO (atO s.kids 0) fun x3 => bindO (F1282 37 e x3) fun r4 => bindO (F1282 36 r1 r4) fun r5 => some (r5,true)) (iteO (s.op == 11) (bindO (F1395 0 e.op e.sortf e.name e.num e.kids s.op s.sortf s.name s.num s.kids) fun r6 => bindO (F1395 1 e.op e.sortf e.name e.num e.kids s.op s.sortf s.name s.num s.kids) fun r7 => bindO (F1282 34 r6 r7) fun r8 => bindO (F1282 36 r1 r8) fun r9 => some (r9,true)) (iteO (s.op == 12) (bindO (F1395 0 e.op e.sortf e.name e.num e.kids s.op s.sortf s.name s.num s.kids) fun r10 => bindO (F1395 1 e.op e.sortf e.name e.num e.kids s.op s.sortf s.name s.num s.kids) fun r11 => bindO (F1282 33 r10 r11) fun r12 => bindO (F1282 36 r1 r12) fun r13 => some (r13,true)) (iteO (s.op == 13) (bindO (F1395 0 e.op e.sortf e.name e.num e.kids s.op s.sortf s.name s.num s.kids) fun r14 => bindO (F1395 1 e.op e.sortf e.name e.num e.kids s.op s.sortf s.name s.num s.kids) fun r15 => bindO (F1284 32 r15) fun r16 => bindO (F1282 33 r14 r16) fun r17 => bindO (F1282 36 r1 r17) fun r18 => some (r18,true)) (some ((⟨0,0,(⟨#[]⟩ : ByteArray),0,[]⟩ : Node),false))))))
@[push_cast] def ar59 : Rs (Node × Node) := rsC rNode (rsO rNode)
@[push_cast] def v59 (r : Node × Bool) : AV := .tuple [.agg (Node.cells r.1),.bool r.2]
@[push_cast] def sh59 : Shp := .tup [.agg [none,none,none,none,some 5],.leaf none]
noncomputable def t59 : List AV → Option AV := TL ar59.e fun x => bindO (F1247 x.1 x.2) fun r => some (v59 r)
@[push_cast] theorem t115_1 (z1 : Int) (z2 : Int) (z3 : Int) (z4 : ByteArray) (z5 : Int) (z6 : List Node) : t115 [.int .i64 z1,.agg [.int .i64 z2,.int .i64 z3,.str z4,.int .i64 z5,.sl false 5 (List.map Node.cells z6)]] = bindO (F1284 z1 (⟨z2,z3,z4,z5,z6⟩ : Node)) fun r => some (v115 r) :=
 TL_hit ar115.inj (z1,(⟨z2,z3,z4,z5,z6⟩ : Node)) (by simp only [push_cast] <;> rfl)
@[push_cast] theorem t2002_1 (z1 : Int) (z2 : Int) (z3 : Int) (z4 : ByteArray) (z5 : Int) (z6 : List Node) (z7 : Int) (z8 : Int) (z9 : ByteArray) (z10 : Int) (z11 : List Node) (z12 : AObj) (z13 : AObj) : lensRun 2 [.keep,.keep,.keep] (t2002) [.int .i64 z1,.ptr 0 0,.ptr 1 0] [.var [.int .i64 z2,.int .i64 z3,.str z4,.int .i64 z5,.sl false 5 (List.map Node.cells z6)],.var [.int .i64 z7,.int .i64 z8,.str z9,.int .i64 z10,.sl false 5 (List.map Node.cells z11)],z12,z13] = bindO (F1395 z1 z2 z3 z4 z5 z6 z7 z8 z9 z10 z11) fun r => some (.agg [.int .i64 r.op,.int .i64 r.sortf,.str r.name,.int .i64 r.num,.sl false 5 (List.map Node.cells r.kids)],[.var [.int .i64 z2,.int .i64 z3,.str z4,.int .i64 z5,.sl false 5 (List.map Node.cells z6)],.var [.int .i64 z7,.int .i64 z8,.str z9,.int .i64 z10,.sl false 5 (List.map Node.cells z11)],z12,z13]) :=
 lens_hitX (X := ((Int) × (Unit)) × ((Int × (Int × (ByteArray × (Int × ((List Node) × Unit))))) × ((Int × (Int × (ByteArray × (Int × ((List Node) × Unit))))) × (Unit)))) (F := fun x => F1395 x.1.1 x.2.1.1 x.2.1.2.1 x.2.1.2.2.1 x.2.1.2.2.2.1 x.2.1.2.2.2.2.1 x.2.2.1.1 x.2.2.1.2.1 x.2.2.1.2.2.1 x.2.2.1.2.2.2.1 x.2.2.1.2.2.2.2.1) (v := fun x r => v2002 x.1.1 x.2.1.1 x.2.1.2.1 x.2.1.2.2.1 x.2.1.2.2.2.1 x.2.1.2.2.2.2.1 x.2.2.1.1 x.2.2.1.2.1 x.2.2.1.2.2.1 x.2.2.1.2.2.2.1 x.2.2.1.2.2.2.2.1 r) (so := fun x r => so2002 x.1.1 x.2.1.1 x.2.1.2.1 x.2.1.2.2.1 x.2.1.2.2.2.1 x.2.1.2.2.2.2.1 x.2.2.1.1 x.2.2.1.2.1 x.2.2.1.2.2.1 x.2.2.1.2.2.2.1 x.2.2.1.2.2.2.2.1 r) (args2 := [.int .i64 z1,.ptr 0 0,.ptr 1 0]) (σ2 := [.var [.int .i64 z2,.int .i64 z3,.str z4,.int .i64 z5,.sl false 5 (List.map Node.cells z6)],.var [.int .i64 z7,.int .i64 z8,.str z9,.int .i64 z10,.sl false 5 (List.map Node.cells z11)],z12,z13]) (ras_inj ar2002 st2002) [some 0,some 1] ((z1,()),((z2,(z3,(z4,(z5,(z6,()))))),((z7,(z8,(z9,(z10,(z11,()))))),()))) rfl rfl rfl (by (try simp only [push_cast]) <;> rfl) (by (try simp only [push_cast]) <;> rfl) (fun _ => (by (try simp only [push_cast]) <;> rfl)) (fun _ => (by (try simp only [push_cast]) <;> rfl)) (fun _ => rfl)
@[push_cast] def H60 : Nat → Hint
 | _ => ⟨[],[],[]⟩
def F1248 (e : Node) (f : Node) (s : Node) : Option (Node) := bindO (F1282 37 e f) fun r1 => bindO (F1282 40 e s) fun r2 => bindO (F1282 40 f s) fun r3 => bindO (F1282 36 r2 r3) fun r4 => bindO (F1282 35 r1 r4) fun r5 => some r5
@[push_cast] def ar60 : Rs (Node × Node × Node) := rsC rNode (rsC rNode (rsO rNode))
@[push_cast] def v60 (r : Node) : AV := .agg (Node.cells r)
@[push_cast] def sh60 : Shp := .one (.agg [none,none,none,none,some 5])
noncomputable def t60 : List AV → Option AV := TL ar60.e fun x => bindO (F1248 x.1 x.2.1 x.2.2) fun r => some (v60 r)
@[push_cast] def H2003 : Nat → Hint
 | _ => ⟨[],[],[]⟩
def F1396 (u1 : Node) (h2 : Int) (h3 : Int) (h4 : ByteArray) (h5 : Int) (h6 : List Node) : Option (Node) := bindO (F1282 40 (⟨h2,h3,h4,h5,h6⟩ : Node) u1) fun r1 => some r1
@[push_cast] def ar2003 : Ra ((Node) × (Unit)) := raC rNode (raK (.ptr 0 0) (wkc_ptr _ _) (raN))
@[push_cast] def st2003 : Rt ((Int × (Int × (ByteArray × (Int × ((List Node) × Unit))))) × (Unit)) := rtC (oVar (rcI .i64 (rcI .i64 (rcS (rcI .i64 (rcL 5 Node.cells Node.cells_inj (rcN))))))) (rtN)
@[push_cast] def v2003 (u1 : Node) (h2 : Int) (h3 : Int) (h4 : ByteArray) (h5 : Int) (h6 : List Node) (r : Node) : AV := .agg [.int .i64 r.op,.int .i64 r.sortf,.str r.name,.int .i64 r.num,.sl false 5 (List.map Node.cells r.kids)]
@[push_cast] def so2003 (u1 : Node) (h2 : Int) (h3 : Int) (h4 : ByteArray) (h5 : Int) (h6 : List Node) (r : Node) : Store := [.var [.int .i64 h2,.int .i64 h3,.str h4,.int .i64 h5,.sl false 5 (List.map Node.cells h6)]]
@[push_cast] def sh2003 : Shp := .one (.agg [none,none,none,none,some 5])
@[push_cast] def sw2003 : List ShO := [.var [none,none,none,none,some 5]]
noncomputable def t2003 : List AV → Store → Option (AV × Store) := TLX (fun x : ((Node) × (Unit)) × ((Int × (Int × (ByteArray × (Int × ((List Node) × Unit))))) × (Unit)) => ar2003.e x.1) (fun x => st2003.e x.2) fun x => bindO (F1396 x.1.1 x.2.1.1 x.2.1.2.1 x.2.1.2.2.1 x.2.1.2.2.2.1 x.2.1.2.2.2.2.1) fun r => some (v2003 x.1.1 x.2.1.1 x.2.1.2.1 x.2.1.2.2.1 x.2.1.2.2.2.1 x.2.1.2.2.2.2.1 r,so2003 x.1.1 x.2.1.1 x.2.1.2.1 x.2.1.2.2.1 x.2.1.2.2.2.1 x.2.1.2.2.2.2.1 r)
theorem ro2003 : ∀ args σ v σ',lensRun 1 [.keep,.keep] (t2003) args σ = some (v,σ') → σ' = σ := fun _ _ _ _ h => lens_ro (X := ((Node) × (Unit)) × ((Int × (Int × (ByteArray × (Int × ((List Node) × Unit))))) × (Unit))) (s := fun x => st2003.e x.2) rfl (fun _ => rfl) (fun _ _ _ h => some_same h fun _ => rfl) h
@[push_cast] def H61 : Nat → Hint
 | _ => ⟨[],[],[]⟩
@[push_cast] def ali61 : Nat → List (Nat × Nat)
 | 3 => [(6,6)]
 | 4 => [(6,6)]
 | _ => []
def F1249 (kind : Int) (a : Node) (b : Node) (e : Node) : Option (Node) := iteO (kind == 4) (bindO (F1282 41 a b) fun r1 => bindO (F1396 a e.op e.sortf e.name e.num e.kids) fun r2 => bindO (F1396 b e.op e.sortf e.name e.num e.kids) fun r3 => bindO (F1282 35 r2 r3) fun r4 => bindO (F1282 35 r1 r4) fun r5 => some r5) (bindO (F1282 37 a b) fun r6 => bindO (F1396 a e.op e.sortf e.name e.num e.kids) fun r7 => bindO (F1396 b e.op e.sortf e.name e.num e.kids) fun r8 => bindO (F1282 36 r7 r8) fun r9 => bindO (F1282 35 r6 r9) fun r10 => some r10)
@[push_cast] def ar61 : Rs (Int × Node × Node × Node) := rsC (rI .i64) (rsC rNode (rsC rNode (rsO rNode)))
@[push_cast] def v61 (r : Node) : AV := .agg (Node.cells r)
@[push_cast] def sh61 : Shp := .one (.agg [none,none,none,none,some 5])
noncomputable def t61 : List AV → Option AV := TL ar61.e fun x => bindO (F1249 x.1 x.2.1 x.2.2.1 x.2.2.2) fun r => some (v61 r)
@[push_cast] theorem t2003_1 (z1 : Int) (z2 : Int) (z3 : ByteArray) (z4 : Int) (z5 : List Node) (z6 : AObj) (z7 : AObj) (z8 : Int) (z9 : Int) (z10 : ByteArray) (z11 : Int) (z12 : List Node) (z13 : AObj) : lensRun 1 [.keep,.keep] (t2003) [.agg [.int .i64 z1,.int .i64 z2,.str z3,.int .i64 z4,.sl false 5 (List.map Node.cells z5)],.ptr 2 0] [z6,z7,.var [.int .i64 z8,.int .i64 z9,.str z10,.int .i64 z11,.sl false 5 (List.map Node.cells z12)],z13] = bindO (F1396 (⟨z1,z2,z3,z4,z5⟩ : Node) z8 z9 z10 z11 z12) fun r => some (.agg [.int .i64 r.op,.int .i64 r.sortf,.str r.name,.int .i64 r.num,.sl false 5 (List.map Node.cells r.kids)],[z6,z7,.var [.int .i64 z8,.int .i64 z9,.str z10,.int .i64 z11,.sl false 5 (List.map Node.cells z12)],z13]) :=
 lens_hitX (X := ((Node) × (Unit)) × ((Int × (Int × (ByteArray × (Int × ((List Node) × Unit))))) × (Unit))) (F := fun x => F1396 x.1.1 x.2.1.1 x.2.1.2.1 x.2.1.2.2.1 x.2.1.2.2.2.1 x.2.1.2.2.2.2.1) (v := fun x r => v2003 x.1.1 x.2.1.1 x.2.1.2.1 x.2.1.2.2.1 x.2.1.2.2.2.1 x.2.1.2.2.2.2.1 r) (so := fun x r => so2003 x.1.1 x.2.1.1 x.2.1.2.1 x.2.1.2.2.1 x.2.1.2.2.2.1 x.2.1.2.2.2.2.1 r) (args2 := [.agg [.int .i64 z1,.int .i64 z2,.str z3,.int .i64 z4,.sl false 5 (List.map Node.cells z5)],.ptr 2 0]) (σ2 := [z6,z7,.var [.int .i64 z8,.int .i64 z9,.str z10,.int .i64 z11,.sl false 5 (List.map Node.cells z12)],z13]) (ras_inj ar2003 st2003) [some 2] (((⟨z1,z2,z3,z4,z5⟩ : Node),()),((z8,(z9,(z10,(z11,(z12,()))))),())) rfl rfl rfl (by (try simp only [push_cast]) <;> rfl) (by (try simp only [push_cast]) <;> rfl) (fun _ => (by (try simp only [push_cast]) <;> rfl)) (fun _ => (by (try simp only [push_cast]) <;> rfl)) (fun _ => rfl)
@[push_cast] def H62 : Nat → Hint
 | _ => ⟨[],[],[]⟩
def F1250 (n : Node) (op : Int) : Option (Bool) := some (n.op == op)
@[push_cast] def ar62 : Rs (Node × Int) := rsC rNode (rsO (rI .i64))
@[push_cast] def v62 (r : Bool) : AV := .bool r
@[push_cast] def sh62 : Shp := .one (.leaf none)
noncomputable def t62 : List AV → Option AV := TL ar62.e fun x => bindO (F1250 x.1 x.2) fun r => some (v62 r)
@[push_cast] def H117 : Nat → Hint
 | _ => ⟨[],[],[]⟩
def F1286 (a : Node) (i : Node) : Option (Node) := bindO (F1282 14 a i) fun r1 => some r1
@[push_cast] def ar117 : Rs (Node × Node) := rsC rNode (rsO rNode)
@[push_cast] def v117 (r : Node) : AV := .agg (Node.cells r)
@[push_cast] def sh117 : Shp := .one (.agg [none,none,none,none,some 5])
noncomputable def t117 : List AV → Option AV := TL ar117.e fun x => bindO (F1286 x.1 x.2) fun r => some (v117 r)
@[push_cast] def H118 : Nat → Hint
 | _ => ⟨[],[],[]⟩
def F1287 (a : Node) : Option (Node) := bindO (F1284 16 a) fun r1 => some r1
@[push_cast] def ar118 : Rs Node := rsO rNode
@[push_cast] def v118 (r : Node) : AV := .agg (Node.cells r)
@[push_cast] def sh118 : Shp := .one (.agg [none,none,none,none,some 5])
noncomputable def t118 : List AV → Option AV := TL ar118.e fun x => bindO (F1287 x) fun r => some (v118 r)
@[push_cast] def H63 : Nat → Hint
 | _ => ⟨[],[],[]⟩
@[push_cast] def ali63 : Nat → List (Nat × Nat)
 | 1 => [(5,1000000),(6,1000001),(7,1000002)]
 | _ => []
def F1251 (j : Node) (s : Node) : Option (List Node) := bindO (atO s.kids 0) fun x1 => bindO (atO s.kids 1) fun x2 => bindO (atO s.kids 2) fun x3 => bindO (F1282 37 x2 j) fun r4 => bindO (F1286 s j) fun r5 => bindO (F1282 37 r5 x3) fun r6 => bindO (F1282 35 r4 r6) fun r7 => bindO (F1282 37 x2 j) fun r8 => bindO (F1286 s j) fun r9 => bindO (F1286 x1 j) fun r10 => bindO (F1282 37 r9 r10) fun r11 => bindO (F1282 34 r8 r11) fun r12 => bindO (F1287 s) fun r13 => bindO (F1287 x1) fun r14 => bindO (F1282 37 r13 r14) fun r15 => some ([r7,r12,r15])
@[push_cast] def ar63 : Rs (Node × Node) := rsC rNode (rsO rNode)
@[push_cast] def v63 (r : List Node) : AV := .sl false 5 (List.map Node.cells r)
@[push_cast] def sh63 : Shp := .one (.leaf (some 5))
noncomputable def t63 : List AV → Option AV := TL ar63.e fun x => bindO (F1251 x.1 x.2) fun r => some (v63 r)
@[push_cast] theorem t117_1 (z1 : Int) (z2 : Int) (z3 : ByteArray) (z4 : Int) (z5 : List Node) (z6 : Int) (z7 : Int) (z8 : ByteArray) (z9 : Int) (z10 : List Node) : t117 [.agg [.int .i64 z1,.int .i64 z2,.str z3,.int .i64 z4,.sl false 5 (List.map Node.cells z5)],.agg [.int .i64 z6,.int .i64 z7,.str z8,.int .i64 z9,.sl false 5 (List.map Node.cells z10)]] = bindO (F1286 (⟨z1,z2,z3,z4,z5⟩ : Node) (⟨z6,z7,z8,z9,z10⟩ : Node)) fun r => some (v117 r) :=
 TL_hit ar117.inj ((⟨z1,z2,z3,z4,z5⟩ : Node),(⟨z6,z7,z8,z9,z10⟩ : Node)) (by simp only [push_cast] <;> rfl)
@[push_cast] theorem t118_1 (z1 : Int) (z2 : Int) (z3 : ByteArray) (z4 : Int) (z5 : List Node) : t118 [.agg [.int .i64 z1,.int .i64 z2,.str z3,.int .i64 z4,.sl false 5 (List.map Node.cells z5)]] = bindO (F1287 (⟨z1,z2,z3,z4,z5⟩ : Node)) fun r => some (v118 r) :=
 TL_hit ar118.inj (⟨z1,z2,z3,z4,z5⟩ : Node) (by simp only [push_cast] <;> rfl)
@[push_cast] def H64 : Nat → Hint
 | _ => ⟨[],[],[]⟩
def F1252 (i : Node) (j : Node) (a : Node) : Option (Node) := bindO (F1282 37 i j) fun r1 => bindO (F1286 a i) fun r2 => bindO (F1286 a j) fun r3 => bindO (F1282 37 r2 r3) fun r4 => bindO (F1282 35 r1 r4) fun r5 => some r5
@[push_cast] def ar64 : Rs (Node × Node × Node) := rsC rNode (rsC rNode (rsO rNode))
@[push_cast] def v64 (r : Node) : AV := .agg (Node.cells r)
@[push_cast] def sh64 : Shp := .one (.agg [none,none,none,none,some 5])
noncomputable def t64 : List AV → Option AV := TL ar64.e fun x => bindO (F1252 x.1 x.2.1 x.2.2) fun r => some (v64 r)
@[push_cast] def H65 : Nat → Hint
 | _ => ⟨[],[],[]⟩
def F1253 (a : Node) : Option (Node) := bindO (F1287 a) fun r1 => bindO (F1282 38 (⟨2,0,(⟨#[]⟩ : ByteArray),0,[]⟩ : Node) r1) fun r2 => some r2
@[push_cast] def ar65 : Rs Node := rsO rNode
@[push_cast] def v65 (r : Node) : AV := .agg (Node.cells r)
@[push_cast] def sh65 : Shp := .one (.agg [none,none,none,none,some 5])
noncomputable def t65 : List AV → Option AV := TL ar65.e fun x => bindO (F1253 x) fun r => some (v65 r)
@[push_cast] theorem t113_2 (z1 : Int) (z2 : Int) (z3 : Int) (z4 : ByteArray) (z5 : Int) (z7 : Int) (z8 : Int) (z9 : ByteArray) (z10 : Int) (z11 : List Node) : t113 [.int .i64 z1,.agg [.int .i64 z2,.int .i64 z3,.str z4,.int .i64 z5,.sl true 5 []],.agg [.int .i64 z7,.int .i64 z8,.str z9,.int .i64 z10,.sl false 5 (List.map Node.cells z11)]] = bindO (F1282 z1 (⟨z2,z3,z4,z5,[]⟩ : Node) (⟨z7,z8,z9,z10,z11⟩ : Node)) fun r => some (v113 r) :=
 TL_hit ar113.inj (z1,(⟨z2,z3,z4,z5,[]⟩ : Node),(⟨z7,z8,z9,z10,z11⟩ : Node)) (by simp only [push_cast] <;> rfl)
@[push_cast] theorem t113_3 (z1 : Int) (z2 : Int) (z3 : Int) (z4 : ByteArray) (z5 : Int) (z7 : Int) (z8 : Int) (z9 : ByteArray) (z10 : Int) (z11 : List Node) : t113 [.int .i64 z1,.agg [.int .i64 z2,.int .i64 z3,.str z4,.int .i64 z5,.sl false 5 []],.agg [.int .i64 z7,.int .i64 z8,.str z9,.int .i64 z10,.sl false 5 (List.map Node.cells z11)]] = bindO (F1282 z1 (⟨z2,z3,z4,z5,[]⟩ : Node) (⟨z7,z8,z9,z10,z11⟩ : Node)) fun r => some (v113 r) :=
 TL_hit ar113.inj (z1,(⟨z2,z3,z4,z5,[]⟩ : Node),(⟨z7,z8,z9,z10,z11⟩ : Node)) (by simp only [push_cast] <;> rfl)
@[push_cast] def H66 : Nat → Hint
 | _ => ⟨[],[],[]⟩
def F1254 (a : Node) (b : Node) (i : Node) : Option (Node) := bindO (F1282 37 a b) fun r1 => bindO (F1287 a) fun r2 => bindO (F1287 b) fun r3 => bindO (F1282 37 r2 r3) fun r4 => bindO (F1286 a i) fun r5 => bindO (F1286 b i) fun r6 => bindO (F1282 37 r5 r6) fun r7 => bindO (F1282 33 r4 r7) fun r8 => bindO (F1282 35 r1 r8) fun r9 => some r9
@[push_cast] def ar66 : Rs (Node × Node × Node) := rsC rNode (rsC rNode (rsO rNode))
@[push_cast] def v66 (r : Node) : AV := .agg (Node.cells r)
@[push_cast] def sh66 : Shp := .one (.agg [none,none,none,none,some 5])
noncomputable def t66 : List AV → Option AV := TL ar66.e fun x => bindO (F1254 x.1 x.2.1 x.2.2) fun r => some (v66 r)
@[push_cast] def H67 : Nat → Hint
 | _ => ⟨[],[],[]⟩
@[push_cast] def ali67 : Nat → List (Nat × Nat)
 | 1 => [(3,1000000),(4,1000001),(5,1000002)]
 | _ => []
def F1255 (n : Node) : Option (List Node) := bindO (atO n.kids 0) fun x1 => bindO (atO n.kids 1) fun x2 => bindO (atO n.kids 2) fun x3 => bindO (F1282 37 n x2) fun r4 => bindO (F1282 35 x1 r4) fun r5 => bindO (F1282 37 n x3) fun r6 => bindO (F1282 34 x1 r6) fun r7 => some ([r5,r7])
@[push_cast] def ar67 : Rs Node := rsO rNode
@[push_cast] def v67 (r : List Node) : AV := .sl false 5 (List.map Node.cells r)
@[push_cast] def sh67 : Shp := .one (.leaf (some 5))
noncomputable def t67 : List AV → Option AV := TL ar67.e fun x => bindO (F1255 x) fun r => some (v67 r)
@[push_cast] def H22 : Nat → Hint
 | _ => ⟨[],[],[]⟩
def F1225 (N : Nat) (kind : Int) (p : List Node) : Option ((List Node) × Bool) := bindO (F1243 N p) fun r1 => iteO (kind == 1) (iteO ((p.length : Int) == 2) (bindO (atO p 0) fun x2 => bindO (atO p 1) fun x3 => bindO (F1245 N x2 x3) fun r4 => iteO r4 (bindO (F1246 N x2 x3) fun r5 => some ([r5],true)) (some ([],false))) (some ([],false))) (iteO (kind == 2) (bindO (F1394 N ([1,4]) r1) fun r6 => iteO r6 (bindO (atO p 0) fun x7 => bindO (atO p 1) fun x8 => bindO (F1247 x7 x8) fun r9 => iteO r9.2 (some ([r9.1],true)) (some ([],true))) (some ([],false))) (iteO (kind == 3) (bindO (F1394 N ([1,1,4]) r1) fun r10 => iteO r10 (bindO (atO p 0) fun x11 => bindO (atO p 1) fun x12 => bindO (atO p 2) fun x13 => bindO (F1248 x11 x12 x13) fun r14 => some ([r14],true)) (some ([],false))) (iteO (kind == 4) (bindO (F1394 N ([4,4,1]) r1) fun r48 => iteO r48 (bindO (atO p 0) fun x49 => bindO (atO p 1) fun x50 => bindO (atO p 2) fun x51 => bindO (F1249 kind x49 x50 x51) fun r52 => some ([r52],true)) (some ([],false))) (iteO (kind == 5) (bindO (F1394 N ([4,4,1]) r1) fun r15 => iteO r15 (bindO (atO p 0) fun x16 => bindO (atO p 1) fun x17 => bindO (atO p 2) fun x18 => bindO (F1249 kind x16 x17 x18) fun r19 => some ([r19],true)) (some ([],false))) (iteO (kind == 6) (bindO (F1394 N ([1,5]) r1) fun r20 => iteO r20 (bindO (atO p 1) fun x21 => bindO (F1250 x21 15) fun r22 => iteO r22 (bindO (atO p 0) fun x23 => bindO (F1251 x23 x21) fun r24 => some (r24,true)) (bindO (F1394 N ([1,1,5]) r1) fun r25 => iteO r25 (bindO (atO p 0) fun x26 => bindO (atO p 2) fun x27 => bindO (F1252 x26 x21 x27) fun r28 => some ([r28],true)) (bindO (F1394 N ([5]) r1) fun r29 => iteO r29 (bindO (atO p 0) fun x30 => bindO (F1253 x30) fun r31 => some ([r31],true)) (some ([],false))))) (bindO (F1394 N ([1,1,5]) r1) fun r32 => iteO r32 (bindO (atO p 0) fun x33 => bindO (atO p 1) fun x34 => bindO (atO p 2) fun x35 => bindO (F1252 x33 x34 x35) fun r36 => some ([r36],true)) (bindO (F1394 N ([5]) r1) fun r37 => iteO r37 (bindO (atO p 0) fun x38 => bindO (F1253 x38) fun r39 => some ([r39],true)) (some ([],false))))) (iteO (kind == 7) (bindO (F1394 N ([5,5,1]) r1) fun r40 => iteO r40 (bindO (atO p 0) fun x41 => bindO (atO p 1) fun x42 => bindO (atO p 2) fun x43 => bindO (F1254 x41 x42 x43) fun r44 => some ([r44],true)) (some ([],false))) (iteO (kind == 8) (iteO ((p.length : Int) == 1) (bindO (atO p 0) fun x45 => bindO (F1250 x45 8) fun r46 => iteO r46 (bindO (F1255 x45) fun r47 => some (r47,true)) (some ([],false))) (some ([],false))) (some ([],false)))))))))
@[push_cast] def ar22 : Rs (Int × (List Node)) := rsC (rI .i64) (rsO (rL 5 Node.cells Node.cells_inj))
@[push_cast] def v22 (r : (List Node) × Bool) : AV := .tuple [.sl false 5 (List.map Node.cells r.1),.bool r.2]
@[push_cast] def sh22 : Shp := .tup [.leaf (some 5),.leaf none]
noncomputable def t22 (N : Nat) : List AV → Option AV := TL ar22.e fun x => bindO (F1225 N x.1 x.2) fun r => some (v22 r)
@[push_cast] theorem t55_1 {N : Nat} (z1 : List Node) : t55 N [.sl false 5 (List.map Node.cells z1)] = bindO (F1243 N z1) fun r => some (v55 r) :=
 TL_hit ar55.inj z1 (by simp only [push_cast] <;> rfl)
@[push_cast] theorem t57_1 {N : Nat} (z1 : Int) (z2 : Int) (z3 : ByteArray) (z4 : Int) (z5 : List Node) (z6 : Int) (z7 : Int) (z8 : ByteArray) (z9 : Int) (z10 : List Node) : t57 N [.agg [.int .i64 z1,.int .i64 z2,.str z3,.int .i64 z4,.sl false 5 (List.map Node.cells z5)],.agg [.int .i64 z6,.int .i64 z7,.str z8,.int .i64 z9,.sl false 5 (List.map Node.cells z10)]] = bindO (F1245 N (⟨z1,z2,z3,z4,z5⟩ : Node) (⟨z6,z7,z8,z9,z10⟩ : Node)) fun r => some (v57 r) :=
 TL_hit ar57.inj ((⟨z1,z2,z3,z4,z5⟩ : Node),(⟨z6,z7,z8,z9,z10⟩ : Node)) (by simp only [push_cast] <;> rfl)
@[push_cast] theorem t58_1 {N : Nat} (z1 : Int) (z2 : Int) (z3 : ByteArray) (z4 : Int) (z5 : List Node) (z6 : Int) (z7 : Int) (z8 : ByteArray) (z9 : Int) (z10 : List Node) : t58 N [.agg [.int .i64 z1,.int .i64 z2,.str z3,.int .i64 z4,.sl false 5 (List.map Node.cells z5)],.agg [.int .i64 z6,.int .i64 z7,.str z8,.int .i64 z9,.sl false 5 (List.map Node.cells z10)]] = bindO (F1246 N (⟨z1,z2,z3,z4,z5⟩ : Node) (⟨z6,z7,z8,z9,z10⟩ : Node)) fun r => some (v58 r) :=
 TL_hit ar58.inj ((⟨z1,z2,z3,z4,z5⟩ : Node),(⟨z6,z7,z8,z9,z10⟩ : Node)) (by simp only [push_cast] <;> rfl)
@[push_cast] theorem t2001_1 {N : Nat} (z2 : Int) (z3 : Int) (z4 : AObj) (z5 : List Int) : lensRun 1 [.keep,.keep] (t2001 N) [.sl true 1 [[.int .i64 z2],[.int .i64 z3]],.ptr 1 0] [z4,.var [.sl false 1 (List.map (cI .i64) z5)]] = bindO (F1394 N ([z2,z3]) z5) fun r => some (.bool r,[z4,.var [.sl false 1 (List.map (cI .i64) z5)]]) :=
 lens_hitX (X := ((List Int) × (Unit)) × (((List Int) × Unit) × (Unit))) (F := fun x => F1394 N x.1.1 x.2.1.1) (v := fun x r => v2001 x.1.1 x.2.1.1 r) (so := fun x r => so2001 x.1.1 x.2.1.1 r) (args2 := [.sl true 1 [[.int .i64 z2],[.int .i64 z3]],.ptr 1 0]) (σ2 := [z4,.var [.sl false 1 (List.map (cI .i64) z5)]]) (ras_inj ar2001 st2001) [some 1] (([z2,z3],()),((z5,()),())) rfl rfl rfl (by (try simp only [push_cast]) <;> rfl) (by (try simp only [push_cast]) <;> rfl) (fun _ => (by (try simp only [push_cast]) <;> rfl)) (fun _ => (by (try simp only [push_cast]) <;> rfl)) (fun _ => rfl)
@[push_cast] theorem t2001_2 {N : Nat} (z2 : Int) (z3 : Int) (z4 : Int) (z5 : AObj) (z6 : List Int) : lensRun 1 [.keep,.keep] (t2001 N) [.sl true 1 [[.int .i64 z2],[.int .i64 z3],[.int .i64 z4]],.ptr 1 0] [z5,.var [.sl false 1 (List.map (cI .i64) z6)]] = bindO (F1394 N ([z2,z3,z4]) z6) fun r => some (.bool r,[z5,.var [.sl false 1 (List.map (cI .i64) z6)]]) :=
 lens_hitX (X := ((List Int) × (Unit)) × (((List Int) × Unit) × (Unit))) (F := fun x => F1394 N x.1.1 x.2.1.1) (v := fun x r => v2001 x.1.1 x.2.1.1 r) (so := fun x r => so2001 x.1.1 x.2.1.1 r) (args2 := [.sl true 1 [[.int .i64 z2],[.int .i64 z3],[.int .i64 z4]],.ptr 1 0]) (σ2 := [z5,.var [.sl false 1 (List.map (cI .i64) z6)]]) (ras_inj ar2001 st2001) [some 1] (([z2,z3,z4],()),((z6,()),())) rfl rfl rfl (by (try simp only [push_cast]) <;> rfl) (by (try simp only [push_cast]) <;> rfl) (fun _ => (by (try simp only [push_cast]) <;> rfl)) (fun _ => (by (try simp only [push_cast]) <;> rfl)) (fun _ => rfl)
@[push_cast] theorem t2001_3 {N : Nat} (z2 : Int) (z3 : AObj) (z4 : List Int) : lensRun 1 [.keep,.keep] (t2001 N) [.sl true 1 [[.int .i64 z2]],.ptr 1 0] [z3,.var [.sl false 1 (List.map (cI .i64) z4)]] = bindO (F1394 N ([z2]) z4) fun r => some (.bool r,[z3,.var [.sl false 1 (List.map (cI .i64) z4)]]) :=
 lens_hitX (X := ((List Int) × (Unit)) × (((List Int) × Unit) × (Unit))) (F := fun x => F1394 N x.1.1 x.2.1.1) (v := fun x r => v2001 x.1.1 x.2.1.1 r) (so := fun x r => so2001 x.1.1 x.2.1.1 r) (args2 := [.sl true 1 [[.int .i64 z2]],.ptr 1 0]) (σ2 := [z3,.var [.sl false 1 (List.map (cI .i64) z4)]]) (ras_inj ar2001 st2001) [some 1] (([z2],()),((z4,()),())) rfl rfl rfl (by (try simp only [push_cast]) <;> rfl) (by (try simp only [push_cast]) <;> rfl) (fun _ => (by (try simp only [push_cast]) <;> rfl)) (fun _ => (by (try simp only [push_cast]) <;> rfl)) (fun _ => rfl)
@[push_cast] theorem t59_1 (z1 : Int) (z2 : Int) (z3 : ByteArray) (z4 : Int) (z5 : List Node) (z6 : Int) (z7 : Int) (z8 : ByteArray) (z9 : Int) (z10 : List Node) : t59 [.agg [.int .i64 z1,.int .i64 z2,.str z3,.int .i64 z4,.sl false 5 (List.map Node.cells z5)],.agg [.int .i64 z6,.int .i64 z7,.str z8,.int .i64 z9,.sl false 5 (List.map Node.cells z10)]] = bindO (F1247 (⟨z1,z2,z3,z4,z5⟩ : Node) (⟨z6,z7,z8,z9,z10⟩ : Node)) fun r => some (v59 r) :=
 TL_hit ar59.inj ((⟨z1,z2,z3,z4,z5⟩ : Node),(⟨z6,z7,z8,z9,z10⟩ : Node)) (by simp only [push_cast] <;> rfl)
@[push_cast] theorem t60_1 (z1 : Int) (z2 : Int) (z3 : ByteArray) (z4 : Int) (z5 : List Node) (z6 : Int) (z7 : Int) (z8 : ByteArray) (z9 : Int) (z10 : List Node) (z11 : Int) (z12 : Int) (z13 : ByteArray) (z14 : Int) (z15 : List Node) : t60 [.agg [.int .i64 z1,.int .i64 z2,.str z3,.int .i64 z4,.sl false 5 (List.map Node.cells z5)],.agg [.int .i64 z6,.int .i64 z7,.str z8,.int .i64 z9,.sl false 5 (List.map Node.cells z10)],.agg [.int .i64 z11,.int .i64 z12,.str z13,.int .i64 z14,.sl false 5 (List.map Node.cells z15)]] = bindO (F1248 (⟨z1,z2,z3,z4,z5⟩ : Node) (⟨z6,z7,z8,z9,z10⟩ : Node) (⟨z11,z12,z13,z14,z15⟩ : Node)) fun r => some (v60 r) :=
 TL_hit ar60.inj ((⟨z1,z2,z3,z4,z5⟩ : Node),(⟨z6,z7,z8,z9,z10⟩ : Node),(⟨z11,z12,z13,z14,z15⟩ : Node)) (by simp only [push_cast] <;> rfl)
@[push_cast] theorem t61_1 (z1 : Int) (z2 : Int) (z3 : Int) (z4 : ByteArray) (z5 : Int) (z6 : List Node) (z7 : Int) (z8 : Int) (z9 : ByteArray) (z10 : Int) (z11 : List Node) (z12 : Int) (z13 : Int) (z14 : ByteArray) (z15 : Int) (z16 : List Node) : t61 [.int .i64 z1,.agg [.int .i64 z2,.int .i64 z3,.str z4,.int .i64 z5,.sl false 5 (List.map Node.cells z6)],.agg [.int .i64 z7,.int .i64 z8,.str z9,.int .i64 z10,.sl false 5 (List.map Node.cells z11)],.agg [.int .i64 z12,.int .i64 z13,.str z14,.int .i64 z15,.sl false 5 (List.map Node.cells z16)]] = bindO (F1249 z1 (⟨z2,z3,z4,z5,z6⟩ : Node) (⟨z7,z8,z9,z10,z11⟩ : Node) (⟨z12,z13,z14,z15,z16⟩ : Node)) fun r => some (v61 r) :=
 TL_hit ar61.inj (z1,(⟨z2,z3,z4,z5,z6⟩ : Node),(⟨z7,z8,z9,z10,z11⟩ : Node),(⟨z12,z13,z14,z15,z16⟩ : Node)) (by simp only [push_cast] <;> rfl)
@[push_cast] theorem t62_1 (z1 : Int) (z2 : Int) (z3 : ByteArray) (z4 : Int) (z5 : List Node) (z6 : Int) : t62 [.agg [.int .i64 z1,.int .i64 z2,.str z3,.int .i64 z4,.sl false 5 (List.map Node.cells z5)],.int .i64 z6] = bindO (F1250 (⟨z1,z2,z3,z4,z5⟩ : Node) z6) fun r => some (v62 r) :=
 TL_hit ar62.inj ((⟨z1,z2,z3,z4,z5⟩ : Node),z6) (by simp only [push_cast] <;> rfl)
@[push_cast] theorem t63_1 (z1 : Int) (z2 : Int) (z3 : ByteArray) (z4 : Int) (z5 : List Node) (z6 : Int) (z7 : Int) (z8 : ByteArray) (z9 : Int) (z10 : List Node) : t63 [.agg [.int .i64 z1,.int .i64 z2,.str z3,.int .i64 z4,.sl false 5 (List.map Node.cells z5)],.agg [.int .i64 z6,.int .i64 z7,.str z8,.int .i64 z9,.sl false 5 (List.map Node.cells z10)]] = bindO (F1251 (⟨z1,z2,z3,z4,z5⟩ : Node) (⟨z6,z7,z8,z9,z10⟩ : Node)) fun r => some (v63 r) :=
 TL_hit ar63.inj ((⟨z1,z2,z3,z4,z5⟩ : Node),(⟨z6,z7,z8,z9,z10⟩ : Node)) (by simp only [push_cast] <;> rfl)
@[push_cast] theorem t64_1 (z1 : Int) (z2 : Int) (z3 : ByteArray) (z4 : Int) (z5 : List Node) (z6 : Int) (z7 : Int) (z8 : ByteArray) (z9 : Int) (z10 : List Node) (z11 : Int) (z12 : Int) (z13 : ByteArray) (z14 : Int) (z15 : List Node) : t64 [.agg [.int .i64 z1,.int .i64 z2,.str z3,.int .i64 z4,.sl false 5 (List.map Node.cells z5)],.agg [.int .i64 z6,.int .i64 z7,.str z8,.int .i64 z9,.sl false 5 (List.map Node.cells z10)],.agg [.int .i64 z11,.int .i64 z12,.str z13,.int .i64 z14,.sl false 5 (List.map Node.cells z15)]] = bindO (F1252 (⟨z1,z2,z3,z4,z5⟩ : Node) (⟨z6,z7,z8,z9,z10⟩ : Node) (⟨z11,z12,z13,z14,z15⟩ : Node)) fun r => some (v64 r) :=
 TL_hit ar64.inj ((⟨z1,z2,z3,z4,z5⟩ : Node),(⟨z6,z7,z8,z9,z10⟩ : Node),(⟨z11,z12,z13,z14,z15⟩ : Node)) (by simp only [push_cast] <;> rfl)
@[push_cast] theorem t65_1 (z1 : Int) (z2 : Int) (z3 : ByteArray) (z4 : Int) (z5 : List Node) : t65 [.agg [.int .i64 z1,.int .i64 z2,.str z3,.int .i64 z4,.sl false 5 (List.map Node.cells z5)]] = bindO (F1253 (⟨z1,z2,z3,z4,z5⟩ : Node)) fun r => some (v65 r) :=
 TL_hit ar65.inj (⟨z1,z2,z3,z4,z5⟩ : Node) (by simp only [push_cast] <;> rfl)
@[push_cast] theorem t66_1 (z1 : Int) (z2 : Int) (z3 : ByteArray) (z4 : Int) (z5 : List Node) (z6 : Int) (z7 : Int) (z8 : ByteArray) (z9 : Int) (z10 : List Node) (z11 : Int) (z12 : Int) (z13 : ByteArray) (z14 : Int) (z15 : List Node) : t66 [.agg [.int .i64 z1,.int .i64 z2,.str z3,.int .i64 z4,.sl false 5 (List.map Node.cells z5)],.agg [.int .i64 z6,.int .i64 z7,.str z8,.int .i64 z9,.sl false 5 (List.map Node.cells z10)],.agg [.int .i64 z11,.int .i64 z12,.str z13,.int .i64 z14,.sl false 5 (List.map Node.cells z15)]] = bindO (F1254 (⟨z1,z2,z3,z4,z5⟩ : Node) (⟨z6,z7,z8,z9,z10⟩ : Node) (⟨z11,z12,z13,z14,z15⟩ : Node)) fun r => some (v66 r) :=
 TL_hit ar66.inj ((⟨z1,z2,z3,z4,z5⟩ : Node),(⟨z6,z7,z8,z9,z10⟩ : Node),(⟨z11,z12,z13,z14,z15⟩ : Node)) (by simp only [push_cast] <;> rfl)
@[push_cast] theorem t67_1 (z1 : Int) (z2 : Int) (z3 : ByteArray) (z4 : Int) (z5 : List Node) : t67 [.agg [.int .i64 z1,.int .i64 z2,.str z3,.int .i64 z4,.sl false 5 (List.map Node.cells z5)]] = bindO (F1255 (⟨z1,z2,z3,z4,z5⟩ : Node)) fun r => some (v67 r) :=
 TL_hit ar67.inj (⟨z1,z2,z3,z4,z5⟩ : Node) (by simp only [push_cast] <;> rfl)
@[push_cast] def H23 : Nat → Hint
 | _ => ⟨[],[],[]⟩
def F1226 (N : Nat) (n : Node) : Option (Bool) := bindO (F14 N n 2) fun r1 => iteO (r1 == 0) (bindO (F42 n) fun r2 => some (!r2)) (some false)
@[push_cast] def ar23 : Rs Node := rsO rNode
@[push_cast] def v23 (r : Bool) : AV := .bool r
@[push_cast] def sh23 : Shp := .one (.leaf none)
noncomputable def t23 (N : Nat) : List AV → Option AV := TL ar23.e fun x => bindO (F1226 N x) fun r => some (v23 r)
@[push_cast] theorem t20_1 {N : Nat} (z1 : Int) (z2 : Int) (z3 : ByteArray) (z4 : Int) (z5 : List Node) (z6 : Int) : t20 N [.agg [.int .i64 z1,.int .i64 z2,.str z3,.int .i64 z4,.sl false 5 (List.map Node.cells z5)],.int .i64 z6] = bindO (F14 N (⟨z1,z2,z3,z4,z5⟩ : Node) z6) fun r => some (v20 r) :=
 TL_hit ar20.inj ((⟨z1,z2,z3,z4,z5⟩ : Node),z6) (by simp only [push_cast] <;> rfl)
@[push_cast] theorem t21_1 (z1 : Int) (z2 : Int) (z3 : ByteArray) (z4 : Int) (z5 : List Node) : t21 [.agg [.int .i64 z1,.int .i64 z2,.str z3,.int .i64 z4,.sl false 5 (List.map Node.cells z5)]] = bindO (F42 (⟨z1,z2,z3,z4,z5⟩ : Node)) fun r => some (v21 r) :=
 TL_hit ar21.inj (⟨z1,z2,z3,z4,z5⟩ : Node) (by simp only [push_cast] <;> rfl)
@[push_cast] def H68 : Nat → Hint
 | 0 => ⟨[1,2,3,6,18,19],[1,2,3,6],[]⟩
 | 1 => ⟨[],[1,2,3,6,18,19],[]⟩
 | 2 => ⟨[1,2,3,6,8,40,41,42],[3,6,8],[]⟩
 | 3 => ⟨[],[1,2,3,6,8,40,41,42],[]⟩
 | _ => ⟨[],[],[]⟩
def F22_s1 (N : Nat) (n : Node) (names : List ByteArray) (withq : List Node) (s3 : Unit) (i1 : Nat) (x2 : Nat) : Option (Sum (Unit) (Node)) := bindO (atO names (i1 : Int)) fun x4 => iteO (x4.toList == n.name.toList) (bindO (atO withq (i1 : Int)) fun x5 => bindO (F82 N x5) fun r6 => some (.inr r6)) (some (.inl ()))
def F22_s2 (self68 : Node → (List ByteArray) → (List Node) → Option (Node)) (names : List ByteArray) (withq : List Node) (s9 : List Node) (i7 : Nat) (x8 : Node) : Option (Sum (List Node) (Node)) := bindO (self68 x8 names withq) fun r10 => iteO (fits (s9.length + 1) 64) (some (.inl (s9 ++ ([r10])))) (none)
def F22_f2 (n : Node) (s9 : List Node) : Option (Node) := some (⟨n.op,n.sortf,n.name,n.num,s9⟩ : Node)
def F22_f1 (self68 : Node → (List ByteArray) → (List Node) → Option (Node)) (N : Nat) (n : Node) (names : List ByteArray) (withq : List Node) (s3 : Unit) : Option (Node) := iteO (decide (0 ≤ 0 ∧ 0 ≤ (n.kids.length : Int) ∧ (n.kids.length : Int) * 64 ≤ 140737488355328 ∧ (n.kids.length : Int) ≤ 9223372036854775807)) (foldN (S := List Node) (F22_s2 self68 names withq) (F22_f2 n) N n.kids 0 ([])) (none)
def F22_s3 (self68 : Node → (List ByteArray) → (List Node) → Option (Node)) (names : List ByteArray) (withq : List Node) (s13 : List Node) (i11 : Nat) (x12 : Node) : Option (Sum (List Node) (Node)) := bindO (self68 x12 names withq) fun r14 => iteO (fits (s13.length + 1) 64) (some (.inl (s13 ++ ([r14])))) (none)
def F22_f3 (n : Node) (s13 : List Node) : Option (Node) := some (⟨n.op,n.sortf,n.name,n.num,s13⟩ : Node)
def F22b (self68 : Node → (List ByteArray) → (List Node) → Option (Node)) (N : Nat) (n : Node) (names : List ByteArray) (withq : List Node) : Option (Node) := iteO (n.op == 1) (foldN (S := Unit) (F22_s1 N n names withq) (F22_f1 self68 N n names withq) N (List.range (min (names.length : Int) (withq.length : Int)).toNat) 0 ()) (iteO (decide (0 ≤ 0 ∧ 0 ≤ (n.kids.length : Int) ∧ (n.kids.length : Int) * 64 ≤ 140737488355328 ∧ (n.kids.length : Int) ≤ 9223372036854775807)) (foldN (S := List Node) (F22_s3 self68 names withq) (F22_f3 n) N n.kids 0 ([])) (none))
def F22 : Nat → Node → (List ByteArray) → (List Node) → Option (Node)
 | 0 => fun _ _ _ => none
 | N + 1 => fun n names withq => F22b (F22 N) N n names withq
@[push_cast] def ar68 : Rs (Node × (List ByteArray) × (List Node)) := rsC rNode (rsC (rL 1 cS cS_inj) (rsO (rL 5 Node.cells Node.cells_inj)))
@[push_cast] def v68 (r : Node) : AV := .agg (Node.cells r)
@[push_cast] def sh68 : Shp := .one (.agg [none,none,none,none,some 5])
noncomputable def t68 (N : Nat) : List AV → Option AV := TL ar68.e fun x => bindO (F22 N x.1 x.2.1 x.2.2) fun r => some (v68 r)
noncomputable def ts68 (self68 : Node → (List ByteArray) → (List Node) → Option (Node)) : List AV → Option AV := TL ar68.e fun x => bindO (self68 x.1 x.2.1 x.2.2) fun r => some (v68 r)
@[push_cast] theorem t68_1 (self68 : Node → (List ByteArray) → (List Node) → Option (Node)) (z1 : Int) (z2 : Int) (z3 : ByteArray) (z4 : Int) (z5 : List Node) (z6 : List ByteArray) (z7 : List Node) : ts68 self68 [.agg [.int .i64 z1,.int .i64 z2,.str z3,.int .i64 z4,.sl false 5 (List.map Node.cells z5)],.sl false 1 (List.map cS z6),.sl false 5 (List.map Node.cells z7)] = bindO (self68 (⟨z1,z2,z3,z4,z5⟩ : Node) z6 z7) fun r => some (v68 r) :=
 TL_hit ar68.inj ((⟨z1,z2,z3,z4,z5⟩ : Node),z6,z7) (by simp only [push_cast] <;> rfl)
@[push_cast] def H24 : Nat → Hint
 | _ => ⟨[],[],[]⟩
def F24 (N : Nat) (n : Node) (name : ByteArray) (withq : Node) : Option (Node) := bindO (F22 N n ([name]) ([withq])) fun r1 => some r1
@[push_cast] def ar24 : Rs (Node × ByteArray × Node) := rsC rNode (rsC rS (rsO rNode))
@[push_cast] def v24 (r : Node) : AV := .agg (Node.cells r)
@[push_cast] def sh24 : Shp := .one (.agg [none,none,none,none,some 5])
noncomputable def t24 (N : Nat) : List AV → Option AV := TL ar24.e fun x => bindO (F24 N x.1 x.2.1 x.2.2) fun r => some (v24 r)
@[push_cast] theorem t68_2 {N : Nat} (z1 : Int) (z2 : Int) (z3 : ByteArray) (z4 : Int) (z5 : List Node) (z7 : ByteArray) (z9 : Int) (z10 : Int) (z11 : ByteArray) (z12 : Int) (z13 : List Node) : t68 N [.agg [.int .i64 z1,.int .i64 z2,.str z3,.int .i64 z4,.sl false 5 (List.map Node.cells z5)],.sl true 1 [[.str z7]],.sl true 5 [[.int .i64 z9,.int .i64 z10,.str z11,.int .i64 z12,.sl false 5 (List.map Node.cells z13)]]] = bindO (F22 N (⟨z1,z2,z3,z4,z5⟩ : Node) ([z7]) ([(⟨z9,z10,z11,z12,z13⟩ : Node)])) fun r => some (v68 r) :=
 TL_hit ar68.inj ((⟨z1,z2,z3,z4,z5⟩ : Node),[z7],[(⟨z9,z10,z11,z12,z13⟩ : Node)]) (by simp only [push_cast] <;> rfl)
@[push_cast] theorem t68_3 {N : Nat} (z1 : Int) (z2 : Int) (z3 : ByteArray) (z4 : Int) (z5 : List Node) (z7 : ByteArray) (z9 : Int) (z10 : Int) (z11 : ByteArray) (z12 : Int) (z13 : List Node) : t68 N [.agg [.int .i64 z1,.int .i64 z2,.str z3,.int .i64 z4,.sl false 5 (List.map Node.cells z5)],.sl false 1 [[.str z7]],.sl false 5 [[.int .i64 z9,.int .i64 z10,.str z11,.int .i64 z12,.sl false 5 (List.map Node.cells z13)]]] = bindO (F22 N (⟨z1,z2,z3,z4,z5⟩ : Node) ([z7]) ([(⟨z9,z10,z11,z12,z13⟩ : Node)])) fun r => some (v68 r) :=
 TL_hit ar68.inj ((⟨z1,z2,z3,z4,z5⟩ : Node),[z7],[(⟨z9,z10,z11,z12,z13⟩ : Node)]) (by simp only [push_cast] <;> rfl)
@[push_cast] def H8 : Nat → Hint
 | 0 => ⟨[0,1,13,14,15],[0,1],[]⟩
 | 1 => ⟨[],[0,1,13,14,15],[]⟩
 | 2 => ⟨[10,35,36,37],[10],[]⟩
 | 3 => ⟨[],[10,35,36,37],[]⟩
 | _ => ⟨[],[],[]⟩
def F1214_s1 (N : Nat) (s3 : Unit) (i1 : Nat) (x2 : Node) : Option (Sum (Unit) ((List Node) × Int)) := bindO (F14 N x2 0) fun r4 => iteO (r4 == 0) (bindO (F42 x2) fun r5 => iteO r5 (some (.inr ([],3))) (some (.inl ()))) (some (.inr ([],3)))
def F1214_s2 (N : Nat) (s9 : List Node) (i7 : Nat) (x8 : Node) : Option (Sum (List Node) ((List Node) × Int)) := bindO (F1226 N x8) fun r10 => iteO r10 (bindO (F24 N x8 (⟨#[]⟩ : ByteArray) (⟨0,0,(⟨#[]⟩ : ByteArray),0,[]⟩ : Node)) fun r11 => iteO (fits (s9.length + 1) 64) (some (.inl (s9 ++ ([r11])))) (none)) (some (.inr ([],3)))
def F1214_f2  (s9 : List Node) : Option ((List Node) × Int) := some (s9,0)
def F1214_f1 (N : Nat) (kind : Int) (parts : List Node) (s3 : Unit) : Option ((List Node) × Int) := bindO (F1225 N kind parts) fun r6 => iteO r6.2 (foldN (S := List Node) (F1214_s2 N) (F1214_f2) N r6.1 0 ([])) (some ([],3))
def F1214 (N : Nat) (kind : Int) (parts : List Node) : Option ((List Node) × Int) := foldN (S := Unit) (F1214_s1 N) (F1214_f1 N kind parts) N parts 0 ()
@[push_cast] def ar8 : Rs (Int × (List Node)) := rsC (rI .i64) (rsO (rL 5 Node.cells Node.cells_inj))
@[push_cast] def v8 (r : (List Node) × Int) : AV := .tuple [.sl false 5 (List.map Node.cells r.1),.int .i64 r.2]
@[push_cast] def sh8 : Shp := .tup [.leaf (some 5),.leaf none]
noncomputable def t8 (N : Nat) : List AV → Option AV := TL ar8.e fun x => bindO (F1214 N x.1 x.2) fun r => some (v8 r)
@[push_cast] theorem t22_1 {N : Nat} (z1 : Int) (z2 : List Node) : t22 N [.int .i64 z1,.sl false 5 (List.map Node.cells z2)] = bindO (F1225 N z1 z2) fun r => some (v22 r) :=
 TL_hit ar22.inj (z1,z2) (by simp only [push_cast] <;> rfl)
@[push_cast] theorem t23_1 {N : Nat} (z1 : Int) (z2 : Int) (z3 : ByteArray) (z4 : Int) (z5 : List Node) : t23 N [.agg [.int .i64 z1,.int .i64 z2,.str z3,.int .i64 z4,.sl false 5 (List.map Node.cells z5)]] = bindO (F1226 N (⟨z1,z2,z3,z4,z5⟩ : Node)) fun r => some (v23 r) :=
 TL_hit ar23.inj (⟨z1,z2,z3,z4,z5⟩ : Node) (by simp only [push_cast] <;> rfl)
@[push_cast] theorem t24_1 {N : Nat} (z1 : Int) (z2 : Int) (z3 : ByteArray) (z4 : Int) (z5 : List Node) (z6 : ByteArray) (z7 : Int) (z8 : Int) (z9 : ByteArray) (z10 : Int) : t24 N [.agg [.int .i64 z1,.int .i64 z2,.str z3,.int .i64 z4,.sl false 5 (List.map Node.cells z5)],.str z6,.agg [.int .i64 z7,.int .i64 z8,.str z9,.int .i64 z10,.sl true 5 []]] = bindO (F24 N (⟨z1,z2,z3,z4,z5⟩ : Node) z6 (⟨z7,z8,z9,z10,[]⟩ : Node)) fun r => some (v24 r) :=
 TL_hit ar24.inj ((⟨z1,z2,z3,z4,z5⟩ : Node),z6,(⟨z7,z8,z9,z10,[]⟩ : Node)) (by simp only [push_cast] <;> rfl)
@[push_cast] theorem t24_2 {N : Nat} (z1 : Int) (z2 : Int) (z3 : ByteArray) (z4 : Int) (z5 : List Node) (z6 : ByteArray) (z7 : Int) (z8 : Int) (z9 : ByteArray) (z10 : Int) : t24 N [.agg [.int .i64 z1,.int .i64 z2,.str z3,.int .i64 z4,.sl false 5 (List.map Node.cells z5)],.str z6,.agg [.int .i64 z7,.int .i64 z8,.str z9,.int .i64 z10,.sl false 5 []]] = bindO (F24 N (⟨z1,z2,z3,z4,z5⟩ : Node) z6 (⟨z7,z8,z9,z10,[]⟩ : Node)) fun r => some (v24 r) :=
 TL_hit ar24.inj ((⟨z1,z2,z3,z4,z5⟩ : Node),z6,(⟨z7,z8,z9,z10,[]⟩ : Node)) (by simp only [push_cast] <;> rfl)
@[push_cast] def H2004 : Nat → Hint
 | _ => ⟨[],[],[]⟩
@[push_cast] def ali2004 : Nat → List (Nat × Nat)
 | 5 => [(11,11),(12,12),(13,13),(16,16),(17,17),(18,18),(19,19)]
 | _ => []
def F1386b (self2004 : Node → Option (List Node)) (N : Nat) (u1 : Node) : Option (List Node) := iteO (u1.op == 30) (some ([])) (iteO (u1.op == 33) (bindO (atO u1.kids 0) fun x1 => bindO (self2004 x1) fun r2 => bindO (atO u1.kids 1) fun x3 => iteO (fits (r2.length + 1) 64) (some (r2 ++ ([x3]))) (none)) (some ([u1])))
def F1386 : Nat → Node → Option (List Node)
 | 0 => fun _ => none
 | N + 1 => fun u1 => F1386b (F1386 N) N u1
@[push_cast] def ar2004 : Ra ((Node) × (Unit)) := raC rNode (raN)
@[push_cast] def st2004 : Rt (Unit) := rtN
@[push_cast] def v2004 (u1 : Node) (r : List Node) : AV := .rs 0 1
@[push_cast] def so2004 (u1 : Node) (r : List Node) : Store := [.app 5 1 (List.map Node.cells r)]
@[push_cast] def sh2004 : Shp := .one (.leaf none)
@[push_cast] def sw2004 : List ShO := [.any]
noncomputable def t2004 (N : Nat) : List AV → Store → Option (AV × Store) := TLS (fun x : ((Node) × (Unit)) × (Unit) => ar2004.e x.1) (fun x => st2004.e x.2) fun x => bindO (F1386 N x.1.1) fun r => some (v2004 x.1.1 r,so2004 x.1.1 r)
theorem gr2004 (N : Nat) : ∀ args σ v σ',lensRun 0 [.keep] (t2004 N) args σ = some (v,σ') → Grown σ σ' := fun _ _ _ _ h => lens_grow (X := ((Node) × (Unit)) × (Unit)) (s := fun x => st2004.e x.2) rfl (fun _ => rfl) (fun _ _ _ h => some_all h fun _ => rfl) h
noncomputable def ts2004 (self2004 : Node → Option (List Node)) : List AV → Store → Option (AV × Store) := TLS (fun x : ((Node) × (Unit)) × (Unit) => ar2004.e x.1) (fun x => st2004.e x.2) fun x => bindO (self2004 x.1.1) fun r => some (v2004 x.1.1 r,so2004 x.1.1 r)
@[push_cast] theorem t2004_1 (self2004 : Node → Option (List Node)) (z1 : Int) (z2 : Int) (z3 : ByteArray) (z4 : Int) (z5 : List Node) (z6 : AObj) (z7 : AObj) : lensRun 0 [.keep] (ts2004 self2004) [.agg [.int .i64 z1,.int .i64 z2,.str z3,.int .i64 z4,.sl false 5 (List.map Node.cells z5)]] [z6,z7] = bindO (self2004 (⟨z1,z2,z3,z4,z5⟩ : Node)) fun r => some (.rs 2 1,[z6,z7,.app 5 1 (List.map Node.cells r)]) :=
 lens_hit (X := ((Node) × (Unit)) × (Unit)) (F := fun x => self2004 x.1.1) (v := fun x r => v2004 x.1.1 r) (so := fun x r => so2004 x.1.1 r) (args2 := [.agg [.int .i64 z1,.int .i64 z2,.str z3,.int .i64 z4,.sl false 5 (List.map Node.cells z5)]]) (σ2 := [z6,z7]) (ras_inj ar2004 st2004) [] (((⟨z1,z2,z3,z4,z5⟩ : Node),()),()) rfl rfl rfl (by (try simp only [push_cast]) <;> rfl) (by (try simp only [push_cast]) <;> rfl) (fun _ => (by (try simp only [push_cast]) <;> rfl)) (fun _ => (by (try simp only [push_cast]) <;> rfl)) (fun _ => rfl)
@[push_cast] def H151 : Nat → Hint
 | _ => ⟨[],[],[]⟩
def F78 (a : Int) (b : Int) : Option (Int) := iteO (decide (a < b)) (some (-1)) (iteO (decide (a > b)) (some 1) (some 0))
@[push_cast] def ar151 : Rs (Int × Int) := rsC (rI .i64) (rsO (rI .i64))
@[push_cast] def v151 (r : Int) : AV := .int .i64 r
@[push_cast] def sh151 : Shp := .one (.leaf none)
noncomputable def t151 : List AV → Option AV := TL ar151.e fun x => bindO (F78 x.1 x.2) fun r => some (v151 r)
@[push_cast] def H153 : Nat → Hint
 | _ => ⟨[],[],[]⟩
def F80 (a : Int) (b : Int) : Option (Int) := iteO (decide (a < b)) (some (-1)) (iteO (decide (a > b)) (some 1) (some 0))
@[push_cast] def ar153 : Rs (Int × Int) := rsC (rI .i64) (rsO (rI .i64))
@[push_cast] def v153 (r : Int) : AV := .int .i64 r
@[push_cast] def sh153 : Shp := .one (.leaf none)
noncomputable def t153 : List AV → Option AV := TL ar153.e fun x => bindO (F80 x.1 x.2) fun r => some (v153 r)
@[push_cast] def H132 : Nat → Hint
 | 0 => ⟨[2,3,56,57],[],[]⟩
 | 1 => ⟨[],[2,3,56,57],[]⟩
 | _ => ⟨[],[],[]⟩
def F18_s1 (self132 : Node → Node → Option (Int)) (b : Node) (s8 : Unit) (i6 : Nat) (x7 : Node) : Option (Sum (Unit) (Int)) := bindO (atO b.kids (i6 : Int)) fun x9 => bindO (self132 x7 x9) fun r10 => iteO (r10 == 0) (some (.inl ())) (some (.inr r10))
def F18_f1  (s8 : Unit) : Option (Int) := some 0
def F18b (self132 : Node → Node → Option (Int)) (N : Nat) (a : Node) (b : Node) : Option (Int) := bindO (F78 a.op b.op) fun r1 => iteO (r1 == 0) (bindO (F78 a.sortf b.sortf) fun r2 => iteO (r2 == 0) (bindO (F79 a.name b.name) fun r3 => iteO (r3 == 0) (bindO (F80 a.num b.num) fun r4 => iteO (r4 == 0) (bindO (F78 (a.kids.length : Int) (b.kids.length : Int)) fun r5 => iteO (r5 == 0) (foldN (S := Unit) (F18_s1 self132 b) (F18_f1) N a.kids 0 ()) (some r5)) (some r4)) (some r3)) (some r2)) (some r1)
def F18 : Nat → Node → Node → Option (Int)
 | 0 => fun _ _ => none
 | N + 1 => fun a b => F18b (F18 N) N a b
@[push_cast] def ar132 : Rs (Node × Node) := rsC rNode (rsO rNode)
@[push_cast] def v132 (r : Int) : AV := .int .i64 r
@[push_cast] def sh132 : Shp := .one (.leaf none)
noncomputable def t132 (N : Nat) : List AV → Option AV := TL ar132.e fun x => bindO (F18 N x.1 x.2) fun r => some (v132 r)
noncomputable def ts132 (self132 : Node → Node → Option (Int)) : List AV → Option AV := TL ar132.e fun x => bindO (self132 x.1 x.2) fun r => some (v132 r)
@[push_cast] theorem t151_1 (z1 : Int) (z2 : Int) : t151 [.int .i64 z1,.int .i64 z2] = bindO (F78 z1 z2) fun r => some (v151 r) :=
 TL_hit ar151.inj (z1,z2) (by simp only [push_cast] <;> rfl)
@[push_cast] theorem t152_1 (z1 : ByteArray) (z2 : ByteArray) : t152 [.str z1,.str z2] = bindO (F79 z1 z2) fun r => some (v152 r) :=
 TL_hit ar152.inj (z1,z2) (by simp only [push_cast] <;> rfl)
@[push_cast] theorem t153_1 (z1 : Int) (z2 : Int) : t153 [.int .i64 z1,.int .i64 z2] = bindO (F80 z1 z2) fun r => some (v153 r) :=
 TL_hit ar153.inj (z1,z2) (by simp only [push_cast] <;> rfl)
@[push_cast] theorem t132_1 (self132 : Node → Node → Option (Int)) (z1 : Int) (z2 : Int) (z3 : ByteArray) (z4 : Int) (z5 : List Node) (z6 : Int) (z7 : Int) (z8 : ByteArray) (z9 : Int) (z10 : List Node) : ts132 self132 [.agg [.int .i64 z1,.int .i64 z2,.str z3,.int .i64 z4,.sl false 5 (List.map Node.cells z5)],.agg [.int .i64 z6,.int .i64 z7,.str z8,.int .i64 z9,.sl false 5 (List.map Node.cells z10)]] = bindO (self132 (⟨z1,z2,z3,z4,z5⟩ : Node) (⟨z6,z7,z8,z9,z10⟩ : Node)) fun r => some (v132 r) :=
 TL_hit ar132.inj ((⟨z1,z2,z3,z4,z5⟩ : Node),(⟨z6,z7,z8,z9,z10⟩ : Node)) (by simp only [push_cast] <;> rfl)
@[push_cast] def H89 : Nat → Hint
 | _ => ⟨[],[],[]⟩
def F20 (N : Nat) (a : Node) (b : Node) : Option (Bool) := bindO (F18 N a b) fun r1 => some (r1 == 0)
@[push_cast] def ar89 : Rs (Node × Node) := rsC rNode (rsO rNode)
@[push_cast] def v89 (r : Bool) : AV := .bool r
@[push_cast] def sh89 : Shp := .one (.leaf none)
noncomputable def t89 (N : Nat) : List AV → Option AV := TL ar89.e fun x => bindO (F20 N x.1 x.2) fun r => some (v89 r)
@[push_cast] theorem t132_2 {N : Nat} (z1 : Int) (z2 : Int) (z3 : ByteArray) (z4 : Int) (z5 : List Node) (z6 : Int) (z7 : Int) (z8 : ByteArray) (z9 : Int) (z10 : List Node) : t132 N [.agg [.int .i64 z1,.int .i64 z2,.str z3,.int .i64 z4,.sl false 5 (List.map Node.cells z5)],.agg [.int .i64 z6,.int .i64 z7,.str z8,.int .i64 z9,.sl false 5 (List.map Node.cells z10)]] = bindO (F18 N (⟨z1,z2,z3,z4,z5⟩ : Node) (⟨z6,z7,z8,z9,z10⟩ : Node)) fun r => some (v132 r) :=
 TL_hit ar132.inj ((⟨z1,z2,z3,z4,z5⟩ : Node),(⟨z6,z7,z8,z9,z10⟩ : Node)) (by simp only [push_cast] <;> rfl)
@[push_cast] def H30 : Nat → Hint
 | 0 => ⟨[4,5,6,59,60],[4],[.frz 4]⟩
 | 1 => ⟨[],[4,5,6,59,60],[]⟩
 | _ => ⟨[],[],[]⟩
@[push_cast] def ali30 : Nat → List (Nat × Nat)
 | 7 => [(42,42),(43,43),(44,44)]
 | _ => []
def F1228_s2 (N : Nat) (x20 : Node) (s28 : List Node) (i26 : Nat) (x27 : Node) : Option (Sum (List Node) (Bool)) := iteO (decide ((s28.length : Int) > 0)) (bindO (atO s28 0) fun x29 => bindO (atO x20.kids (i26 : Int)) fun x30 => bindO (F1270 N x27 x30) fun r31 => bindO (F20 N x29 r31) fun r32 => iteO r32 (iteO (inS 1 (s28.length : Int) s28.length) (some (.inl (cutL s28 1 (s28.length : Int)))) (none)) (bindO (F20 N x27 x30) fun r33 => iteO r33 (some (.inl s28)) (some (.inr false)))) (bindO (atO x20.kids (i26 : Int)) fun x34 => bindO (F20 N x27 x34) fun r35 => iteO r35 (some (.inl s28)) (some (.inr false)))
def F1228_f2  (s28 : List Node) : Option (Bool) := some ((s28.length : Int) == 0)
def F1228_s1 (N : Nat) (x3 : Node) (s11 : List Node) (i9 : Nat) (x10 : Node) : Option (Sum (List Node) (Bool)) := iteO (decide ((s11.length : Int) > 0)) (bindO (atO s11 0) fun x12 => bindO (atO x3.kids (i9 : Int)) fun x13 => bindO (F1270 N x10 x13) fun r14 => bindO (F20 N x12 r14) fun r15 => iteO r15 (iteO (inS 1 (s11.length : Int) s11.length) (some (.inl (cutL s11 1 (s11.length : Int)))) (none)) (bindO (F20 N x10 x13) fun r16 => iteO r16 (some (.inl s11)) (some (.inr false)))) (bindO (atO x3.kids (i9 : Int)) fun x17 => bindO (F20 N x10 x17) fun r18 => iteO r18 (some (.inl s11)) (some (.inr false)))
def F1228_f1  (s11 : List Node) : Option (Bool) := some ((s11.length : Int) == 0)
def F1228 (N : Nat) (n : Node) : Option (Bool) := iteO (n.op == 35) (bindO (atO n.kids 1) fun x1 => iteO (x1.op == 37) (bindO (atO x1.kids 0) fun x19 => bindO (atO x1.kids 1) fun x20 => bindO (F1245 N x19 x20) fun r21 => iteO r21 (bindO (atO n.kids 0) fun x22 => bindO (F1386 N x22) fun r23 => bindO (F52 N r23) fun r24 => bindO (F20 N r24 x22) fun r25 => iteO r25 (foldN (S := List Node) (F1228_s2 N x20) (F1228_f2) N x19.kids 0 r23) (some false)) (some false)) (iteO (x1.op == 36) (bindO (atO x1.kids 0) fun x2 => bindO (atO x1.kids 1) fun x3 => bindO (F1245 N x2 x3) fun r4 => iteO r4 (bindO (atO n.kids 0) fun x5 => bindO (F1386 N x5) fun r6 => bindO (F52 N r6) fun r7 => bindO (F20 N r7 x5) fun r8 => iteO r8 (foldN (S := List Node) (F1228_s1 N x3) (F1228_f1) N x2.kids 0 r6) (some false)) (some false)) (some false))) (some false)
@[push_cast] def ar30 : Rs Node := rsO rNode
@[push_cast] def v30 (r : Bool) : AV := .bool r
@[push_cast] def sh30 : Shp := .one (.leaf none)
noncomputable def t30 (N : Nat) : List AV → Option AV := TL ar30.e fun x => bindO (F1228 N x) fun r => some (v30 r)
@[push_cast] theorem t2004_2 {N : Nat} (z1 : Int) (z2 : Int) (z3 : ByteArray) (z4 : Int) (z5 : List Node) (z6 : AObj) (z7 : AObj) : lensRun 0 [.keep] (t2004 N) [.agg [.int .i64 z1,.int .i64 z2,.str z3,.int .i64 z4,.sl false 5 (List.map Node.cells z5)]] [z6,z7] = bindO (F1386 N (⟨z1,z2,z3,z4,z5⟩ : Node)) fun r => some (.rs 2 1,[z6,z7,.app 5 1 (List.map Node.cells r)]) :=
 lens_hit (X := ((Node) × (Unit)) × (Unit)) (F := fun x => F1386 N x.1.1) (v := fun x r => v2004 x.1.1 r) (so := fun x r => so2004 x.1.1 r) (args2 := [.agg [.int .i64 z1,.int .i64 z2,.str z3,.int .i64 z4,.sl false 5 (List.map Node.cells z5)]]) (σ2 := [z6,z7]) (ras_inj ar2004 st2004) [] (((⟨z1,z2,z3,z4,z5⟩ : Node),()),()) rfl rfl rfl (by (try simp only [push_cast]) <;> rfl) (by (try simp only [push_cast]) <;> rfl) (fun _ => (by (try simp only [push_cast]) <;> rfl)) (fun _ => (by (try simp only [push_cast]) <;> rfl)) (fun _ => rfl)
@[push_cast] theorem t89_1 {N : Nat} (z1 : Int) (z2 : Int) (z3 : ByteArray) (z4 : Int) (z5 : List Node) (z6 : Int) (z7 : Int) (z8 : ByteArray) (z9 : Int) (z10 : List Node) : t89 N [.agg [.int .i64 z1,.int .i64 z2,.str z3,.int .i64 z4,.sl false 5 (List.map Node.cells z5)],.agg [.int .i64 z6,.int .i64 z7,.str z8,.int .i64 z9,.sl false 5 (List.map Node.cells z10)]] = bindO (F20 N (⟨z1,z2,z3,z4,z5⟩ : Node) (⟨z6,z7,z8,z9,z10⟩ : Node)) fun r => some (v89 r) :=
 TL_hit ar89.inj ((⟨z1,z2,z3,z4,z5⟩ : Node),(⟨z6,z7,z8,z9,z10⟩ : Node)) (by simp only [push_cast] <;> rfl)
@[push_cast] def H31 : Nat → Hint
 | _ => ⟨[],[],[]⟩
def F1229 (N : Nat) (n : Node) : Option (Bool) := iteO (n.op == 32) (bindO (atO n.kids 0) fun x6 => iteO (x6.op == 40) (bindO (atO x6.kids 0) fun x7 => bindO (atO x6.kids 1) fun x8 => bindO (F1247 x7 x8) fun r9 => iteO r9.2 (bindO (F20 N r9.1 n) fun r10 => some r10) (some false)) (some false)) (iteO (n.op == 36) (bindO (atO n.kids 0) fun x1 => iteO (x1.op == 40) (bindO (atO x1.kids 0) fun x2 => bindO (atO x1.kids 1) fun x3 => bindO (F1247 x2 x3) fun r4 => iteO r4.2 (bindO (F20 N r4.1 n) fun r5 => some r5) (some false)) (some false)) (some false))
@[push_cast] def ar31 : Rs Node := rsO rNode
@[push_cast] def v31 (r : Bool) : AV := .bool r
@[push_cast] def sh31 : Shp := .one (.leaf none)
noncomputable def t31 (N : Nat) : List AV → Option AV := TL ar31.e fun x => bindO (F1229 N x) fun r => some (v31 r)
@[push_cast] def H92 : Nat → Hint
 | _ => ⟨[],[],[]⟩
def F1271 (N : Nat) (n : Node) (sortq : Int) : Option (Bool) := iteO (n.op == 37) (bindO (atO n.kids 0) fun x1 => bindO (F36 N x1) fun r2 => some (r2 == sortq)) (some false)
@[push_cast] def ar92 : Rs (Node × Int) := rsC rNode (rsO (rI .i64))
@[push_cast] def v92 (r : Bool) : AV := .bool r
@[push_cast] def sh92 : Shp := .one (.leaf none)
noncomputable def t92 (N : Nat) : List AV → Option AV := TL ar92.e fun x => bindO (F1271 N x.1 x.2) fun r => some (v92 r)
@[push_cast] def H32 : Nat → Hint
 | _ => ⟨[],[],[]⟩
@[push_cast] def ali32 : Nat → List (Nat × Nat)
 | 3 => [(3,1000000),(4,1000001)]
 | _ => []
def F1230 (N : Nat) (n : Node) : Option (Bool) := iteO (n.op == 35) (bindO (atO n.kids 0) fun x1 => bindO (F1271 N x1 1) fun r2 => iteO r2 (bindO (atO n.kids 1) fun x3 => iteO (x3.op == 36) (bindO (atO x3.kids 0) fun x4 => iteO (x4.op == 40) (bindO (atO x1.kids 0) fun x5 => bindO (atO x1.kids 1) fun x6 => bindO (atO x4.kids 1) fun x7 => bindO (F1248 x5 x6 x7) fun r8 => bindO (F20 N n r8) fun r9 => some r9) (some false)) (some false)) (some false)) (some false)
@[push_cast] def ar32 : Rs Node := rsO rNode
@[push_cast] def v32 (r : Bool) : AV := .bool r
@[push_cast] def sh32 : Shp := .one (.leaf none)
noncomputable def t32 (N : Nat) : List AV → Option AV := TL ar32.e fun x => bindO (F1230 N x) fun r => some (v32 r)
@[push_cast] theorem t92_1 {N : Nat} (z1 : Int) (z2 : Int) (z3 : ByteArray) (z4 : Int) (z5 : List Node) (z6 : Int) : t92 N [.agg [.int .i64 z1,.int .i64 z2,.str z3,.int .i64 z4,.sl false 5 (List.map Node.cells z5)],.int .i64 z6] = bindO (F1271 N (⟨z1,z2,z3,z4,z5⟩ : Node) z6) fun r => some (v92 r) :=
 TL_hit ar92.inj ((⟨z1,z2,z3,z4,z5⟩ : Node),z6) (by simp only [push_cast] <;> rfl)
@[push_cast] def H39 : Nat → Hint
 | 0 => ⟨[1,2],[1,2],[]⟩
 | 1 => ⟨[],[1,2],[]⟩
 | _ => ⟨[],[],[]⟩
def F1237_s1  (s1 : Int × Int × ByteArray × Int × (List Node)) : Option (Sum (Int × Int × ByteArray × Int × (List Node)) (Node × Bool)) := iteO (decide ((s1.2.2.2.2.length : Int) > 0)) (iteO (s1.1 == 40) (bindO (atO s1.2.2.2.2 0) fun x3 => some (.inr (x3,true))) (bindO (atO s1.2.2.2.2 0) fun x2 => some (.inl (x2.op,x2.sortf,x2.name,x2.num,x2.kids)))) (iteO (s1.1 == 40) (bindO (atO s1.2.2.2.2 0) fun x4 => some (.inr (x4,true))) (some (.inr ((⟨0,0,(⟨#[]⟩ : ByteArray),0,[]⟩ : Node),false))))
def F1237 (N : Nat) (n : Node) : Option (Node × Bool) := whileN (S := Int × Int × ByteArray × Int × (List Node)) (F1237_s1) N (n.op,n.sortf,n.name,n.num,n.kids)
@[push_cast] def ar39 : Rs Node := rsO rNode
@[push_cast] def v39 (r : Node × Bool) : AV := .tuple [.agg (Node.cells r.1),.bool r.2]
@[push_cast] def sh39 : Shp := .tup [.agg [none,none,none,none,some 5],.leaf none]
noncomputable def t39 (N : Nat) : List AV → Option AV := TL ar39.e fun x => bindO (F1237 N x) fun r => some (v39 r)
@[push_cast] def H134 : Nat → Hint
 | 0 => ⟨[0,12,13,14],[],[]⟩
 | 1 => ⟨[],[0,12,13,14],[]⟩
 | _ => ⟨[],[],[]⟩
def F1296_s1 (self134 : ByteArray → Node → Option (Bool)) (name : ByteArray) (s3 : Unit) (i1 : Nat) (x2 : Node) : Option (Sum (Unit) (Bool)) := bindO (self134 name x2) fun r4 => iteO r4 (some (.inr true)) (some (.inl ()))
def F1296_f1  (s3 : Unit) : Option (Bool) := some false
def F1296b (self134 : ByteArray → Node → Option (Bool)) (N : Nat) (name : ByteArray) (n : Node) : Option (Bool) := iteO (n.name.toList == name.toList) (some true) (foldN (S := Unit) (F1296_s1 self134 name) (F1296_f1) N n.kids 0 ())
def F1296 : Nat → ByteArray → Node → Option (Bool)
 | 0 => fun _ _ => none
 | N + 1 => fun name n => F1296b (F1296 N) N name n
@[push_cast] def ar134 : Rs (ByteArray × Node) := rsC rS (rsO rNode)
@[push_cast] def v134 (r : Bool) : AV := .bool r
@[push_cast] def sh134 : Shp := .one (.leaf none)
noncomputable def t134 (N : Nat) : List AV → Option AV := TL ar134.e fun x => bindO (F1296 N x.1 x.2) fun r => some (v134 r)
noncomputable def ts134 (self134 : ByteArray → Node → Option (Bool)) : List AV → Option AV := TL ar134.e fun x => bindO (self134 x.1 x.2) fun r => some (v134 r)
@[push_cast] theorem t134_1 (self134 : ByteArray → Node → Option (Bool)) (z1 : ByteArray) (z2 : Int) (z3 : Int) (z4 : ByteArray) (z5 : Int) (z6 : List Node) : ts134 self134 [.str z1,.agg [.int .i64 z2,.int .i64 z3,.str z4,.int .i64 z5,.sl false 5 (List.map Node.cells z6)]] = bindO (self134 z1 (⟨z2,z3,z4,z5,z6⟩ : Node)) fun r => some (v134 r) :=
 TL_hit ar134.inj (z1,(⟨z2,z3,z4,z5,z6⟩ : Node)) (by simp only [push_cast] <;> rfl)
@[push_cast] def H94 : Nat → Hint
 | _ => ⟨[],[],[]⟩
def F1273 (N : Nat) (w : Node) (n : Node) : Option (Bool) := iteO (w.op == 1) (iteO (w.sortf == 1) (bindO (F1296 N w.name n) fun r1 => some (!r1)) (some false)) (some false)
@[push_cast] def ar94 : Rs (Node × Node) := rsC rNode (rsO rNode)
@[push_cast] def v94 (r : Bool) : AV := .bool r
@[push_cast] def sh94 : Shp := .one (.leaf none)
noncomputable def t94 (N : Nat) : List AV → Option AV := TL ar94.e fun x => bindO (F1273 N x.1 x.2) fun r => some (v94 r)
@[push_cast] theorem t134_2 {N : Nat} (z1 : ByteArray) (z2 : Int) (z3 : Int) (z4 : ByteArray) (z5 : Int) (z6 : List Node) : t134 N [.str z1,.agg [.int .i64 z2,.int .i64 z3,.str z4,.int .i64 z5,.sl false 5 (List.map Node.cells z6)]] = bindO (F1296 N z1 (⟨z2,z3,z4,z5,z6⟩ : Node)) fun r => some (v134 r) :=
 TL_hit ar134.inj (z1,(⟨z2,z3,z4,z5,z6⟩ : Node)) (by simp only [push_cast] <;> rfl)
@[push_cast] def H2005 : Nat → Hint
 | _ => ⟨[],[],[]⟩
def F1397 (u1 : Node) (h2 : Int) (h3 : Int) (h4 : ByteArray) (h5 : Int) (h6 : List Node) : Option (Node) := bindO (F1282 40 (⟨h2,h3,h4,h5,h6⟩ : Node) u1) fun r1 => some r1
@[push_cast] def ar2005 : Ra ((Node) × (Unit)) := raC rNode (raK (.ptr 0 0) (wkc_ptr _ _) (raN))
@[push_cast] def st2005 : Rt ((Int × (Int × (ByteArray × (Int × ((List Node) × Unit))))) × (Unit)) := rtC (oVar (rcI .i64 (rcI .i64 (rcS (rcI .i64 (rcL 5 Node.cells Node.cells_inj (rcN))))))) (rtN)
@[push_cast] def v2005 (u1 : Node) (h2 : Int) (h3 : Int) (h4 : ByteArray) (h5 : Int) (h6 : List Node) (r : Node) : AV := .agg [.int .i64 r.op,.int .i64 r.sortf,.str r.name,.int .i64 r.num,.sl false 5 (List.map Node.cells r.kids)]
@[push_cast] def so2005 (u1 : Node) (h2 : Int) (h3 : Int) (h4 : ByteArray) (h5 : Int) (h6 : List Node) (r : Node) : Store := [.var [.int .i64 h2,.int .i64 h3,.str h4,.int .i64 h5,.sl false 5 (List.map Node.cells h6)]]
@[push_cast] def sh2005 : Shp := .one (.agg [none,none,none,none,some 5])
@[push_cast] def sw2005 : List ShO := [.var [none,none,none,none,some 5]]
noncomputable def t2005 : List AV → Store → Option (AV × Store) := TLX (fun x : ((Node) × (Unit)) × ((Int × (Int × (ByteArray × (Int × ((List Node) × Unit))))) × (Unit)) => ar2005.e x.1) (fun x => st2005.e x.2) fun x => bindO (F1397 x.1.1 x.2.1.1 x.2.1.2.1 x.2.1.2.2.1 x.2.1.2.2.2.1 x.2.1.2.2.2.2.1) fun r => some (v2005 x.1.1 x.2.1.1 x.2.1.2.1 x.2.1.2.2.1 x.2.1.2.2.2.1 x.2.1.2.2.2.2.1 r,so2005 x.1.1 x.2.1.1 x.2.1.2.1 x.2.1.2.2.1 x.2.1.2.2.2.1 x.2.1.2.2.2.2.1 r)
theorem ro2005 : ∀ args σ v σ',lensRun 1 [.keep,.keep] (t2005) args σ = some (v,σ') → σ' = σ := fun _ _ _ _ h => lens_ro (X := ((Node) × (Unit)) × ((Int × (Int × (ByteArray × (Int × ((List Node) × Unit))))) × (Unit))) (s := fun x => st2005.e x.2) rfl (fun _ => rfl) (fun _ _ _ h => some_same h fun _ => rfl) h
@[push_cast] def H133 : Nat → Hint
 | _ => ⟨[],[],[]⟩
@[push_cast] def ali133 : Nat → List (Nat × Nat)
 | 3 => [(6,6)]
 | 4 => [(6,6)]
 | _ => []
def F1295 (kind : Int) (a : Node) (b : Node) (w : Node) : Option (Node) := iteO (kind == 4) (bindO (F1282 41 a b) fun r1 => bindO (F1397 a w.op w.sortf w.name w.num w.kids) fun r2 => bindO (F1397 b w.op w.sortf w.name w.num w.kids) fun r3 => bindO (F1284 32 r3) fun r4 => bindO (F1282 33 r2 r4) fun r5 => bindO (F1282 34 r1 r5) fun r6 => some r6) (bindO (F1282 37 a b) fun r7 => bindO (F1397 a w.op w.sortf w.name w.num w.kids) fun r8 => bindO (F1397 b w.op w.sortf w.name w.num w.kids) fun r9 => bindO (F1282 36 r8 r9) fun r10 => bindO (F1284 32 r10) fun r11 => bindO (F1282 34 r7 r11) fun r12 => some r12)
@[push_cast] def ar133 : Rs (Int × Node × Node × Node) := rsC (rI .i64) (rsC rNode (rsC rNode (rsO rNode)))
@[push_cast] def v133 (r : Node) : AV := .agg (Node.cells r)
@[push_cast] def sh133 : Shp := .one (.agg [none,none,none,none,some 5])
noncomputable def t133 : List AV → Option AV := TL ar133.e fun x => bindO (F1295 x.1 x.2.1 x.2.2.1 x.2.2.2) fun r => some (v133 r)
@[push_cast] theorem t2005_1 (z1 : Int) (z2 : Int) (z3 : ByteArray) (z4 : Int) (z5 : List Node) (z6 : AObj) (z7 : AObj) (z8 : Int) (z9 : Int) (z10 : ByteArray) (z11 : Int) (z12 : List Node) (z13 : AObj) : lensRun 1 [.keep,.keep] (t2005) [.agg [.int .i64 z1,.int .i64 z2,.str z3,.int .i64 z4,.sl false 5 (List.map Node.cells z5)],.ptr 2 0] [z6,z7,.var [.int .i64 z8,.int .i64 z9,.str z10,.int .i64 z11,.sl false 5 (List.map Node.cells z12)],z13] = bindO (F1397 (⟨z1,z2,z3,z4,z5⟩ : Node) z8 z9 z10 z11 z12) fun r => some (.agg [.int .i64 r.op,.int .i64 r.sortf,.str r.name,.int .i64 r.num,.sl false 5 (List.map Node.cells r.kids)],[z6,z7,.var [.int .i64 z8,.int .i64 z9,.str z10,.int .i64 z11,.sl false 5 (List.map Node.cells z12)],z13]) :=
 lens_hitX (X := ((Node) × (Unit)) × ((Int × (Int × (ByteArray × (Int × ((List Node) × Unit))))) × (Unit))) (F := fun x => F1397 x.1.1 x.2.1.1 x.2.1.2.1 x.2.1.2.2.1 x.2.1.2.2.2.1 x.2.1.2.2.2.2.1) (v := fun x r => v2005 x.1.1 x.2.1.1 x.2.1.2.1 x.2.1.2.2.1 x.2.1.2.2.2.1 x.2.1.2.2.2.2.1 r) (so := fun x r => so2005 x.1.1 x.2.1.1 x.2.1.2.1 x.2.1.2.2.1 x.2.1.2.2.2.1 x.2.1.2.2.2.2.1 r) (args2 := [.agg [.int .i64 z1,.int .i64 z2,.str z3,.int .i64 z4,.sl false 5 (List.map Node.cells z5)],.ptr 2 0]) (σ2 := [z6,z7,.var [.int .i64 z8,.int .i64 z9,.str z10,.int .i64 z11,.sl false 5 (List.map Node.cells z12)],z13]) (ras_inj ar2005 st2005) [some 2] (((⟨z1,z2,z3,z4,z5⟩ : Node),()),((z8,(z9,(z10,(z11,(z12,()))))),())) rfl rfl rfl (by (try simp only [push_cast]) <;> rfl) (by (try simp only [push_cast]) <;> rfl) (fun _ => (by (try simp only [push_cast]) <;> rfl)) (fun _ => (by (try simp only [push_cast]) <;> rfl)) (fun _ => rfl)
@[push_cast] def H93 : Nat → Hint
 | _ => ⟨[],[],[]⟩
def F1272 (N : Nat) (n : Node) (kind : Int) : Option (Bool) := iteO (n.op == 35) (bindO (atO n.kids 0) fun x32 => iteO (kind == 4) (iteO (x32.op == 41) (iteO (kind == 5) (bindO (F1271 N x32 4) fun r33 => iteO r33 (bindO (atO n.kids 1) fun x34 => bindO (F1237 N x34) fun r35 => iteO r35.2 (bindO (atO x32.kids 0) fun x36 => bindO (atO x32.kids 1) fun x37 => bindO (F1249 kind x36 x37 r35.1) fun r38 => bindO (F20 N n r38) fun r39 => some r39) (some false)) (some false)) (bindO (atO n.kids 1) fun x40 => bindO (F1237 N x40) fun r41 => iteO r41.2 (bindO (atO x32.kids 0) fun x42 => bindO (atO x32.kids 1) fun x43 => bindO (F1249 kind x42 x43 r41.1) fun r44 => bindO (F20 N n r44) fun r45 => some r45) (some false))) (some false)) (iteO (kind == 5) (bindO (F1271 N x32 4) fun r46 => iteO r46 (bindO (atO n.kids 1) fun x47 => bindO (F1237 N x47) fun r48 => iteO r48.2 (bindO (atO x32.kids 0) fun x49 => bindO (atO x32.kids 1) fun x50 => bindO (F1249 kind x49 x50 r48.1) fun r51 => bindO (F20 N n r51) fun r52 => some r52) (some false)) (some false)) (bindO (atO n.kids 1) fun x53 => bindO (F1237 N x53) fun r54 => iteO r54.2 (bindO (atO x32.kids 0) fun x55 => bindO (atO x32.kids 1) fun x56 => bindO (F1249 kind x55 x56 r54.1) fun r57 => bindO (F20 N n r57) fun r58 => some r58) (some false)))) (iteO (n.op == 34) (bindO (atO n.kids 0) fun x1 => iteO (kind == 4) (iteO (x1.op == 41) (iteO (kind == 5) (bindO (F1271 N x1 4) fun r2 => iteO r2 (bindO (atO n.kids 1) fun x3 => bindO (F1237 N x3) fun r4 => iteO r4.2 (bindO (F1273 N r4.1 x1) fun r5 => iteO r5 (bindO (atO x1.kids 0) fun x6 => bindO (atO x1.kids 1) fun x7 => bindO (F1295 kind x6 x7 r4.1) fun r8 => bindO (F20 N n r8) fun r9 => some r9) (some false)) (some false)) (some false)) (bindO (atO n.kids 1) fun x10 => bindO (F1237 N x10) fun r11 => iteO r11.2 (bindO (F1273 N r11.1 x1) fun r12 => iteO r12 (bindO (atO x1.kids 0) fun x13 => bindO (atO x1.kids 1) fun x14 => bindO (F1295 kind x13 x14 r11.1) fun r15 => bindO (F20 N n r15) fun r16 => some r16) (some false)) (some false))) (some false)) (iteO (kind == 5) (bindO (F1271 N x1 4) fun r17 => iteO r17 (bindO (atO n.kids 1) fun x18 => bindO (F1237 N x18) fun r19 => iteO r19.2 (bindO (F1273 N r19.1 x1) fun r20 => iteO r20 (bindO (atO x1.kids 0) fun x21 => bindO (atO x1.kids 1) fun x22 => bindO (F1295 kind x21 x22 r19.1) fun r23 => bindO (F20 N n r23) fun r24 => some r24) (some false)) (some false)) (some false)) (bindO (atO n.kids 1) fun x25 => bindO (F1237 N x25) fun r26 => iteO r26.2 (bindO (F1273 N r26.1 x1) fun r27 => iteO r27 (bindO (atO x1.kids 0) fun x28 => bindO (atO x1.kids 1) fun x29 => bindO (F1295 kind x28 x29 r26.1) fun r30 => bindO (F20 N n r30) fun r31 => some r31) (some false)) (some false)))) (some false))
@[push_cast] def ar93 : Rs (Node × Int) := rsC rNode (rsO (rI .i64))
@[push_cast] def v93 (r : Bool) : AV := .bool r
@[push_cast] def sh93 : Shp := .one (.leaf none)
noncomputable def t93 (N : Nat) : List AV → Option AV := TL ar93.e fun x => bindO (F1272 N x.1 x.2) fun r => some (v93 r)
@[push_cast] theorem t39_1 {N : Nat} (z1 : Int) (z2 : Int) (z3 : ByteArray) (z4 : Int) (z5 : List Node) : t39 N [.agg [.int .i64 z1,.int .i64 z2,.str z3,.int .i64 z4,.sl false 5 (List.map Node.cells z5)]] = bindO (F1237 N (⟨z1,z2,z3,z4,z5⟩ : Node)) fun r => some (v39 r) :=
 TL_hit ar39.inj (⟨z1,z2,z3,z4,z5⟩ : Node) (by simp only [push_cast] <;> rfl)
@[push_cast] theorem t94_1 {N : Nat} (z1 : Int) (z2 : Int) (z3 : ByteArray) (z4 : Int) (z5 : List Node) (z6 : Int) (z7 : Int) (z8 : ByteArray) (z9 : Int) (z10 : List Node) : t94 N [.agg [.int .i64 z1,.int .i64 z2,.str z3,.int .i64 z4,.sl false 5 (List.map Node.cells z5)],.agg [.int .i64 z6,.int .i64 z7,.str z8,.int .i64 z9,.sl false 5 (List.map Node.cells z10)]] = bindO (F1273 N (⟨z1,z2,z3,z4,z5⟩ : Node) (⟨z6,z7,z8,z9,z10⟩ : Node)) fun r => some (v94 r) :=
 TL_hit ar94.inj ((⟨z1,z2,z3,z4,z5⟩ : Node),(⟨z6,z7,z8,z9,z10⟩ : Node)) (by simp only [push_cast] <;> rfl)
@[push_cast] theorem t133_1 (z1 : Int) (z2 : Int) (z3 : Int) (z4 : ByteArray) (z5 : Int) (z6 : List Node) (z7 : Int) (z8 : Int) (z9 : ByteArray) (z10 : Int) (z11 : List Node) (z12 : Int) (z13 : Int) (z14 : ByteArray) (z15 : Int) (z16 : List Node) : t133 [.int .i64 z1,.agg [.int .i64 z2,.int .i64 z3,.str z4,.int .i64 z5,.sl false 5 (List.map Node.cells z6)],.agg [.int .i64 z7,.int .i64 z8,.str z9,.int .i64 z10,.sl false 5 (List.map Node.cells z11)],.agg [.int .i64 z12,.int .i64 z13,.str z14,.int .i64 z15,.sl false 5 (List.map Node.cells z16)]] = bindO (F1295 z1 (⟨z2,z3,z4,z5,z6⟩ : Node) (⟨z7,z8,z9,z10,z11⟩ : Node) (⟨z12,z13,z14,z15,z16⟩ : Node)) fun r => some (v133 r) :=
 TL_hit ar133.inj (z1,(⟨z2,z3,z4,z5,z6⟩ : Node),(⟨z7,z8,z9,z10,z11⟩ : Node),(⟨z12,z13,z14,z15,z16⟩ : Node)) (by simp only [push_cast] <;> rfl)
@[push_cast] def H33 : Nat → Hint
 | _ => ⟨[],[],[]⟩
def F1231 (N : Nat) (n : Node) : Option (Bool) := bindO (F1272 N n 4) fun r1 => some r1
@[push_cast] def ar33 : Rs Node := rsO rNode
@[push_cast] def v33 (r : Bool) : AV := .bool r
@[push_cast] def sh33 : Shp := .one (.leaf none)
noncomputable def t33 (N : Nat) : List AV → Option AV := TL ar33.e fun x => bindO (F1231 N x) fun r => some (v33 r)
@[push_cast] theorem t93_1 {N : Nat} (z1 : Int) (z2 : Int) (z3 : ByteArray) (z4 : Int) (z5 : List Node) (z6 : Int) : t93 N [.agg [.int .i64 z1,.int .i64 z2,.str z3,.int .i64 z4,.sl false 5 (List.map Node.cells z5)],.int .i64 z6] = bindO (F1272 N (⟨z1,z2,z3,z4,z5⟩ : Node) z6) fun r => some (v93 r) :=
 TL_hit ar93.inj ((⟨z1,z2,z3,z4,z5⟩ : Node),z6) (by simp only [push_cast] <;> rfl)
@[push_cast] def H34 : Nat → Hint
 | _ => ⟨[],[],[]⟩
def F1232 (N : Nat) (n : Node) : Option (Bool) := bindO (F1272 N n 5) fun r1 => some r1
@[push_cast] def ar34 : Rs Node := rsO rNode
@[push_cast] def v34 (r : Bool) : AV := .bool r
@[push_cast] def sh34 : Shp := .one (.leaf none)
noncomputable def t34 (N : Nat) : List AV → Option AV := TL ar34.e fun x => bindO (F1232 N x) fun r => some (v34 r)
@[push_cast] def H35 : Nat → Hint
 | _ => ⟨[],[],[]⟩
@[push_cast] def ali35 : Nat → List (Nat × Nat)
 | 13 => [(4,1000000),(5,1000001)]
 | _ => []
def F1233 (N : Nat) (n : Node) : Option (Bool) := iteO (n.op == 38) (bindO (atO n.kids 1) fun x1 => iteO (x1.op == 16) (bindO (atO x1.kids 0) fun x2 => bindO (F1253 x2) fun r3 => bindO (F20 N n r3) fun r4 => some r4) (some false)) (iteO (n.op == 37) (bindO (atO n.kids 0) fun x5 => iteO (x5.op == 16) (bindO (atO x5.kids 0) fun x6 => iteO (x6.op == 15) (bindO (atO x6.kids 1) fun x7 => bindO (F1251 x7 x6) fun r8 => bindO (atO r8 2) fun x9 => bindO (F20 N n x9) fun r10 => some r10) (some false)) (some false)) (iteO (n.op == 35) (bindO (atO n.kids 0) fun x11 => bindO (F1271 N x11 1) fun r12 => iteO r12 (bindO (atO n.kids 1) fun x13 => bindO (F1271 N x13 1) fun r14 => iteO r14 (bindO (atO x13.kids 0) fun x15 => iteO (x15.op == 14) (bindO (atO x11.kids 0) fun x16 => bindO (atO x11.kids 1) fun x17 => bindO (atO x15.kids 0) fun x18 => bindO (F1252 x16 x17 x18) fun r19 => bindO (F20 N n r19) fun r20 => iteO r20 (some true) (iteO (x18.op == 15) (bindO (F1251 x17 x18) fun r21 => bindO (atO r21 0) fun x22 => bindO (F20 N n x22) fun r23 => iteO r23 (some true) (bindO (atO r21 1) fun x24 => bindO (F20 N n x24) fun r25 => some r25)) (some false))) (some false)) (some false)) (some false)) (iteO (n.op == 34) (bindO (atO n.kids 0) fun x26 => bindO (F1271 N x26 1) fun r27 => iteO r27 (bindO (atO n.kids 1) fun x28 => bindO (F1271 N x28 1) fun r29 => iteO r29 (bindO (atO x28.kids 0) fun x30 => iteO (x30.op == 14) (bindO (atO x26.kids 0) fun x31 => bindO (atO x26.kids 1) fun x32 => bindO (atO x30.kids 0) fun x33 => iteO (x33.op == 15) (bindO (F1251 x32 x33) fun r34 => bindO (atO r34 0) fun x35 => bindO (F20 N n x35) fun r36 => iteO r36 (some true) (bindO (atO r34 1) fun x37 => bindO (F20 N n x37) fun r38 => some r38)) (some false)) (some false)) (some false)) (some false)) (some false))))
@[push_cast] def ar35 : Rs Node := rsO rNode
@[push_cast] def v35 (r : Bool) : AV := .bool r
@[push_cast] def sh35 : Shp := .one (.leaf none)
noncomputable def t35 (N : Nat) : List AV → Option AV := TL ar35.e fun x => bindO (F1233 N x) fun r => some (v35 r)
@[push_cast] def H38 : Nat → Hint
 | _ => ⟨[],[],[]⟩
def F1236 (n : Node) : Option (Node × Bool) := bindO (atO n.kids 1) fun x1 => iteO (x1.op == 33) (bindO (atO x1.kids 1) fun x8 => iteO (x8.op == 32) (bindO (atO x8.kids 0) fun x9 => iteO (x9.op == 37) (bindO (atO x9.kids 0) fun x10 => iteO (x10.op == 14) (bindO (atO x10.kids 1) fun x11 => some (x11,true)) (some ((⟨0,0,(⟨#[]⟩ : ByteArray),0,[]⟩ : Node),false))) (some ((⟨0,0,(⟨#[]⟩ : ByteArray),0,[]⟩ : Node),false))) (iteO (x8.op == 37) (bindO (atO x8.kids 0) fun x12 => iteO (x12.op == 14) (bindO (atO x12.kids 1) fun x13 => some (x13,true)) (some ((⟨0,0,(⟨#[]⟩ : ByteArray),0,[]⟩ : Node),false))) (some ((⟨0,0,(⟨#[]⟩ : ByteArray),0,[]⟩ : Node),false)))) (iteO (x1.op == 34) (bindO (atO x1.kids 1) fun x2 => iteO (x2.op == 32) (bindO (atO x2.kids 0) fun x3 => iteO (x3.op == 37) (bindO (atO x3.kids 0) fun x4 => iteO (x4.op == 14) (bindO (atO x4.kids 1) fun x5 => some (x5,true)) (some ((⟨0,0,(⟨#[]⟩ : ByteArray),0,[]⟩ : Node),false))) (some ((⟨0,0,(⟨#[]⟩ : ByteArray),0,[]⟩ : Node),false))) (iteO (x2.op == 37) (bindO (atO x2.kids 0) fun x6 => iteO (x6.op == 14) (bindO (atO x6.kids 1) fun x7 => some (x7,true)) (some ((⟨0,0,(⟨#[]⟩ : ByteArray),0,[]⟩ : Node),false))) (some ((⟨0,0,(⟨#[]⟩ : ByteArray),0,[]⟩ : Node),false)))) (some ((⟨0,0,(⟨#[]⟩ : ByteArray),0,[]⟩ : Node),false)))
@[push_cast] def ar38 : Rs Node := rsO rNode
@[push_cast] def v38 (r : Node × Bool) : AV := .tuple [.agg (Node.cells r.1),.bool r.2]
@[push_cast] def sh38 : Shp := .tup [.agg [none,none,none,none,some 5],.leaf none]
noncomputable def t38 : List AV → Option AV := TL ar38.e fun x => bindO (F1236 x) fun r => some (v38 r)
@[push_cast] def H95 : Nat → Hint
 | _ => ⟨[],[],[]⟩
def F1274 (a : Node) (b : Node) (w : Node) : Option (Node) := bindO (F1282 37 a b) fun r1 => bindO (F1287 a) fun r2 => bindO (F1287 b) fun r3 => bindO (F1282 37 r2 r3) fun r4 => bindO (F1284 32 r4) fun r5 => bindO (F1286 a w) fun r6 => bindO (F1286 b w) fun r7 => bindO (F1282 37 r6 r7) fun r8 => bindO (F1284 32 r8) fun r9 => bindO (F1282 34 r5 r9) fun r10 => bindO (F1282 34 r1 r10) fun r11 => some r11
@[push_cast] def ar95 : Rs (Node × Node × Node) := rsC rNode (rsC rNode (rsO rNode))
@[push_cast] def v95 (r : Node) : AV := .agg (Node.cells r)
@[push_cast] def sh95 : Shp := .one (.agg [none,none,none,none,some 5])
noncomputable def t95 : List AV → Option AV := TL ar95.e fun x => bindO (F1274 x.1 x.2.1 x.2.2) fun r => some (v95 r)
@[push_cast] def H36 : Nat → Hint
 | _ => ⟨[],[],[]⟩
@[push_cast] def ali36 : Nat → List (Nat × Nat)
 | 3 => [(3,1000000),(4,1000001)]
 | _ => []
def F1234 (N : Nat) (n : Node) : Option (Bool) := iteO (n.op == 35) (bindO (atO n.kids 0) fun x9 => bindO (F1271 N x9 5) fun r10 => iteO r10 (bindO (atO x9.kids 0) fun x11 => bindO (atO x9.kids 1) fun x12 => bindO (F1236 n) fun r13 => iteO r13.2 (bindO (F1254 x11 x12 r13.1) fun r14 => bindO (F20 N n r14) fun r15 => some r15) (some false)) (some false)) (iteO (n.op == 34) (bindO (atO n.kids 0) fun x1 => bindO (F1271 N x1 5) fun r2 => iteO r2 (bindO (atO x1.kids 0) fun x3 => bindO (atO x1.kids 1) fun x4 => bindO (F1236 n) fun r5 => iteO r5.2 (bindO (F1273 N r5.1 x1) fun r6 => iteO r6 (bindO (F1274 x3 x4 r5.1) fun r7 => bindO (F20 N n r7) fun r8 => some r8) (some false)) (some false)) (some false)) (some false))
@[push_cast] def ar36 : Rs Node := rsO rNode
@[push_cast] def v36 (r : Bool) : AV := .bool r
@[push_cast] def sh36 : Shp := .one (.leaf none)
noncomputable def t36 (N : Nat) : List AV → Option AV := TL ar36.e fun x => bindO (F1234 N x) fun r => some (v36 r)
@[push_cast] theorem t38_1 (z1 : Int) (z2 : Int) (z3 : ByteArray) (z4 : Int) (z5 : List Node) : t38 [.agg [.int .i64 z1,.int .i64 z2,.str z3,.int .i64 z4,.sl false 5 (List.map Node.cells z5)]] = bindO (F1236 (⟨z1,z2,z3,z4,z5⟩ : Node)) fun r => some (v38 r) :=
 TL_hit ar38.inj (⟨z1,z2,z3,z4,z5⟩ : Node) (by simp only [push_cast] <;> rfl)
@[push_cast] theorem t95_1 (z1 : Int) (z2 : Int) (z3 : ByteArray) (z4 : Int) (z5 : List Node) (z6 : Int) (z7 : Int) (z8 : ByteArray) (z9 : Int) (z10 : List Node) (z11 : Int) (z12 : Int) (z13 : ByteArray) (z14 : Int) (z15 : List Node) : t95 [.agg [.int .i64 z1,.int .i64 z2,.str z3,.int .i64 z4,.sl false 5 (List.map Node.cells z5)],.agg [.int .i64 z6,.int .i64 z7,.str z8,.int .i64 z9,.sl false 5 (List.map Node.cells z10)],.agg [.int .i64 z11,.int .i64 z12,.str z13,.int .i64 z14,.sl false 5 (List.map Node.cells z15)]] = bindO (F1274 (⟨z1,z2,z3,z4,z5⟩ : Node) (⟨z6,z7,z8,z9,z10⟩ : Node) (⟨z11,z12,z13,z14,z15⟩ : Node)) fun r => some (v95 r) :=
 TL_hit ar95.inj ((⟨z1,z2,z3,z4,z5⟩ : Node),(⟨z6,z7,z8,z9,z10⟩ : Node),(⟨z11,z12,z13,z14,z15⟩ : Node)) (by simp only [push_cast] <;> rfl)
@[push_cast] def H37 : Nat → Hint
 | _ => ⟨[],[],[]⟩
def F1235 (N : Nat) (n : Node) : Option (Bool) := iteO (n.op == 35) (bindO (atO n.kids 1) fun x8 => iteO (x8.op == 37) (bindO (atO x8.kids 0) fun x9 => iteO (x9.op == 8) (bindO (F1255 x9) fun r10 => bindO (atO r10 0) fun x11 => bindO (F20 N n x11) fun r12 => iteO r12 (some true) (bindO (atO r10 1) fun x13 => bindO (F20 N n x13) fun r14 => some r14)) (some false)) (some false)) (iteO (n.op == 34) (bindO (atO n.kids 1) fun x1 => iteO (x1.op == 37) (bindO (atO x1.kids 0) fun x2 => iteO (x2.op == 8) (bindO (F1255 x2) fun r3 => bindO (atO r3 0) fun x4 => bindO (F20 N n x4) fun r5 => iteO r5 (some true) (bindO (atO r3 1) fun x6 => bindO (F20 N n x6) fun r7 => some r7)) (some false)) (some false)) (some false))
@[push_cast] def ar37 : Rs Node := rsO rNode
@[push_cast] def v37 (r : Bool) : AV := .bool r
@[push_cast] def sh37 : Shp := .one (.leaf none)
noncomputable def t37 (N : Nat) : List AV → Option AV := TL ar37.e fun x => bindO (F1235 N x) fun r => some (v37 r)
@[push_cast] def H11 : Nat → Hint
 | 0 => ⟨[1,8,9,10],[],[]⟩
 | 1 => ⟨[],[1,8,9,10],[]⟩
 | _ => ⟨[],[],[]⟩
def F1216 (N : Nat) (n : Node) : Option (Int) := iteO (decide (10 ≤ N)) (bindO (F1226 N n) fun r1 => iteO r1 (bindO (F1228 N n) fun r2 => iteO r2 (some 1) (bindO (F1229 N n) fun r3 => iteO r3 (some 2) (bindO (F1230 N n) fun r4 => iteO r4 (some 3) (bindO (F1231 N n) fun r5 => iteO r5 (some 4) (bindO (F1232 N n) fun r6 => iteO r6 (some 5) (bindO (F1233 N n) fun r7 => iteO r7 (some 6) (bindO (F1234 N n) fun r8 => iteO r8 (some 7) (bindO (F1235 N n) fun r9 => iteO r9 (some 8) (some 0))))))))) (some 0)) (none)
@[push_cast] def ar11 : Rs Node := rsO rNode
@[push_cast] def v11 (r : Int) : AV := .int .i64 r
@[push_cast] def sh11 : Shp := .one (.leaf none)
noncomputable def t11 (N : Nat) : List AV → Option AV := TL ar11.e fun x => bindO (F1216 N x) fun r => some (v11 r)
@[push_cast] theorem t30_1 {N : Nat} (z1 : Int) (z2 : Int) (z3 : ByteArray) (z4 : Int) (z5 : List Node) : t30 N [.agg [.int .i64 z1,.int .i64 z2,.str z3,.int .i64 z4,.sl false 5 (List.map Node.cells z5)]] = bindO (F1228 N (⟨z1,z2,z3,z4,z5⟩ : Node)) fun r => some (v30 r) :=
 TL_hit ar30.inj (⟨z1,z2,z3,z4,z5⟩ : Node) (by simp only [push_cast] <;> rfl)
@[push_cast] theorem t31_1 {N : Nat} (z1 : Int) (z2 : Int) (z3 : ByteArray) (z4 : Int) (z5 : List Node) : t31 N [.agg [.int .i64 z1,.int .i64 z2,.str z3,.int .i64 z4,.sl false 5 (List.map Node.cells z5)]] = bindO (F1229 N (⟨z1,z2,z3,z4,z5⟩ : Node)) fun r => some (v31 r) :=
 TL_hit ar31.inj (⟨z1,z2,z3,z4,z5⟩ : Node) (by simp only [push_cast] <;> rfl)
@[push_cast] theorem t32_1 {N : Nat} (z1 : Int) (z2 : Int) (z3 : ByteArray) (z4 : Int) (z5 : List Node) : t32 N [.agg [.int .i64 z1,.int .i64 z2,.str z3,.int .i64 z4,.sl false 5 (List.map Node.cells z5)]] = bindO (F1230 N (⟨z1,z2,z3,z4,z5⟩ : Node)) fun r => some (v32 r) :=
 TL_hit ar32.inj (⟨z1,z2,z3,z4,z5⟩ : Node) (by simp only [push_cast] <;> rfl)
@[push_cast] theorem t33_1 {N : Nat} (z1 : Int) (z2 : Int) (z3 : ByteArray) (z4 : Int) (z5 : List Node) : t33 N [.agg [.int .i64 z1,.int .i64 z2,.str z3,.int .i64 z4,.sl false 5 (List.map Node.cells z5)]] = bindO (F1231 N (⟨z1,z2,z3,z4,z5⟩ : Node)) fun r => some (v33 r) :=
 TL_hit ar33.inj (⟨z1,z2,z3,z4,z5⟩ : Node) (by simp only [push_cast] <;> rfl)
@[push_cast] theorem t34_1 {N : Nat} (z1 : Int) (z2 : Int) (z3 : ByteArray) (z4 : Int) (z5 : List Node) : t34 N [.agg [.int .i64 z1,.int .i64 z2,.str z3,.int .i64 z4,.sl false 5 (List.map Node.cells z5)]] = bindO (F1232 N (⟨z1,z2,z3,z4,z5⟩ : Node)) fun r => some (v34 r) :=
 TL_hit ar34.inj (⟨z1,z2,z3,z4,z5⟩ : Node) (by simp only [push_cast] <;> rfl)
@[push_cast] theorem t35_1 {N : Nat} (z1 : Int) (z2 : Int) (z3 : ByteArray) (z4 : Int) (z5 : List Node) : t35 N [.agg [.int .i64 z1,.int .i64 z2,.str z3,.int .i64 z4,.sl false 5 (List.map Node.cells z5)]] = bindO (F1233 N (⟨z1,z2,z3,z4,z5⟩ : Node)) fun r => some (v35 r) :=
 TL_hit ar35.inj (⟨z1,z2,z3,z4,z5⟩ : Node) (by simp only [push_cast] <;> rfl)
@[push_cast] theorem t36_1 {N : Nat} (z1 : Int) (z2 : Int) (z3 : ByteArray) (z4 : Int) (z5 : List Node) : t36 N [.agg [.int .i64 z1,.int .i64 z2,.str z3,.int .i64 z4,.sl false 5 (List.map Node.cells z5)]] = bindO (F1234 N (⟨z1,z2,z3,z4,z5⟩ : Node)) fun r => some (v36 r) :=
 TL_hit ar36.inj (⟨z1,z2,z3,z4,z5⟩ : Node) (by simp only [push_cast] <;> rfl)
@[push_cast] theorem t37_1 {N : Nat} (z1 : Int) (z2 : Int) (z3 : ByteArray) (z4 : Int) (z5 : List Node) : t37 N [.agg [.int .i64 z1,.int .i64 z2,.str z3,.int .i64 z4,.sl false 5 (List.map Node.cells z5)]] = bindO (F1235 N (⟨z1,z2,z3,z4,z5⟩ : Node)) fun r => some (v37 r) :=
 TL_hit ar37.inj (⟨z1,z2,z3,z4,z5⟩ : Node) (by simp only [push_cast] <;> rfl)
@[push_cast] def H87 : Nat → Hint
 | _ => ⟨[],[],[]⟩
def F81 (a : Int) (b : Int) : Option (Int) := iteO (decide (a < b)) (some (-1)) (iteO (decide (a > b)) (some 1) (some 0))
@[push_cast] def ar87 : Rs (Int × Int) := rsC (rI .i64) (rsO (rI .i64))
@[push_cast] def v87 (r : Int) : AV := .int .i64 r
@[push_cast] def sh87 : Shp := .one (.leaf none)
noncomputable def t87 : List AV → Option AV := TL ar87.e fun x => bindO (F81 x.1 x.2) fun r => some (v87 r)
@[push_cast] def H29 : Nat → Hint
 | 0 => ⟨[2,3,5,6],[5],[]⟩
 | 1 => ⟨[],[2,3,5,6],[]⟩
 | _ => ⟨[],[],[]⟩
def F19_s1  (s3 : Unit) : Option (Sum (Unit) (Int)) := some (.inr (-1))
def F19_s3 (self29 : Node → Node → Option (Int)) (a : Node) (b : Node) (s7 : Int × Int) : Option (Sum (Int × Int) (Int)) := iteO (s7.1 == 0) (iteO (decide (s7.2 < (a.kids.length : Int))) (bindO (atO a.kids s7.2) fun x8 => bindO (atO b.kids s7.2) fun x9 => bindO (self29 x8 x9) fun r10 => some (.inl (r10,IntKind.i64.wrap (s7.2 + 1)))) (some (.inr s7.1))) (some (.inr s7.1))
def F19_s4 (r5 : Int) (s11 : Unit) : Option (Sum (Unit) (Int)) := some (.inr r5)
def F19_s2  (s4 : Unit) : Option (Sum (Unit) (Int)) := some (.inr 1)
def F19_s5 (r2 : Int) (s12 : Unit) : Option (Sum (Unit) (Int)) := some (.inr r2)
def F19_s6 (r1 : Int) (s13 : Unit) : Option (Sum (Unit) (Int)) := some (.inr r1)
def F19b (self29 : Node → Node → Option (Int)) (N : Nat) (a : Node) (b : Node) : Option (Int) := bindO (F81 a.op b.op) fun r1 => iteO (r1 == 0) (bindO (F81 a.sortf b.sortf) fun r2 => iteO (r2 == 0) (iteO (Op.bytesLess a.name.toList b.name.toList) (whileN (S := Unit) (F19_s1) N ()) (iteO (Op.bytesLess a.name.toList b.name.toList || a.name.toList == b.name.toList) (bindO (F81 a.num b.num) fun r5 => iteO (r5 == 0) (bindO (F81 (a.kids.length : Int) (b.kids.length : Int)) fun r6 => whileN (S := Int × Int) (F19_s3 self29 a b) N (r6,0)) (whileN (S := Unit) (F19_s4 r5) N ())) (whileN (S := Unit) (F19_s2) N ()))) (whileN (S := Unit) (F19_s5 r2) N ())) (whileN (S := Unit) (F19_s6 r1) N ())
def F19 : Nat → Node → Node → Option (Int)
 | 0 => fun _ _ => none
 | N + 1 => fun a b => F19b (F19 N) N a b
@[push_cast] def ar29 : Rs (Node × Node) := rsC rNode (rsO rNode)
@[push_cast] def v29 (r : Int) : AV := .int .i64 r
@[push_cast] def sh29 : Shp := .one (.leaf none)
noncomputable def t29 (N : Nat) : List AV → Option AV := TL ar29.e fun x => bindO (F19 N x.1 x.2) fun r => some (v29 r)
noncomputable def ts29 (self29 : Node → Node → Option (Int)) : List AV → Option AV := TL ar29.e fun x => bindO (self29 x.1 x.2) fun r => some (v29 r)
@[push_cast] theorem t87_1 (z1 : Int) (z2 : Int) : t87 [.int .i64 z1,.int .i64 z2] = bindO (F81 z1 z2) fun r => some (v87 r) :=
 TL_hit ar87.inj (z1,z2) (by simp only [push_cast] <;> rfl)
@[push_cast] theorem t29_1 (self29 : Node → Node → Option (Int)) (z1 : Int) (z2 : Int) (z3 : ByteArray) (z4 : Int) (z5 : List Node) (z6 : Int) (z7 : Int) (z8 : ByteArray) (z9 : Int) (z10 : List Node) : ts29 self29 [.agg [.int .i64 z1,.int .i64 z2,.str z3,.int .i64 z4,.sl false 5 (List.map Node.cells z5)],.agg [.int .i64 z6,.int .i64 z7,.str z8,.int .i64 z9,.sl false 5 (List.map Node.cells z10)]] = bindO (self29 (⟨z1,z2,z3,z4,z5⟩ : Node) (⟨z6,z7,z8,z9,z10⟩ : Node)) fun r => some (v29 r) :=
 TL_hit ar29.inj ((⟨z1,z2,z3,z4,z5⟩ : Node),(⟨z6,z7,z8,z9,z10⟩ : Node)) (by simp only [push_cast] <;> rfl)
@[push_cast] def H10 : Nat → Hint
 | _ => ⟨[],[],[]⟩
def F21 (N : Nat) (a : Node) (b : Node) : Option (Bool) := bindO (F19 N a b) fun r1 => some (r1 == 0)
@[push_cast] def ar10 : Rs (Node × Node) := rsC rNode (rsO rNode)
@[push_cast] def v10 (r : Bool) : AV := .bool r
@[push_cast] def sh10 : Shp := .one (.leaf none)
noncomputable def t10 (N : Nat) : List AV → Option AV := TL ar10.e fun x => bindO (F21 N x.1 x.2) fun r => some (v10 r)
@[push_cast] theorem t29_2 {N : Nat} (z1 : Int) (z2 : Int) (z3 : ByteArray) (z4 : Int) (z5 : List Node) (z6 : Int) (z7 : Int) (z8 : ByteArray) (z9 : Int) (z10 : List Node) : t29 N [.agg [.int .i64 z1,.int .i64 z2,.str z3,.int .i64 z4,.sl false 5 (List.map Node.cells z5)],.agg [.int .i64 z6,.int .i64 z7,.str z8,.int .i64 z9,.sl false 5 (List.map Node.cells z10)]] = bindO (F19 N (⟨z1,z2,z3,z4,z5⟩ : Node) (⟨z6,z7,z8,z9,z10⟩ : Node)) fun r => some (v29 r) :=
 TL_hit ar29.inj ((⟨z1,z2,z3,z4,z5⟩ : Node),(⟨z6,z7,z8,z9,z10⟩ : Node)) (by simp only [push_cast] <;> rfl)
@[push_cast] def H6 : Nat → Hint
 | _ => ⟨[],[],[]⟩
def F1213 (N : Nat) : Option (Bool) := bindO (F84 40 (⟨1,1,(⟨#[120]⟩ : ByteArray),0,[]⟩ : Node) (⟨9,0,(⟨#[]⟩ : ByteArray),0,[]⟩ : Node)) fun r1 => bindO (F1224 32 r1) fun r2 => bindO (F1214 N 2 ([(⟨1,1,(⟨#[120]⟩ : ByteArray),0,[]⟩ : Node),(⟨9,0,(⟨#[]⟩ : ByteArray),0,[]⟩ : Node)])) fun r3 => bindO (F1216 N r2) fun r4 => iteO (r4 == 2) (iteO (r3.2 == 0) (iteO ((r3.1.length : Int) == 1) (bindO (atO r3.1 0) fun x5 => bindO (F21 N x5 r2) fun r6 => some r6) (some false)) (some false)) (some false)
@[push_cast] def ar6 : Rs Unit := rsN
@[push_cast] def v6 (r : Bool) : AV := .bool r
@[push_cast] def sh6 : Shp := .one (.leaf none)
noncomputable def t6 (N : Nat) : List AV → Option AV := TL ar6.e fun x => bindO (F1213 N) fun r => some (v6 r)
@[push_cast] theorem t19_1 (z1 : Int) (z2 : Int) (z3 : Int) (z4 : ByteArray) (z5 : Int) (z7 : Int) (z8 : Int) (z9 : ByteArray) (z10 : Int) : t19 [.int .i64 z1,.agg [.int .i64 z2,.int .i64 z3,.str z4,.int .i64 z5,.sl true 5 []],.agg [.int .i64 z7,.int .i64 z8,.str z9,.int .i64 z10,.sl true 5 []]] = bindO (F84 z1 (⟨z2,z3,z4,z5,[]⟩ : Node) (⟨z7,z8,z9,z10,[]⟩ : Node)) fun r => some (v19 r) :=
 TL_hit ar19.inj (z1,(⟨z2,z3,z4,z5,[]⟩ : Node),(⟨z7,z8,z9,z10,[]⟩ : Node)) (by simp only [push_cast] <;> rfl)
@[push_cast] theorem t19_2 (z1 : Int) (z2 : Int) (z3 : Int) (z4 : ByteArray) (z5 : Int) (z7 : Int) (z8 : Int) (z9 : ByteArray) (z10 : Int) : t19 [.int .i64 z1,.agg [.int .i64 z2,.int .i64 z3,.str z4,.int .i64 z5,.sl false 5 []],.agg [.int .i64 z7,.int .i64 z8,.str z9,.int .i64 z10,.sl false 5 []]] = bindO (F84 z1 (⟨z2,z3,z4,z5,[]⟩ : Node) (⟨z7,z8,z9,z10,[]⟩ : Node)) fun r => some (v19 r) :=
 TL_hit ar19.inj (z1,(⟨z2,z3,z4,z5,[]⟩ : Node),(⟨z7,z8,z9,z10,[]⟩ : Node)) (by simp only [push_cast] <;> rfl)
@[push_cast] theorem t18_1 (z1 : Int) (z2 : Int) (z3 : Int) (z4 : ByteArray) (z5 : Int) (z6 : List Node) : t18 [.int .i64 z1,.agg [.int .i64 z2,.int .i64 z3,.str z4,.int .i64 z5,.sl false 5 (List.map Node.cells z6)]] = bindO (F1224 z1 (⟨z2,z3,z4,z5,z6⟩ : Node)) fun r => some (v18 r) :=
 TL_hit ar18.inj (z1,(⟨z2,z3,z4,z5,z6⟩ : Node)) (by simp only [push_cast] <;> rfl)
@[push_cast] theorem t8_1 {N : Nat} (z1 : Int) (z3 : Int) (z4 : Int) (z5 : ByteArray) (z6 : Int) (z8 : Int) (z9 : Int) (z10 : ByteArray) (z11 : Int) : t8 N [.int .i64 z1,.sl true 5 [[.int .i64 z3,.int .i64 z4,.str z5,.int .i64 z6,.sl false 5 []],[.int .i64 z8,.int .i64 z9,.str z10,.int .i64 z11,.sl false 5 []]]] = bindO (F1214 N z1 ([(⟨z3,z4,z5,z6,[]⟩ : Node),(⟨z8,z9,z10,z11,[]⟩ : Node)])) fun r => some (v8 r) :=
 TL_hit ar8.inj (z1,[(⟨z3,z4,z5,z6,[]⟩ : Node),(⟨z8,z9,z10,z11,[]⟩ : Node)]) (by simp only [push_cast] <;> rfl)
@[push_cast] theorem t8_2 {N : Nat} (z1 : Int) (z3 : Int) (z4 : Int) (z5 : ByteArray) (z6 : Int) (z8 : Int) (z9 : Int) (z10 : ByteArray) (z11 : Int) : t8 N [.int .i64 z1,.sl false 5 [[.int .i64 z3,.int .i64 z4,.str z5,.int .i64 z6,.sl false 5 []],[.int .i64 z8,.int .i64 z9,.str z10,.int .i64 z11,.sl false 5 []]]] = bindO (F1214 N z1 ([(⟨z3,z4,z5,z6,[]⟩ : Node),(⟨z8,z9,z10,z11,[]⟩ : Node)])) fun r => some (v8 r) :=
 TL_hit ar8.inj (z1,[(⟨z3,z4,z5,z6,[]⟩ : Node),(⟨z8,z9,z10,z11,[]⟩ : Node)]) (by simp only [push_cast] <;> rfl)
@[push_cast] theorem t11_1 {N : Nat} (z1 : Int) (z2 : Int) (z3 : ByteArray) (z4 : Int) (z5 : List Node) : t11 N [.agg [.int .i64 z1,.int .i64 z2,.str z3,.int .i64 z4,.sl false 5 (List.map Node.cells z5)]] = bindO (F1216 N (⟨z1,z2,z3,z4,z5⟩ : Node)) fun r => some (v11 r) :=
 TL_hit ar11.inj (⟨z1,z2,z3,z4,z5⟩ : Node) (by simp only [push_cast] <;> rfl)
@[push_cast] theorem t10_1 {N : Nat} (z1 : Int) (z2 : Int) (z3 : ByteArray) (z4 : Int) (z5 : List Node) (z6 : Int) (z7 : Int) (z8 : ByteArray) (z9 : Int) (z10 : List Node) : t10 N [.agg [.int .i64 z1,.int .i64 z2,.str z3,.int .i64 z4,.sl false 5 (List.map Node.cells z5)],.agg [.int .i64 z6,.int .i64 z7,.str z8,.int .i64 z9,.sl false 5 (List.map Node.cells z10)]] = bindO (F21 N (⟨z1,z2,z3,z4,z5⟩ : Node) (⟨z6,z7,z8,z9,z10⟩ : Node)) fun r => some (v10 r) :=
 TL_hit ar10.inj ((⟨z1,z2,z3,z4,z5⟩ : Node),(⟨z6,z7,z8,z9,z10⟩ : Node)) (by simp only [push_cast] <;> rfl)
@[push_cast] def H12 : Nat → Hint
 | _ => ⟨[],[],[]⟩
def F1217 (N : Nat) (n : Node) : Option (ByteArray × Bool) := bindO (F1216 N n) fun r1 => iteO (n.op == 34) (iteO (r1 == 4) (iteO (r1 == 7) (bindO (F1236 n) fun r6 => some (r6.1.name,true)) (bindO (atO n.kids 1) fun x7 => bindO (F1237 N x7) fun r8 => some (r8.1.name,true))) (iteO (r1 == 5) (iteO (r1 == 7) (bindO (F1236 n) fun r3 => some (r3.1.name,true)) (bindO (atO n.kids 1) fun x4 => bindO (F1237 N x4) fun r5 => some (r5.1.name,true))) (iteO (r1 == 7) (bindO (F1236 n) fun r2 => some (r2.1.name,true)) (some ((⟨#[]⟩ : ByteArray),false))))) (some ((⟨#[]⟩ : ByteArray),false))
@[push_cast] def ar12 : Rs Node := rsO rNode
@[push_cast] def v12 (r : ByteArray × Bool) : AV := .tuple [.str r.1,.bool r.2]
@[push_cast] def sh12 : Shp := .tup [.leaf none,.leaf none]
noncomputable def t12 (N : Nat) : List AV → Option AV := TL ar12.e fun x => bindO (F1217 N x) fun r => some (v12 r)
@[push_cast] def H7 : Nat → Hint
 | 0 => ⟨[3,7,8,9],[3],[]⟩
 | 1 => ⟨[],[3,7,8,9],[]⟩
 | _ => ⟨[],[],[]⟩
def F27_s1 (self7 : Node → Option (Int)) (s3 : Int) (i1 : Nat) (x2 : Node) : Option (Sum (Int) (Int)) := bindO (self7 x2) fun r4 => some (.inl (IntKind.i64.wrap (s3 + r4)))
def F27_f1  (s3 : Int) : Option (Int) := some s3
def F27b (self7 : Node → Option (Int)) (N : Nat) (n : Node) : Option (Int) := foldN (S := Int) (F27_s1 self7) (F27_f1) N n.kids 0 1
def F27 : Nat → Node → Option (Int)
 | 0 => fun _ => none
 | N + 1 => fun n => F27b (F27 N) N n
@[push_cast] def ar7 : Rs Node := rsO rNode
@[push_cast] def v7 (r : Int) : AV := .int .i64 r
@[push_cast] def sh7 : Shp := .one (.leaf none)
noncomputable def t7 (N : Nat) : List AV → Option AV := TL ar7.e fun x => bindO (F27 N x) fun r => some (v7 r)
noncomputable def ts7 (self7 : Node → Option (Int)) : List AV → Option AV := TL ar7.e fun x => bindO (self7 x) fun r => some (v7 r)
@[push_cast] theorem t7_1 (self7 : Node → Option (Int)) (z1 : Int) (z2 : Int) (z3 : ByteArray) (z4 : Int) (z5 : List Node) : ts7 self7 [.agg [.int .i64 z1,.int .i64 z2,.str z3,.int .i64 z4,.sl false 5 (List.map Node.cells z5)]] = bindO (self7 (⟨z1,z2,z3,z4,z5⟩ : Node)) fun r => some (v7 r) :=
 TL_hit ar7.inj (⟨z1,z2,z3,z4,z5⟩ : Node) (by simp only [push_cast] <;> rfl)
@[push_cast] def H83 : Nat → Hint
 | 0 => ⟨[3,7,8,9],[3],[]⟩
 | 1 => ⟨[],[3,7,8,9],[]⟩
 | _ => ⟨[],[],[]⟩
def F39_s1 (self83 : Node → Option (Int)) (s3 : Int) (i1 : Nat) (x2 : Node) : Option (Sum (Int) (Int)) := bindO (self83 x2) fun r4 => some (.inl (max s3 r4))
def F39_f1  (s3 : Int) : Option (Int) := some (IntKind.i64.wrap (s3 + 1))
def F39b (self83 : Node → Option (Int)) (N : Nat) (n : Node) : Option (Int) := foldN (S := Int) (F39_s1 self83) (F39_f1) N n.kids 0 0
def F39 : Nat → Node → Option (Int)
 | 0 => fun _ => none
 | N + 1 => fun n => F39b (F39 N) N n
@[push_cast] def ar83 : Rs Node := rsO rNode
@[push_cast] def v83 (r : Int) : AV := .int .i64 r
@[push_cast] def sh83 : Shp := .one (.leaf none)
noncomputable def t83 (N : Nat) : List AV → Option AV := TL ar83.e fun x => bindO (F39 N x) fun r => some (v83 r)
noncomputable def ts83 (self83 : Node → Option (Int)) : List AV → Option AV := TL ar83.e fun x => bindO (self83 x) fun r => some (v83 r)
@[push_cast] theorem t83_1 (self83 : Node → Option (Int)) (z1 : Int) (z2 : Int) (z3 : ByteArray) (z4 : Int) (z5 : List Node) : ts83 self83 [.agg [.int .i64 z1,.int .i64 z2,.str z3,.int .i64 z4,.sl false 5 (List.map Node.cells z5)]] = bindO (self83 (⟨z1,z2,z3,z4,z5⟩ : Node)) fun r => some (v83 r) :=
 TL_hit ar83.inj (⟨z1,z2,z3,z4,z5⟩ : Node) (by simp only [push_cast] <;> rfl)
@[push_cast] def H139 : Nat → Hint
 | _ => ⟨[],[],[]⟩
def F75 (c : Int) : Option (Bool) := iteO (decide (c ≥ 97)) (iteO (decide (c ≤ 122)) (some true) (iteO (decide (c ≥ 65)) (some (decide (c ≤ 90))) (some false))) (iteO (decide (c ≥ 65)) (some (decide (c ≤ 90))) (some false))
@[push_cast] def ar139 : Rs Int := rsO (rI .u8)
@[push_cast] def v139 (r : Bool) : AV := .bool r
@[push_cast] def sh139 : Shp := .one (.leaf none)
noncomputable def t139 : List AV → Option AV := TL ar139.e fun x => bindO (F75 x) fun r => some (v139 r)
@[push_cast] def H161 : Nat → Hint
 | _ => ⟨[],[],[]⟩
def F121  : Option (List ByteArray) := some ([(⟨#[116,114,117,101]⟩ : ByteArray),(⟨#[102,97,108,115,101]⟩ : ByteArray),(⟨#[105,110]⟩ : ByteArray),(⟨#[115,117,98]⟩ : ByteArray),(⟨#[101,109,112,116,121]⟩ : ByteArray),(⟨#[115,105,110,103]⟩ : ByteArray),(⟨#[99,117,112]⟩ : ByteArray),(⟨#[99,97,112]⟩ : ByteArray),(⟨#[100,105,102,102]⟩ : ByteArray),(⟨#[115,101,108]⟩ : ByteArray),(⟨#[115,116,111]⟩ : ByteArray),(⟨#[118,108,101,110]⟩ : ByteArray),(⟨#[105,116,101]⟩ : ByteArray)])
@[push_cast] def ar161 : Rs Unit := rsN
@[push_cast] def v161 (r : List ByteArray) : AV := .sl false 1 (List.map cS r)
@[push_cast] def sh161 : Shp := .one (.leaf (some 1))
noncomputable def t161 : List AV → Option AV := TL ar161.e fun x => bindO (F121) fun r => some (v161 r)
@[push_cast] def H140 : Nat → Hint
 | 0 => ⟨[0,5,6,7],[],[]⟩
 | 1 => ⟨[],[0,5,6,7],[]⟩
 | _ => ⟨[],[],[]⟩
def F76_s1 (s : ByteArray) (s4 : Unit) (i2 : Nat) (x3 : ByteArray) : Option (Sum (Unit) (Bool)) := iteO (x3.toList == s.toList) (some (.inr true)) (some (.inl ()))
def F76_f1  (s4 : Unit) : Option (Bool) := some false
def F76 (N : Nat) (s : ByteArray) : Option (Bool) := bindO (F121) fun r1 => foldN (S := Unit) (F76_s1 s) (F76_f1) N r1 0 ()
@[push_cast] def ar140 : Rs ByteArray := rsO rS
@[push_cast] def v140 (r : Bool) : AV := .bool r
@[push_cast] def sh140 : Shp := .one (.leaf none)
noncomputable def t140 (N : Nat) : List AV → Option AV := TL ar140.e fun x => bindO (F76 N x) fun r => some (v140 r)
@[push_cast] theorem t161_1  : t161 [] = bindO (F121) fun r => some (v161 r) :=
 TL_hit ar161.inj () (by simp only [push_cast] <;> rfl)
@[push_cast] def H141 : Nat → Hint
 | _ => ⟨[],[],[]⟩
def F77 (c : Int) : Option (Bool) := iteO (decide (c ≥ 48)) (some (decide (c ≤ 57))) (some false)
@[push_cast] def ar141 : Rs Int := rsO (rI .u8)
@[push_cast] def v141 (r : Bool) : AV := .bool r
@[push_cast] def sh141 : Shp := .one (.leaf none)
noncomputable def t141 : List AV → Option AV := TL ar141.e fun x => bindO (F77 x) fun r => some (v141 r)
@[push_cast] def H104 : Nat → Hint
 | 0 => ⟨[0,3],[],[]⟩
 | 1 => ⟨[],[0,3],[]⟩
 | _ => ⟨[],[],[]⟩
def F17_s1 (s : ByteArray) (s3 : Int) : Option (Sum (Int) (Bool)) := iteO (decide (s3 < (s.size : Int))) (iteO (inB s3 s.size) (bindO (F75 (bt s s3)) fun r4 => iteO r4 (some (.inl (IntKind.i64.wrap (s3 + 1)))) (bindO (F77 (bt s s3)) fun r5 => iteO r5 (some (.inl (IntKind.i64.wrap (s3 + 1)))) (iteO ((bt s s3) == 46) (some (.inl (IntKind.i64.wrap (s3 + 1)))) (some (.inr false))))) (none)) (some (.inr true))
def F17 (N : Nat) (s : ByteArray) : Option (Bool) := iteO ((s.size : Int) == 0) (some false) (iteO (decide ((s.size : Int) > 24)) (some false) (iteO (inB 0 s.size) (bindO (F75 (bt s 0)) fun r1 => iteO r1 (bindO (F76 N s) fun r2 => iteO r2 (some false) (whileN (S := Int) (F17_s1 s) N 1)) (some false)) (none)))
@[push_cast] def ar104 : Rs ByteArray := rsO rS
@[push_cast] def v104 (r : Bool) : AV := .bool r
@[push_cast] def sh104 : Shp := .one (.leaf none)
noncomputable def t104 (N : Nat) : List AV → Option AV := TL ar104.e fun x => bindO (F17 N x) fun r => some (v104 r)
@[push_cast] theorem t139_1 (z1 : Int) : t139 [.int .u8 z1] = bindO (F75 z1) fun r => some (v139 r) :=
 TL_hit ar139.inj z1 (by simp only [push_cast] <;> rfl)
@[push_cast] theorem t140_1 {N : Nat} (z1 : ByteArray) : t140 N [.str z1] = bindO (F76 N z1) fun r => some (v140 r) :=
 TL_hit ar140.inj z1 (by simp only [push_cast] <;> rfl)
@[push_cast] theorem t141_1 (z1 : Int) : t141 [.int .u8 z1] = bindO (F77 z1) fun r => some (v141 r) :=
 TL_hit ar141.inj z1 (by simp only [push_cast] <;> rfl)
@[push_cast] def H127 : Nat → Hint
 | 0 => ⟨[],[1],[]⟩
 | _ => ⟨[],[],[]⟩
def F118 (N : Nat) (n : Node) : Option (Bool) := iteO (n.op == 1) (bindO (F17 N n.name) fun r2 => iteO r2 (iteO (decide (n.sortf < 1)) (some false) (iteO (decide (n.sortf > 5)) (some false) (iteO (n.op == 2) (iteO (decide (n.num ≥ (-1000000000000))) (some (decide (n.num ≤ 1000000000000))) (some false)) (iteO (n.op == 7) (iteO (decide (n.num ≥ (-1000000000000))) (some (decide (n.num ≤ 1000000000000))) (some false)) (iteO (n.op == 42) (iteO (decide (n.num ≥ 0)) (some (decide (n.num < 200))) (some false)) (some (n.num == 0))))))) (some false)) (iteO (n.op == 3) (bindO (F17 N n.name) fun r1 => iteO r1 (iteO (decide (n.sortf < 1)) (some false) (iteO (decide (n.sortf > 5)) (some false) (iteO (n.op == 2) (iteO (decide (n.num ≥ (-1000000000000))) (some (decide (n.num ≤ 1000000000000))) (some false)) (iteO (n.op == 7) (iteO (decide (n.num ≥ (-1000000000000))) (some (decide (n.num ≤ 1000000000000))) (some false)) (iteO (n.op == 42) (iteO (decide (n.num ≥ 0)) (some (decide (n.num < 200))) (some false)) (some (n.num == 0))))))) (some false)) (iteO (n.name.toList == (⟨#[]⟩ : ByteArray).toList) (iteO (n.sortf == 0) (iteO (n.op == 2) (iteO (decide (n.num ≥ (-1000000000000))) (some (decide (n.num ≤ 1000000000000))) (some false)) (iteO (n.op == 7) (iteO (decide (n.num ≥ (-1000000000000))) (some (decide (n.num ≤ 1000000000000))) (some false)) (iteO (n.op == 42) (iteO (decide (n.num ≥ 0)) (some (decide (n.num < 200))) (some false)) (some (n.num == 0))))) (some false)) (some false)))
@[push_cast] def ar127 : Rs Node := rsO rNode
@[push_cast] def v127 (r : Bool) : AV := .bool r
@[push_cast] def sh127 : Shp := .one (.leaf none)
noncomputable def t127 (N : Nat) : List AV → Option AV := TL ar127.e fun x => bindO (F118 N x) fun r => some (v127 r)
@[push_cast] theorem t104_1 {N : Nat} (z1 : ByteArray) : t104 N [.str z1] = bindO (F17 N z1) fun r => some (v104 r) :=
 TL_hit ar104.inj z1 (by simp only [push_cast] <;> rfl)
@[push_cast] def H86 : Nat → Hint
 | 0 => ⟨[],[1],[]⟩
 | _ => ⟨[],[],[]⟩
def F28b (self86 : Node → Option (Int)) (N : Nat) (n : Node) : Option (Int) := iteO (n.op == 1) (some n.sortf) (iteO (n.op == 3) (some n.sortf) (iteO (n.op == 2) (some 1) (iteO (n.op == 4) (some 1) (iteO (n.op == 5) (some 1) (iteO (n.op == 6) (some 1) (iteO (n.op == 7) (some 1) (iteO (n.op == 14) (some 1) (iteO (n.op == 16) (some 1) (iteO (n.op == 8) (iteO (decide ((n.kids.length : Int) < 2)) (some 0) (bindO (atO n.kids 1) fun x1 => bindO (self86 x1) fun r2 => some r2)) (iteO (n.op == 9) (some 4) (iteO (n.op == 10) (some 4) (iteO (n.op == 11) (some 4) (iteO (n.op == 12) (some 4) (iteO (n.op == 13) (some 4) (iteO (n.op == 15) (some 5) (iteO (decide (n.op ≥ 30)) (iteO (decide (n.op ≤ 42)) (some 2) (some 0)) (some 0)))))))))))))))))
def F28 : Nat → Node → Option (Int)
 | 0 => fun _ => none
 | N + 1 => fun n => F28b (F28 N) N n
@[push_cast] def ar86 : Rs Node := rsO rNode
@[push_cast] def v86 (r : Int) : AV := .int .i64 r
@[push_cast] def sh86 : Shp := .one (.leaf none)
noncomputable def t86 (N : Nat) : List AV → Option AV := TL ar86.e fun x => bindO (F28 N x) fun r => some (v86 r)
noncomputable def ts86 (self86 : Node → Option (Int)) : List AV → Option AV := TL ar86.e fun x => bindO (self86 x) fun r => some (v86 r)
@[push_cast] theorem t86_1 (self86 : Node → Option (Int)) (z1 : Int) (z2 : Int) (z3 : ByteArray) (z4 : Int) (z5 : List Node) : ts86 self86 [.agg [.int .i64 z1,.int .i64 z2,.str z3,.int .i64 z4,.sl false 5 (List.map Node.cells z5)]] = bindO (self86 (⟨z1,z2,z3,z4,z5⟩ : Node)) fun r => some (v86 r) :=
 TL_hit ar86.inj (⟨z1,z2,z3,z4,z5⟩ : Node) (by simp only [push_cast] <;> rfl)
@[push_cast] def H128 : Nat → Hint
 | _ => ⟨[],[],[]⟩
def F119 (s : Int) : Option (Bool) := iteO (s == 1) (some true) (iteO (s == 3) (some true) (iteO (s == 4) (some true) (some (s == 5))))
@[push_cast] def ar128 : Rs Int := rsO (rI .i64)
@[push_cast] def v128 (r : Bool) : AV := .bool r
@[push_cast] def sh128 : Shp := .one (.leaf none)
noncomputable def t128 : List AV → Option AV := TL ar128.e fun x => bindO (F119 x) fun r => some (v128 r)
@[push_cast] def H129 : Nat → Hint
 | _ => ⟨[],[],[]⟩
def F120 (op : Int) : Option ((List Int) × Bool) := iteO (op == 1) (some ([],true)) (iteO (op == 2) (some ([],true)) (iteO (op == 9) (some ([],true)) (iteO (op == 30) (some ([],true)) (iteO (op == 31) (some ([],true)) (iteO (op == 6) (some ([1],true)) (iteO (op == 7) (some ([1],true)) (iteO (op == 10) (some ([1],true)) (iteO (op == 4) (some ([1,1],true)) (iteO (op == 5) (some ([1,1],true)) (iteO (op == 38) (some ([1,1],true)) (iteO (op == 39) (some ([1,1],true)) (iteO (op == 11) (some ([4,4],true)) (iteO (op == 12) (some ([4,4],true)) (iteO (op == 13) (some ([4,4],true)) (iteO (op == 41) (some ([4,4],true)) (iteO (op == 40) (some ([1,4],true)) (iteO (op == 14) (some ([5,1],true)) (iteO (op == 15) (some ([5,1,1],true)) (iteO (op == 16) (some ([5],true)) (iteO (op == 32) (some ([2],true)) (iteO (op == 33) (some ([2,2],true)) (iteO (op == 34) (some ([2,2],true)) (iteO (op == 35) (some ([2,2],true)) (iteO (op == 36) (some ([2,2],true)) (some ([],false))))))))))))))))))))))))))
@[push_cast] def ar129 : Rs Int := rsO (rI .i64)
@[push_cast] def v129 (r : (List Int) × Bool) : AV := .tuple [.sl false 1 (List.map (cI .i64) r.1),.bool r.2]
@[push_cast] def sh129 : Shp := .tup [.leaf (some 1),.leaf none]
noncomputable def t129 : List AV → Option AV := TL ar129.e fun x => bindO (F120 x) fun r => some (v129 r)
@[push_cast] def H84 : Nat → Hint
 | 0 => ⟨[1,13,14,15],[1],[]⟩
 | 1 => ⟨[],[1,13,14,15],[]⟩
 | 2 => ⟨[],[1],[]⟩
 | 3 => ⟨[1,121,122,123],[],[]⟩
 | 4 => ⟨[],[1,121,122,123],[]⟩
 | _ => ⟨[],[],[]⟩
def F72_s1 (self84 : Node → Option (Bool)) (s4 : Unit) (i2 : Nat) (x3 : Node) : Option (Sum (Unit) (Bool)) := bindO (self84 x3) fun r5 => iteO r5 (some (.inl ())) (some (.inr false))
def F72_s2 (N : Nat) (n : Node) (s23 : Unit) (i21 : Nat) (x22 : Int) : Option (Sum (Unit) (Bool)) := bindO (atO n.kids (i21 : Int)) fun x24 => bindO (F28 N x24) fun r25 => iteO (r25 == x22) (some (.inl ())) (some (.inr false))
def F72_f2  (s23 : Unit) : Option (Bool) := some true
def F72_f1 (N : Nat) (n : Node) (s4 : Unit) : Option (Bool) := iteO (n.op == 3) (some (decide ((n.kids.length : Int) ≤ 8))) (iteO (n.op == 42) (iteO (decide ((n.kids.length : Int) ≥ 1)) (some (decide ((n.kids.length : Int) ≤ 40))) (some false)) (iteO (n.op == 37) (iteO ((n.kids.length : Int) == 2) (bindO (atO n.kids 0) fun x6 => bindO (F28 N x6) fun r7 => bindO (atO n.kids 1) fun x8 => bindO (F28 N x8) fun r9 => iteO (r7 == r9) (bindO (F28 N x6) fun r10 => bindO (F119 r10) fun r11 => some r11) (some false)) (some false)) (iteO (n.op == 8) (iteO ((n.kids.length : Int) == 3) (bindO (atO n.kids 0) fun x12 => bindO (F28 N x12) fun r13 => iteO (r13 == 2) (bindO (atO n.kids 1) fun x14 => bindO (F28 N x14) fun r15 => bindO (atO n.kids 2) fun x16 => bindO (F28 N x16) fun r17 => iteO (r15 == r17) (bindO (F28 N x14) fun r18 => bindO (F119 r18) fun r19 => some r19) (some false)) (some false)) (some false)) (bindO (F120 n.op) fun r20 => iteO r20.2 (iteO ((r20.1.length : Int) == (n.kids.length : Int)) (foldN (S := Unit) (F72_s2 N n) (F72_f2) N r20.1 0 ()) (some false)) (some false)))))
def F72b (self84 : Node → Option (Bool)) (N : Nat) (n : Node) : Option (Bool) := bindO (F118 N n) fun r1 => iteO r1 (foldN (S := Unit) (F72_s1 self84) (F72_f1 N n) N n.kids 0 ()) (some false)
def F72 : Nat → Node → Option (Bool)
 | 0 => fun _ => none
 | N + 1 => fun n => F72b (F72 N) N n
@[push_cast] def ar84 : Rs Node := rsO rNode
@[push_cast] def v84 (r : Bool) : AV := .bool r
@[push_cast] def sh84 : Shp := .one (.leaf none)
noncomputable def t84 (N : Nat) : List AV → Option AV := TL ar84.e fun x => bindO (F72 N x) fun r => some (v84 r)
noncomputable def ts84 (self84 : Node → Option (Bool)) : List AV → Option AV := TL ar84.e fun x => bindO (self84 x) fun r => some (v84 r)
@[push_cast] theorem t127_1 {N : Nat} (z1 : Int) (z2 : Int) (z3 : ByteArray) (z4 : Int) (z5 : List Node) : t127 N [.agg [.int .i64 z1,.int .i64 z2,.str z3,.int .i64 z4,.sl false 5 (List.map Node.cells z5)]] = bindO (F118 N (⟨z1,z2,z3,z4,z5⟩ : Node)) fun r => some (v127 r) :=
 TL_hit ar127.inj (⟨z1,z2,z3,z4,z5⟩ : Node) (by simp only [push_cast] <;> rfl)
@[push_cast] theorem t84_1 (self84 : Node → Option (Bool)) (z1 : Int) (z2 : Int) (z3 : ByteArray) (z4 : Int) (z5 : List Node) : ts84 self84 [.agg [.int .i64 z1,.int .i64 z2,.str z3,.int .i64 z4,.sl false 5 (List.map Node.cells z5)]] = bindO (self84 (⟨z1,z2,z3,z4,z5⟩ : Node)) fun r => some (v84 r) :=
 TL_hit ar84.inj (⟨z1,z2,z3,z4,z5⟩ : Node) (by simp only [push_cast] <;> rfl)
@[push_cast] theorem t86_2 {N : Nat} (z1 : Int) (z2 : Int) (z3 : ByteArray) (z4 : Int) (z5 : List Node) : t86 N [.agg [.int .i64 z1,.int .i64 z2,.str z3,.int .i64 z4,.sl false 5 (List.map Node.cells z5)]] = bindO (F28 N (⟨z1,z2,z3,z4,z5⟩ : Node)) fun r => some (v86 r) :=
 TL_hit ar86.inj (⟨z1,z2,z3,z4,z5⟩ : Node) (by simp only [push_cast] <;> rfl)
@[push_cast] theorem t128_1 (z1 : Int) : t128 [.int .i64 z1] = bindO (F119 z1) fun r => some (v128 r) :=
 TL_hit ar128.inj z1 (by simp only [push_cast] <;> rfl)
@[push_cast] theorem t129_1 (z1 : Int) : t129 [.int .i64 z1] = bindO (F120 z1) fun r => some (v129 r) :=
 TL_hit ar129.inj z1 (by simp only [push_cast] <;> rfl)
@[push_cast] def H170 : Nat → Hint
 | _ => ⟨[],[],[]⟩
def F168 (a : Decl) (b : Decl) : Option (Bool) := iteO (Op.bytesLess a.declName.toList b.declName.toList) (some true) (iteO (a.declName.toList == b.declName.toList) (some (decide (a.declSort < b.declSort))) (some false))
@[push_cast] def ar170 : Rs (Decl × Decl) := rsC rDecl (rsO rDecl)
@[push_cast] def v170 (r : Bool) : AV := .bool r
@[push_cast] def sh170 : Shp := .one (.leaf none)
noncomputable def t170 : List AV → Option AV := TL ar170.e fun x => bindO (F168 x.1 x.2) fun r => some (v170 r)
@[push_cast] def H165 : Nat → Hint
 | 0 => ⟨[3,5,6,9,10,11],[3,5,6],[]⟩
 | 1 => ⟨[],[3,5,6,9,10,11],[]⟩
 | _ => ⟨[],[],[]⟩
def F140_s1 (d : Decl) (s3 : (List Decl) × Bool) (i1 : Nat) (x2 : Decl) : Option (Sum ((List Decl) × Bool) (List Decl)) := iteO ((x2.declName.toList == d.declName.toList) && (x2.declSort == d.declSort)) (iteO (fits (s3.1.length + 1) 24) (some (.inl (s3.1 ++ ([x2]),true))) (none)) (iteO s3.2 (iteO (fits (s3.1.length + 1) 24) (some (.inl (s3.1 ++ ([x2]),s3.2))) (none)) (bindO (F168 d x2) fun r4 => iteO r4 (iteO (fits (s3.1.length + 1) 24) (iteO (fits (s3.1.length + 1 + 1) 24) (some (.inl ((s3.1 ++ ([d])) ++ ([x2]),true))) (none)) (none)) (iteO (fits (s3.1.length + 1) 24) (some (.inl (s3.1 ++ ([x2]),s3.2))) (none))))
def F140_f1 (d : Decl) (s3 : (List Decl) × Bool) : Option (List Decl) := iteO s3.2 (some s3.1) (iteO (fits (s3.1.length + 1) 24) (some (s3.1 ++ ([d]))) (none))
def F140 (N : Nat) (l : List Decl) (d : Decl) : Option (List Decl) := foldN (S := (List Decl) × Bool) (F140_s1 d) (F140_f1 d) N l 0 ([],false)
@[push_cast] def ar165 : Rs ((List Decl) × Decl) := rsC (rL 2 Decl.cells Decl.cells_inj) (rsO rDecl)
@[push_cast] def v165 (r : List Decl) : AV := .sl false 2 (List.map Decl.cells r)
@[push_cast] def sh165 : Shp := .one (.leaf (some 2))
noncomputable def t165 (N : Nat) : List AV → Option AV := TL ar165.e fun x => bindO (F140 N x.1 x.2) fun r => some (v165 r)
@[push_cast] theorem t170_1 (z1 : ByteArray) (z2 : Int) (z3 : ByteArray) (z4 : Int) : t170 [.agg [.str z1,.int .i64 z2],.agg [.str z3,.int .i64 z4]] = bindO (F168 (⟨z1,z2⟩ : Decl) (⟨z3,z4⟩ : Decl)) fun r => some (v170 r) :=
 TL_hit ar170.inj ((⟨z1,z2⟩ : Decl),(⟨z3,z4⟩ : Decl)) (by simp only [push_cast] <;> rfl)
@[push_cast] def H150 : Nat → Hint
 | 0 => ⟨[0,18,19,20],[0],[]⟩
 | 1 => ⟨[],[0,18,19,20],[]⟩
 | _ => ⟨[],[],[]⟩
def F95_s1 (self150 : (List Decl) → Node → Option (List Decl)) (s4 : List Decl) (i2 : Nat) (x3 : Node) : Option (Sum (List Decl) (List Decl)) := bindO (self150 s4 x3) fun r5 => some (.inl r5)
def F95_f1  (s4 : List Decl) : Option (List Decl) := some s4
def F95_s2 (self150 : (List Decl) → Node → Option (List Decl)) (s8 : List Decl) (i6 : Nat) (x7 : Node) : Option (Sum (List Decl) (List Decl)) := bindO (self150 s8 x7) fun r9 => some (.inl r9)
def F95_f2  (s8 : List Decl) : Option (List Decl) := some s8
def F95b (self150 : (List Decl) → Node → Option (List Decl)) (N : Nat) (l : List Decl) (n : Node) : Option (List Decl) := iteO (n.op == 1) (bindO (F140 N l (⟨n.name,n.sortf⟩ : Decl)) fun r1 => foldN (S := List Decl) (F95_s1 self150) (F95_f1) N n.kids 0 r1) (foldN (S := List Decl) (F95_s2 self150) (F95_f2) N n.kids 0 l)
def F95 : Nat → (List Decl) → Node → Option (List Decl)
 | 0 => fun _ _ => none
 | N + 1 => fun l n => F95b (F95 N) N l n
@[push_cast] def ar150 : Rs ((List Decl) × Node) := rsC (rL 2 Decl.cells Decl.cells_inj) (rsO rNode)
@[push_cast] def v150 (r : List Decl) : AV := .sl false 2 (List.map Decl.cells r)
@[push_cast] def sh150 : Shp := .one (.leaf (some 2))
noncomputable def t150 (N : Nat) : List AV → Option AV := TL ar150.e fun x => bindO (F95 N x.1 x.2) fun r => some (v150 r)
noncomputable def ts150 (self150 : (List Decl) → Node → Option (List Decl)) : List AV → Option AV := TL ar150.e fun x => bindO (self150 x.1 x.2) fun r => some (v150 r)
@[push_cast] theorem t165_1 {N : Nat} (z1 : List Decl) (z2 : ByteArray) (z3 : Int) : t165 N [.sl false 2 (List.map Decl.cells z1),.agg [.str z2,.int .i64 z3]] = bindO (F140 N z1 (⟨z2,z3⟩ : Decl)) fun r => some (v165 r) :=
 TL_hit ar165.inj (z1,(⟨z2,z3⟩ : Decl)) (by simp only [push_cast] <;> rfl)
@[push_cast] theorem t150_1 (self150 : (List Decl) → Node → Option (List Decl)) (z1 : List Decl) (z2 : Int) (z3 : Int) (z4 : ByteArray) (z5 : Int) (z6 : List Node) : ts150 self150 [.sl false 2 (List.map Decl.cells z1),.agg [.int .i64 z2,.int .i64 z3,.str z4,.int .i64 z5,.sl false 5 (List.map Node.cells z6)]] = bindO (self150 z1 (⟨z2,z3,z4,z5,z6⟩ : Node)) fun r => some (v150 r) :=
 TL_hit ar150.inj (z1,(⟨z2,z3,z4,z5,z6⟩ : Node)) (by simp only [push_cast] <;> rfl)
@[push_cast] def H130 : Nat → Hint
 | _ => ⟨[],[],[]⟩
def F47 (N : Nat) (n : Node) : Option (List Decl) := bindO (F95 N ([]) n) fun r1 => some r1
@[push_cast] def ar130 : Rs Node := rsO rNode
@[push_cast] def v130 (r : List Decl) : AV := .sl false 2 (List.map Decl.cells r)
@[push_cast] def sh130 : Shp := .one (.leaf (some 2))
noncomputable def t130 (N : Nat) : List AV → Option AV := TL ar130.e fun x => bindO (F47 N x) fun r => some (v130 r)
@[push_cast] theorem t150_2 {N : Nat} (z2 : Int) (z3 : Int) (z4 : ByteArray) (z5 : Int) (z6 : List Node) : t150 N [.sl true 0 [],.agg [.int .i64 z2,.int .i64 z3,.str z4,.int .i64 z5,.sl false 5 (List.map Node.cells z6)]] = bindO (F95 N ([]) (⟨z2,z3,z4,z5,z6⟩ : Node)) fun r => some (v150 r) :=
 TL_hit ar150.inj ([],(⟨z2,z3,z4,z5,z6⟩ : Node)) (by simp only [push_cast] <;> rfl)
@[push_cast] theorem t150_3 {N : Nat} (z2 : Int) (z3 : Int) (z4 : ByteArray) (z5 : Int) (z6 : List Node) : t150 N [.sl false 0 [],.agg [.int .i64 z2,.int .i64 z3,.str z4,.int .i64 z5,.sl false 5 (List.map Node.cells z6)]] = bindO (F95 N ([]) (⟨z2,z3,z4,z5,z6⟩ : Node)) fun r => some (v150 r) :=
 TL_hit ar150.inj ([],(⟨z2,z3,z4,z5,z6⟩ : Node)) (by simp only [push_cast] <;> rfl)
@[push_cast] def H131 : Nat → Hint
 | 0 => ⟨[1,23,24,25],[],[]⟩
 | 1 => ⟨[],[1,23,24,25],[]⟩
 | _ => ⟨[],[],[]⟩
def F92_s1 (self131 : Node → ByteArray → Option (Bool)) (name : ByteArray) (s3 : Unit) (i1 : Nat) (x2 : Node) : Option (Sum (Unit) (Bool)) := bindO (self131 x2 name) fun r4 => iteO r4 (some (.inr true)) (some (.inl ()))
def F92_f1  (s3 : Unit) : Option (Bool) := some false
def F92_s2 (self131 : Node → ByteArray → Option (Bool)) (name : ByteArray) (s7 : Unit) (i5 : Nat) (x6 : Node) : Option (Sum (Unit) (Bool)) := bindO (self131 x6 name) fun r8 => iteO r8 (some (.inr true)) (some (.inl ()))
def F92_f2  (s7 : Unit) : Option (Bool) := some false
def F92_s3 (self131 : Node → ByteArray → Option (Bool)) (name : ByteArray) (s11 : Unit) (i9 : Nat) (x10 : Node) : Option (Sum (Unit) (Bool)) := bindO (self131 x10 name) fun r12 => iteO r12 (some (.inr true)) (some (.inl ()))
def F92_f3  (s11 : Unit) : Option (Bool) := some false
def F92b (self131 : Node → ByteArray → Option (Bool)) (N : Nat) (n : Node) (name : ByteArray) : Option (Bool) := iteO (n.op == 3) (iteO (n.name.toList == name.toList) (iteO ((n.kids.length : Int) == 0) (some true) (foldN (S := Unit) (F92_s1 self131 name) (F92_f1) N n.kids 0 ())) (foldN (S := Unit) (F92_s2 self131 name) (F92_f2) N n.kids 0 ())) (foldN (S := Unit) (F92_s3 self131 name) (F92_f3) N n.kids 0 ())
def F92 : Nat → Node → ByteArray → Option (Bool)
 | 0 => fun _ _ => none
 | N + 1 => fun n name => F92b (F92 N) N n name
@[push_cast] def ar131 : Rs (Node × ByteArray) := rsC rNode (rsO rS)
@[push_cast] def v131 (r : Bool) : AV := .bool r
@[push_cast] def sh131 : Shp := .one (.leaf none)
noncomputable def t131 (N : Nat) : List AV → Option AV := TL ar131.e fun x => bindO (F92 N x.1 x.2) fun r => some (v131 r)
noncomputable def ts131 (self131 : Node → ByteArray → Option (Bool)) : List AV → Option AV := TL ar131.e fun x => bindO (self131 x.1 x.2) fun r => some (v131 r)
@[push_cast] theorem t131_1 (self131 : Node → ByteArray → Option (Bool)) (z1 : Int) (z2 : Int) (z3 : ByteArray) (z4 : Int) (z5 : List Node) (z6 : ByteArray) : ts131 self131 [.agg [.int .i64 z1,.int .i64 z2,.str z3,.int .i64 z4,.sl false 5 (List.map Node.cells z5)],.str z6] = bindO (self131 (⟨z1,z2,z3,z4,z5⟩ : Node) z6) fun r => some (v131 r) :=
 TL_hit ar131.inj ((⟨z1,z2,z3,z4,z5⟩ : Node),z6) (by simp only [push_cast] <;> rfl)
@[push_cast] def H85 : Nat → Hint
 | 0 => ⟨[1,3,4],[1,3],[]⟩
 | 1 => ⟨[],[1,3,4],[]⟩
 | 2 => ⟨[1,27,28,29],[],[]⟩
 | 3 => ⟨[],[1,27,28,29],[]⟩
 | _ => ⟨[],[],[]⟩
def F41_s2 (N : Nat) (n : Node) (s7 : Unit) (i5 : Nat) (x6 : Decl) : Option (Sum (Unit) (Bool)) := bindO (F92 N n x6.declName) fun r8 => iteO r8 (some (.inr false)) (some (.inl ()))
def F41_f2  (s7 : Unit) : Option (Bool) := some true
def F41_s1 (N : Nat) (n : Node) (r1 : List Decl) (s2 : Int) : Option (Sum (Int) (Bool)) := iteO (decide (s2 < (r1.length : Int))) (bindO (atO r1 (IntKind.i64.wrap (s2 - 1))) fun x3 => bindO (atO r1 s2) fun x4 => iteO (x3.declName.toList == x4.declName.toList) (some (.inr false)) (some (.inl (IntKind.i64.wrap (s2 + 1))))) (bindO (foldN (S := Unit) (F41_s2 N n) (F41_f2) N r1 0 ()) fun yy => some (.inr yy))
def F41 (N : Nat) (n : Node) : Option (Bool) := bindO (F47 N n) fun r1 => whileN (S := Int) (F41_s1 N n r1) N 1
@[push_cast] def ar85 : Rs Node := rsO rNode
@[push_cast] def v85 (r : Bool) : AV := .bool r
@[push_cast] def sh85 : Shp := .one (.leaf none)
noncomputable def t85 (N : Nat) : List AV → Option AV := TL ar85.e fun x => bindO (F41 N x) fun r => some (v85 r)
@[push_cast] theorem t130_1 {N : Nat} (z1 : Int) (z2 : Int) (z3 : ByteArray) (z4 : Int) (z5 : List Node) : t130 N [.agg [.int .i64 z1,.int .i64 z2,.str z3,.int .i64 z4,.sl false 5 (List.map Node.cells z5)]] = bindO (F47 N (⟨z1,z2,z3,z4,z5⟩ : Node)) fun r => some (v130 r) :=
 TL_hit ar130.inj (⟨z1,z2,z3,z4,z5⟩ : Node) (by simp only [push_cast] <;> rfl)
@[push_cast] theorem t131_2 {N : Nat} (z1 : Int) (z2 : Int) (z3 : ByteArray) (z4 : Int) (z5 : List Node) (z6 : ByteArray) : t131 N [.agg [.int .i64 z1,.int .i64 z2,.str z3,.int .i64 z4,.sl false 5 (List.map Node.cells z5)],.str z6] = bindO (F92 N (⟨z1,z2,z3,z4,z5⟩ : Node) z6) fun r => some (v131 r) :=
 TL_hit ar131.inj ((⟨z1,z2,z3,z4,z5⟩ : Node),z6) (by simp only [push_cast] <;> rfl)
@[push_cast] def H27 : Nat → Hint
 | _ => ⟨[],[],[]⟩
def F15 (N : Nat) (n : Node) (sortq : Int) : Option (Int) := iteO (decide (sortq < 0)) (some 1) (iteO (decide (sortq > 5)) (some 1) (bindO (F27 N n) fun r1 => iteO (decide (r1 > 4000)) (some 2) (bindO (F39 N n) fun r2 => iteO (decide (r2 > 100)) (some 2) (bindO (F72 N n) fun r3 => iteO r3 (bindO (F41 N n) fun r4 => iteO r4 (iteO (sortq == 0) (some 0) (bindO (F28 N n) fun r5 => iteO (r5 == sortq) (some 0) (some 10))) (some 3)) (some 3)))))
@[push_cast] def ar27 : Rs (Node × Int) := rsC rNode (rsO (rI .i64))
@[push_cast] def v27 (r : Int) : AV := .int .i64 r
@[push_cast] def sh27 : Shp := .one (.leaf none)
noncomputable def t27 (N : Nat) : List AV → Option AV := TL ar27.e fun x => bindO (F15 N x.1 x.2) fun r => some (v27 r)
@[push_cast] theorem t7_2 {N : Nat} (z1 : Int) (z2 : Int) (z3 : ByteArray) (z4 : Int) (z5 : List Node) : t7 N [.agg [.int .i64 z1,.int .i64 z2,.str z3,.int .i64 z4,.sl false 5 (List.map Node.cells z5)]] = bindO (F27 N (⟨z1,z2,z3,z4,z5⟩ : Node)) fun r => some (v7 r) :=
 TL_hit ar7.inj (⟨z1,z2,z3,z4,z5⟩ : Node) (by simp only [push_cast] <;> rfl)
@[push_cast] theorem t83_2 {N : Nat} (z1 : Int) (z2 : Int) (z3 : ByteArray) (z4 : Int) (z5 : List Node) : t83 N [.agg [.int .i64 z1,.int .i64 z2,.str z3,.int .i64 z4,.sl false 5 (List.map Node.cells z5)]] = bindO (F39 N (⟨z1,z2,z3,z4,z5⟩ : Node)) fun r => some (v83 r) :=
 TL_hit ar83.inj (⟨z1,z2,z3,z4,z5⟩ : Node) (by simp only [push_cast] <;> rfl)
@[push_cast] theorem t84_2 {N : Nat} (z1 : Int) (z2 : Int) (z3 : ByteArray) (z4 : Int) (z5 : List Node) : t84 N [.agg [.int .i64 z1,.int .i64 z2,.str z3,.int .i64 z4,.sl false 5 (List.map Node.cells z5)]] = bindO (F72 N (⟨z1,z2,z3,z4,z5⟩ : Node)) fun r => some (v84 r) :=
 TL_hit ar84.inj (⟨z1,z2,z3,z4,z5⟩ : Node) (by simp only [push_cast] <;> rfl)
@[push_cast] theorem t85_1 {N : Nat} (z1 : Int) (z2 : Int) (z3 : ByteArray) (z4 : Int) (z5 : List Node) : t85 N [.agg [.int .i64 z1,.int .i64 z2,.str z3,.int .i64 z4,.sl false 5 (List.map Node.cells z5)]] = bindO (F41 N (⟨z1,z2,z3,z4,z5⟩ : Node)) fun r => some (v85 r) :=
 TL_hit ar85.inj (⟨z1,z2,z3,z4,z5⟩ : Node) (by simp only [push_cast] <;> rfl)
@[push_cast] def H26 : Nat → Hint
 | 0 => ⟨[9,10,11],[],[]⟩
 | 1 => ⟨[],[9,10,11],[]⟩
 | _ => ⟨[],[],[]⟩
def F43_s1 (self26 : Node → Option (Bool)) (s3 : Unit) (i1 : Nat) (x2 : Node) : Option (Sum (Unit) (Bool)) := bindO (self26 x2) fun r4 => iteO r4 (some (.inr true)) (some (.inl ()))
def F43_f1  (s3 : Unit) : Option (Bool) := some false
def F43b (self26 : Node → Option (Bool)) (N : Nat) (n : Node) : Option (Bool) := iteO (n.op == 42) (some true) (foldN (S := Unit) (F43_s1 self26) (F43_f1) N n.kids 0 ())
def F43 : Nat → Node → Option (Bool)
 | 0 => fun _ => none
 | N + 1 => fun n => F43b (F43 N) N n
@[push_cast] def ar26 : Rs Node := rsO rNode
@[push_cast] def v26 (r : Bool) : AV := .bool r
@[push_cast] def sh26 : Shp := .one (.leaf none)
noncomputable def t26 (N : Nat) : List AV → Option AV := TL ar26.e fun x => bindO (F43 N x) fun r => some (v26 r)
noncomputable def ts26 (self26 : Node → Option (Bool)) : List AV → Option AV := TL ar26.e fun x => bindO (self26 x) fun r => some (v26 r)
@[push_cast] theorem t26_1 (self26 : Node → Option (Bool)) (z1 : Int) (z2 : Int) (z3 : ByteArray) (z4 : Int) (z5 : List Node) : ts26 self26 [.agg [.int .i64 z1,.int .i64 z2,.str z3,.int .i64 z4,.sl false 5 (List.map Node.cells z5)]] = bindO (self26 (⟨z1,z2,z3,z4,z5⟩ : Node)) fun r => some (v26 r) :=
 TL_hit ar26.inj (⟨z1,z2,z3,z4,z5⟩ : Node) (by simp only [push_cast] <;> rfl)
@[push_cast] def H142 : Nat → Hint
 | _ => ⟨[],[],[]⟩
def F181 (n : Int) : Option (Bool) := iteO (decide (n ≥ (-1152921504606846976))) (some (decide (n ≤ 1152921504606846976))) (some false)
@[push_cast] def ar142 : Rs Int := rsO (rI .i64)
@[push_cast] def v142 (r : Bool) : AV := .bool r
@[push_cast] def sh142 : Shp := .one (.leaf none)
noncomputable def t142 : List AV → Option AV := TL ar142.e fun x => bindO (F181 x) fun r => some (v142 r)
@[push_cast] def H143 : Nat → Hint
 | 0 => ⟨[0,5,6,7],[0],[]⟩
 | 1 => ⟨[],[0,5,6,7],[]⟩
 | _ => ⟨[],[],[]⟩
def F182_s1 (l : List Int) (s3 : Unit) (i1 : Nat) (x2 : Int) : Option (Sum (Unit) (Bool)) := bindO (F181 x2) fun r4 => iteO r4 (iteO (decide ((i1 : Int) > 0)) (bindO (atO l (IntKind.i64.wrap ((i1 : Int) - 1))) fun x5 => iteO (decide (x5 ≥ x2)) (some (.inr false)) (some (.inl ()))) (some (.inl ()))) (some (.inr false))
def F182_f1 (l : List Int) (s3 : Unit) : Option (Bool) := some (decide ((l.length : Int) ≤ 200))
def F182 (N : Nat) (l : List Int) : Option (Bool) := foldN (S := Unit) (F182_s1 l) (F182_f1 l) N l 0 ()
@[push_cast] def ar143 : Rs (List Int) := rsO (rL 1 (cI .i64) (cI_inj .i64))
@[push_cast] def v143 (r : Bool) : AV := .bool r
@[push_cast] def sh143 : Shp := .one (.leaf none)
noncomputable def t143 (N : Nat) : List AV → Option AV := TL ar143.e fun x => bindO (F182 N x) fun r => some (v143 r)
@[push_cast] theorem t142_1 (z1 : Int) : t142 [.int .i64 z1] = bindO (F181 z1) fun r => some (v142 r) :=
 TL_hit ar142.inj z1 (by simp only [push_cast] <;> rfl)
@[push_cast] def H105 : Nat → Hint
 | 0 => ⟨[1,41,42,43],[1],[]⟩
 | 1 => ⟨[],[1,41,42,43],[]⟩
 | 2 => ⟨[],[1],[]⟩
 | _ => ⟨[],[],[]⟩
def F171_s1  (s6 : Unit) (i4 : Nat) (x5 : Int) : Option (Sum (Unit) (Bool)) := iteO (x5 == 0) (some (.inr false)) (bindO (F181 x5) fun r7 => iteO r7 (some (.inl ())) (some (.inr false)))
def F171_f1 (v : Val) (s6 : Unit) : Option (Bool) := iteO (v.valSort == 2) (iteO (v.valNum == 0) (iteO ((v.valSet.length : Int) == 0) (some ((v.valAt.length : Int) == 0)) (some false)) (iteO (v.valNum == 1) (iteO ((v.valSet.length : Int) == 0) (some ((v.valAt.length : Int) == 0)) (some false)) (some false))) (iteO (v.valSort == 5) (iteO (decide (v.valNum ≥ 0)) (some ((v.valSet.length : Int) == 0)) (some false)) (iteO (v.valSort == 4) (iteO (v.valNum == 0) (some ((v.valAt.length : Int) == 0)) (some false)) (iteO ((v.valSet.length : Int) == 0) (some ((v.valAt.length : Int) == 0)) (some false))))
def F171 (N : Nat) (v : Val) : Option (Bool) := iteO (decide (v.valSort < 1)) (some false) (iteO (decide (v.valSort > 5)) (some false) (bindO (F181 v.valNum) fun r1 => iteO r1 (bindO (F182 N v.valSet) fun r2 => iteO r2 (bindO (F182 N v.valAt) fun r3 => iteO r3 (iteO ((v.valTo.length : Int) == (v.valAt.length : Int)) (foldN (S := Unit) (F171_s1) (F171_f1 v) N v.valTo 0 ()) (some false)) (some false)) (some false)) (some false)))
@[push_cast] def ar105 : Rs Val := rsO rVal
@[push_cast] def v105 (r : Bool) : AV := .bool r
@[push_cast] def sh105 : Shp := .one (.leaf none)
noncomputable def t105 (N : Nat) : List AV → Option AV := TL ar105.e fun x => bindO (F171 N x) fun r => some (v105 r)
@[push_cast] theorem t143_1 {N : Nat} (z1 : List Int) : t143 N [.sl false 1 (List.map (cI .i64) z1)] = bindO (F182 N z1) fun r => some (v143 r) :=
 TL_hit ar143.inj z1 (by simp only [push_cast] <;> rfl)
@[push_cast] def H48 : Nat → Hint
 | 0 => ⟨[22,23,24],[],[]⟩
 | 1 => ⟨[],[22,23,24],[]⟩
 | _ => ⟨[],[],[]⟩
def F157_s1 (N : Nat) (s5 : Unit) (i3 : Nat) (x4 : Val) : Option (Sum (Unit) (Bool)) := bindO (F171 N x4) fun r6 => iteO r6 (some (.inl ())) (some (.inr false))
def F157_f1  (s5 : Unit) : Option (Bool) := some true
def F157 (N : Nat) (e : Entry) : Option (Bool) := bindO (F17 N e.entryName) fun r1 => iteO r1 (iteO (decide ((e.entryArgs.length : Int) > 8)) (some false) (bindO (F171 N e.entryVal) fun r2 => iteO r2 (foldN (S := Unit) (F157_s1 N) (F157_f1) N e.entryArgs 0 ()) (some false))) (some false)
@[push_cast] def ar48 : Rs Entry := rsO rEntry
@[push_cast] def v48 (r : Bool) : AV := .bool r
@[push_cast] def sh48 : Shp := .one (.leaf none)
noncomputable def t48 (N : Nat) : List AV → Option AV := TL ar48.e fun x => bindO (F157 N x) fun r => some (v48 r)
@[push_cast] theorem t105_1 {N : Nat} (z1 : Int) (z2 : Int) (z3 : List Int) (z4 : List Int) (z5 : List Int) : t105 N [.agg [.int .i64 z1,.int .i64 z2,.sl false 1 (List.map (cI .i64) z3),.sl false 1 (List.map (cI .i64) z4),.sl false 1 (List.map (cI .i64) z5)]] = bindO (F171 N (⟨z1,z2,z3,z4,z5⟩ : Val)) fun r => some (v105 r) :=
 TL_hit ar105.inj (⟨z1,z2,z3,z4,z5⟩ : Val) (by simp only [push_cast] <;> rfl)
@[push_cast] def H162 : Nat → Hint
 | 0 => ⟨[0,1,12,13],[],[]⟩
 | 1 => ⟨[],[0,1,12,13],[]⟩
 | _ => ⟨[],[],[]⟩
def F189_s1 (b : List Int) (s3 : Unit) (i1 : Nat) (x2 : Int) : Option (Sum (Unit) (Bool)) := bindO (atO b (i1 : Int)) fun x4 => iteO (x2 == x4) (some (.inl ())) (some (.inr false))
def F189_f1  (s3 : Unit) : Option (Bool) := some true
def F189 (N : Nat) (a : List Int) (b : List Int) : Option (Bool) := iteO ((a.length : Int) == (b.length : Int)) (foldN (S := Unit) (F189_s1 b) (F189_f1) N a 0 ()) (some false)
@[push_cast] def ar162 : Rs ((List Int) × (List Int)) := rsC (rL 1 (cI .i64) (cI_inj .i64)) (rsO (rL 1 (cI .i64) (cI_inj .i64)))
@[push_cast] def v162 (r : Bool) : AV := .bool r
@[push_cast] def sh162 : Shp := .one (.leaf none)
noncomputable def t162 (N : Nat) : List AV → Option AV := TL ar162.e fun x => bindO (F189 N x.1 x.2) fun r => some (v162 r)
@[push_cast] def H144 : Nat → Hint
 | _ => ⟨[],[],[]⟩
def F183 (N : Nat) (a : Val) (b : Val) : Option (Bool) := iteO (a.valSort == b.valSort) (iteO (a.valNum == b.valNum) (bindO (F189 N a.valSet b.valSet) fun r1 => iteO r1 (bindO (F189 N a.valAt b.valAt) fun r2 => iteO r2 (bindO (F189 N a.valTo b.valTo) fun r3 => some r3) (some false)) (some false)) (some false)) (some false)
@[push_cast] def ar144 : Rs (Val × Val) := rsC rVal (rsO rVal)
@[push_cast] def v144 (r : Bool) : AV := .bool r
@[push_cast] def sh144 : Shp := .one (.leaf none)
noncomputable def t144 (N : Nat) : List AV → Option AV := TL ar144.e fun x => bindO (F183 N x.1 x.2) fun r => some (v144 r)
@[push_cast] theorem t162_1 {N : Nat} (z1 : List Int) (z2 : List Int) : t162 N [.sl false 1 (List.map (cI .i64) z1),.sl false 1 (List.map (cI .i64) z2)] = bindO (F189 N z1 z2) fun r => some (v162 r) :=
 TL_hit ar162.inj (z1,z2) (by simp only [push_cast] <;> rfl)
@[push_cast] def H106 : Nat → Hint
 | 0 => ⟨[0,1,12,13],[],[]⟩
 | 1 => ⟨[],[0,1,12,13],[]⟩
 | _ => ⟨[],[],[]⟩
def F172_s1 (N : Nat) (b : List Val) (s3 : Unit) (i1 : Nat) (x2 : Val) : Option (Sum (Unit) (Bool)) := bindO (atO b (i1 : Int)) fun x4 => bindO (F183 N x2 x4) fun r5 => iteO r5 (some (.inl ())) (some (.inr false))
def F172_f1  (s3 : Unit) : Option (Bool) := some true
def F172 (N : Nat) (a : List Val) (b : List Val) : Option (Bool) := iteO ((a.length : Int) == (b.length : Int)) (foldN (S := Unit) (F172_s1 N b) (F172_f1) N a 0 ()) (some false)
@[push_cast] def ar106 : Rs ((List Val) × (List Val)) := rsC (rL 5 Val.cells Val.cells_inj) (rsO (rL 5 Val.cells Val.cells_inj))
@[push_cast] def v106 (r : Bool) : AV := .bool r
@[push_cast] def sh106 : Shp := .one (.leaf none)
noncomputable def t106 (N : Nat) : List AV → Option AV := TL ar106.e fun x => bindO (F172 N x.1 x.2) fun r => some (v106 r)
@[push_cast] theorem t144_1 {N : Nat} (z1 : Int) (z2 : Int) (z3 : List Int) (z4 : List Int) (z5 : List Int) (z6 : Int) (z7 : Int) (z8 : List Int) (z9 : List Int) (z10 : List Int) : t144 N [.agg [.int .i64 z1,.int .i64 z2,.sl false 1 (List.map (cI .i64) z3),.sl false 1 (List.map (cI .i64) z4),.sl false 1 (List.map (cI .i64) z5)],.agg [.int .i64 z6,.int .i64 z7,.sl false 1 (List.map (cI .i64) z8),.sl false 1 (List.map (cI .i64) z9),.sl false 1 (List.map (cI .i64) z10)]] = bindO (F183 N (⟨z1,z2,z3,z4,z5⟩ : Val) (⟨z6,z7,z8,z9,z10⟩ : Val)) fun r => some (v144 r) :=
 TL_hit ar144.inj ((⟨z1,z2,z3,z4,z5⟩ : Val),(⟨z6,z7,z8,z9,z10⟩ : Val)) (by simp only [push_cast] <;> rfl)
@[push_cast] def H49 : Nat → Hint
 | _ => ⟨[],[],[]⟩
def F158 (N : Nat) (a : Entry) (b : Entry) : Option (Bool) := iteO (a.entryName.toList == b.entryName.toList) (iteO (a.entryVal.valSort == b.entryVal.valSort) (bindO (F172 N a.entryArgs b.entryArgs) fun r1 => some r1) (some false)) (some false)
@[push_cast] def ar49 : Rs (Entry × Entry) := rsC rEntry (rsO rEntry)
@[push_cast] def v49 (r : Bool) : AV := .bool r
@[push_cast] def sh49 : Shp := .one (.leaf none)
noncomputable def t49 (N : Nat) : List AV → Option AV := TL ar49.e fun x => bindO (F158 N x.1 x.2) fun r => some (v49 r)
@[push_cast] theorem t106_1 {N : Nat} (z1 : List Val) (z2 : List Val) : t106 N [.sl false 5 (List.map Val.cells z1),.sl false 5 (List.map Val.cells z2)] = bindO (F172 N z1 z2) fun r => some (v106 r) :=
 TL_hit ar106.inj (z1,z2) (by simp only [push_cast] <;> rfl)
@[push_cast] def H47 : Nat → Hint
 | 0 => ⟨[0,9,10,11],[],[]⟩
 | 1 => ⟨[],[0,9,10,11],[]⟩
 | 2 => ⟨[0,3,4,5,9,10,11],[0,9,10,11],[]⟩
 | 3 => ⟨[],[0,3,4,5,9,10,11],[]⟩
 | _ => ⟨[],[],[]⟩
def F126_s2 (N : Nat) (i1 : Nat) (m : List Entry) (x2 : Entry) (s5 : Int) : Option (Sum (Int) (Sum Unit Bool)) := iteO (decide (s5 < (i1 : Int))) (bindO (atO m s5) fun x6 => bindO (F158 N x6 x2) fun r7 => iteO r7 (some (.inr (.inr false))) (some (.inl (IntKind.i64.wrap (s5 + 1))))) (some (.inr (.inl ())))
def F126_s1 (N : Nat) (m : List Entry) (s3 : Unit) (i1 : Nat) (x2 : Entry) : Option (Sum (Unit) (Bool)) := bindO (F157 N x2) fun r4 => iteO r4 (whileN (S := Int) (F126_s2 N i1 m x2) N 0) (some (.inr false))
def F126_f1  (s3 : Unit) : Option (Bool) := some true
def F126 (N : Nat) (m : List Entry) : Option (Bool) := iteO (decide ((m.length : Int) > 2000)) (some false) (foldN (S := Unit) (F126_s1 N m) (F126_f1) N m 0 ())
@[push_cast] def ar47 : Rs (List Entry) := rsO (rL 7 Entry.cells Entry.cells_inj)
@[push_cast] def v47 (r : Bool) : AV := .bool r
@[push_cast] def sh47 : Shp := .one (.leaf none)
noncomputable def t47 (N : Nat) : List AV → Option AV := TL ar47.e fun x => bindO (F126 N x) fun r => some (v47 r)
@[push_cast] theorem t48_1 {N : Nat} (z1 : ByteArray) (z2 : List Val) (z3 : Int) (z4 : Int) (z5 : List Int) (z6 : List Int) (z7 : List Int) : t48 N [.agg [.str z1,.sl false 5 (List.map Val.cells z2),.int .i64 z3,.int .i64 z4,.sl false 1 (List.map (cI .i64) z5),.sl false 1 (List.map (cI .i64) z6),.sl false 1 (List.map (cI .i64) z7)]] = bindO (F157 N (⟨z1,z2,(⟨z3,z4,z5,z6,z7⟩ : Val)⟩ : Entry)) fun r => some (v48 r) :=
 TL_hit ar48.inj (⟨z1,z2,(⟨z3,z4,z5,z6,z7⟩ : Val)⟩ : Entry) (by simp only [push_cast] <;> rfl)
@[push_cast] theorem t49_1 {N : Nat} (z1 : ByteArray) (z2 : List Val) (z3 : Int) (z4 : Int) (z5 : List Int) (z6 : List Int) (z7 : List Int) (z8 : ByteArray) (z9 : List Val) (z10 : Int) (z11 : Int) (z12 : List Int) (z13 : List Int) (z14 : List Int) : t49 N [.agg [.str z1,.sl false 5 (List.map Val.cells z2),.int .i64 z3,.int .i64 z4,.sl false 1 (List.map (cI .i64) z5),.sl false 1 (List.map (cI .i64) z6),.sl false 1 (List.map (cI .i64) z7)],.agg [.str z8,.sl false 5 (List.map Val.cells z9),.int .i64 z10,.int .i64 z11,.sl false 1 (List.map (cI .i64) z12),.sl false 1 (List.map (cI .i64) z13),.sl false 1 (List.map (cI .i64) z14)]] = bindO (F158 N (⟨z1,z2,(⟨z3,z4,z5,z6,z7⟩ : Val)⟩ : Entry) (⟨z8,z9,(⟨z10,z11,z12,z13,z14⟩ : Val)⟩ : Entry)) fun r => some (v49 r) :=
 TL_hit ar49.inj ((⟨z1,z2,(⟨z3,z4,z5,z6,z7⟩ : Val)⟩ : Entry),(⟨z8,z9,(⟨z10,z11,z12,z13,z14⟩ : Val)⟩ : Entry)) (by simp only [push_cast] <;> rfl)
@[push_cast] def H137 : Nat → Hint
 | 0 => ⟨[1,2,3,8,11,12,13],[3,8],[]⟩
 | 1 => ⟨[],[1,2,3,8,11,12,13],[]⟩
 | _ => ⟨[],[],[]⟩
def F159_s1 (N : Nat) (args : List Val) (name : ByteArray) (sortq : Int) (s3 : Unit) (i1 : Nat) (x2 : Entry) : Option (Sum (Unit) (Val)) := iteO (x2.entryName.toList == name.toList) (iteO (x2.entryVal.valSort == sortq) (bindO (F172 N x2.entryArgs args) fun r4 => iteO r4 (some (.inr x2.entryVal)) (some (.inl ()))) (some (.inl ()))) (some (.inl ()))
def F159_f1 (sortq : Int) (s3 : Unit) : Option (Val) := some (⟨sortq,0,[],[],[]⟩ : Val)
def F159 (N : Nat) (m : List Entry) (name : ByteArray) (args : List Val) (sortq : Int) : Option (Val) := foldN (S := Unit) (F159_s1 N args name sortq) (F159_f1 sortq) N m 0 ()
@[push_cast] def ar137 : Rs ((List Entry) × ByteArray × (List Val) × Int) := rsC (rL 7 Entry.cells Entry.cells_inj) (rsC rS (rsC (rL 5 Val.cells Val.cells_inj) (rsO (rI .i64))))
@[push_cast] def v137 (r : Val) : AV := .agg (Val.cells r)
@[push_cast] def sh137 : Shp := .one (.agg [none,none,some 1,some 1,some 1])
noncomputable def t137 (N : Nat) : List AV → Option AV := TL ar137.e fun x => bindO (F159 N x.1 x.2.1 x.2.2.1 x.2.2.2) fun r => some (v137 r)
@[push_cast] def H155 : Nat → Hint
 | _ => ⟨[],[],[]⟩
def F173 (n : Int) : Option (Val × Bool) := bindO (F181 n) fun r1 => some ((⟨1,n,[],[],[]⟩ : Val),r1)
@[push_cast] def ar155 : Rs Int := rsO (rI .i64)
@[push_cast] def v155 (r : Val × Bool) : AV := .tuple [.agg (Val.cells r.1),.bool r.2]
@[push_cast] def sh155 : Shp := .tup [.agg [none,none,some 1,some 1,some 1],.leaf none]
noncomputable def t155 : List AV → Option AV := TL ar155.e fun x => bindO (F173 x) fun r => some (v155 r)
@[push_cast] def H156 : Nat → Hint
 | _ => ⟨[],[],[]⟩
def F174 (c : Int) (n : Int) : Option (Val × Bool) := iteO (n == 0) (bindO (F173 (IntKind.i64.wrap (c * n))) fun r4 => some (r4.1,r4.2)) (iteO (c == 0) (bindO (F173 (IntKind.i64.wrap (c * n))) fun r3 => some (r3.1,r3.2)) (iteO (decide (c < 0)) (iteO (decide ((IntKind.i64.wrap (0 - c)) = 0)) (none) (iteO (decide ((IntKind.i64.wrap (0 - n)) > (IntKind.i64.wrap ((1152921504606846976 : Int).tdiv (IntKind.i64.wrap (0 - c)))))) (some ((⟨1,0,[],[],[]⟩ : Val),false)) (iteO (decide ((IntKind.i64.wrap (0 - n)) < (IntKind.i64.wrap (0 - (IntKind.i64.wrap ((1152921504606846976 : Int).tdiv (IntKind.i64.wrap (0 - c)))))))) (some ((⟨1,0,[],[],[]⟩ : Val),false)) (bindO (F173 (IntKind.i64.wrap ((IntKind.i64.wrap (0 - c)) * (IntKind.i64.wrap (0 - n))))) fun r1 => some (r1.1,r1.2))))) (iteO (decide (c = 0)) (none) (iteO (decide (n > (IntKind.i64.wrap ((1152921504606846976 : Int).tdiv c)))) (some ((⟨1,0,[],[],[]⟩ : Val),false)) (iteO (decide (n < (IntKind.i64.wrap (0 - (IntKind.i64.wrap ((1152921504606846976 : Int).tdiv c)))))) (some ((⟨1,0,[],[],[]⟩ : Val),false)) (bindO (F173 (IntKind.i64.wrap (c * n))) fun r2 => some (r2.1,r2.2)))))))
@[push_cast] def ar156 : Rs (Int × Int) := rsC (rI .i64) (rsO (rI .i64))
@[push_cast] def v156 (r : Val × Bool) : AV := .tuple [.agg (Val.cells r.1),.bool r.2]
@[push_cast] def sh156 : Shp := .tup [.agg [none,none,some 1,some 1,some 1],.leaf none]
noncomputable def t156 : List AV → Option AV := TL ar156.e fun x => bindO (F174 x.1 x.2) fun r => some (v156 r)
@[push_cast] theorem t155_1 (z1 : Int) : t155 [.int .i64 z1] = bindO (F173 z1) fun r => some (v155 r) :=
 TL_hit ar155.inj z1 (by simp only [push_cast] <;> rfl)
@[push_cast] def H167 : Nat → Hint
 | 0 => ⟨[1,7,8,9],[],[]⟩
 | 1 => ⟨[],[1,7,8,9],[]⟩
 | _ => ⟨[],[],[]⟩
def F184_s1 (n : Int) (s3 : Unit) (i1 : Nat) (x2 : Int) : Option (Sum (Unit) (Bool)) := iteO (x2 == n) (some (.inr true)) (some (.inl ()))
def F184_f1  (s3 : Unit) : Option (Bool) := some false
def F184 (N : Nat) (l : List Int) (n : Int) : Option (Bool) := foldN (S := Unit) (F184_s1 n) (F184_f1) N l 0 ()
@[push_cast] def ar167 : Rs ((List Int) × Int) := rsC (rL 1 (cI .i64) (cI_inj .i64)) (rsO (rI .i64))
@[push_cast] def v167 (r : Bool) : AV := .bool r
@[push_cast] def sh167 : Shp := .one (.leaf none)
noncomputable def t167 (N : Nat) : List AV → Option AV := TL ar167.e fun x => bindO (F184 N x.1 x.2) fun r => some (v167 r)
@[push_cast] def H168 : Nat → Hint
 | 0 => ⟨[1,5,6,12,13,14],[1,5,6],[]⟩
 | 1 => ⟨[],[1,5,6,12,13,14],[]⟩
 | _ => ⟨[],[],[]⟩
def F185_s1 (n : Int) (s4 : (List Int) × Bool) (i2 : Nat) (x3 : Int) : Option (Sum ((List Int) × Bool) (List Int)) := iteO s4.2 (iteO (fits (s4.1.length + 1) 8) (some (.inl (s4.1 ++ ([x3]),s4.2))) (none)) (iteO (decide (n < x3)) (iteO (fits (s4.1.length + 1) 8) (iteO (fits (s4.1.length + 1 + 1) 8) (some (.inl ((s4.1 ++ ([n])) ++ ([x3]),true))) (none)) (none)) (iteO (fits (s4.1.length + 1) 8) (some (.inl (s4.1 ++ ([x3]),s4.2))) (none)))
def F185_f1 (n : Int) (s4 : (List Int) × Bool) : Option (List Int) := iteO s4.2 (some s4.1) (iteO (fits (s4.1.length + 1) 8) (some (s4.1 ++ ([n]))) (none))
def F185 (N : Nat) (l : List Int) (n : Int) : Option (List Int) := bindO (F184 N l n) fun r1 => foldN (S := (List Int) × Bool) (F185_s1 n) (F185_f1 n) N l 0 ([],r1)
@[push_cast] def ar168 : Rs ((List Int) × Int) := rsC (rL 1 (cI .i64) (cI_inj .i64)) (rsO (rI .i64))
@[push_cast] def v168 (r : List Int) : AV := .sl false 1 (List.map (cI .i64) r)
@[push_cast] def sh168 : Shp := .one (.leaf (some 1))
noncomputable def t168 (N : Nat) : List AV → Option AV := TL ar168.e fun x => bindO (F185 N x.1 x.2) fun r => some (v168 r)
@[push_cast] theorem t167_1 {N : Nat} (z1 : List Int) (z2 : Int) : t167 N [.sl false 1 (List.map (cI .i64) z1),.int .i64 z2] = bindO (F184 N z1 z2) fun r => some (v167 r) :=
 TL_hit ar167.inj (z1,z2) (by simp only [push_cast] <;> rfl)
@[push_cast] def H157 : Nat → Hint
 | 0 => ⟨[0,2,7,13,14,15],[0,2,7],[]⟩
 | 1 => ⟨[],[0,2,7,13,14,15],[]⟩
 | 2 => ⟨[7,46,47,48],[7],[.frz 7]⟩
 | 3 => ⟨[],[7,46,47,48],[]⟩
 | _ => ⟨[],[],[]⟩
def F175_s1 (N : Nat) (b : List Int) (op : Int) (s3 : List Int) (i1 : Nat) (x2 : Int) : Option (Sum (List Int) (List Int)) := bindO (F184 N b x2) fun r4 => iteO (op == 11) (iteO (fits (s3.length + 1) 8) (some (.inl (s3 ++ ([x2])))) (none)) (iteO (op == 12) (iteO r4 (iteO (fits (s3.length + 1) 8) (some (.inl (s3 ++ ([x2])))) (none)) (iteO (op == 13) (iteO (fits (s3.length + 1) 8) (some (.inl (s3 ++ ([x2])))) (none)) (some (.inl s3)))) (iteO (op == 13) (iteO r4 (some (.inl s3)) (iteO (fits (s3.length + 1) 8) (some (.inl (s3 ++ ([x2])))) (none))) (some (.inl s3))))
def F175_s3 (N : Nat) (s10 : List Int) (i8 : Nat) (x9 : Int) : Option (Sum (List Int) (List Int)) := bindO (F185 N s10 x9) fun r11 => some (.inl r11)
def F175_f3  (s10 : List Int) : Option (List Int) := some s10
def F175_f1 (N : Nat) (b : List Int) (op : Int) (s3 : List Int) : Option (List Int) := iteO (op == 11) (foldN (S := List Int) (F175_s3 N) (F175_f3) N b 0 s3) (some s3)
def F175 (N : Nat) (op : Int) (a : List Int) (b : List Int) : Option (List Int) := foldN (S := List Int) (F175_s1 N b op) (F175_f1 N b op) N a 0 ([])
@[push_cast] def ar157 : Rs (Int × (List Int) × (List Int)) := rsC (rI .i64) (rsC (rL 1 (cI .i64) (cI_inj .i64)) (rsO (rL 1 (cI .i64) (cI_inj .i64))))
@[push_cast] def v157 (r : List Int) : AV := .sl false 1 (List.map (cI .i64) r)
@[push_cast] def sh157 : Shp := .one (.leaf (some 1))
noncomputable def t157 (N : Nat) : List AV → Option AV := TL ar157.e fun x => bindO (F175 N x.1 x.2.1 x.2.2) fun r => some (v157 r)
@[push_cast] theorem t168_1 {N : Nat} (z1 : List Int) (z2 : Int) : t168 N [.sl false 1 (List.map (cI .i64) z1),.int .i64 z2] = bindO (F185 N z1 z2) fun r => some (v168 r) :=
 TL_hit ar168.inj (z1,z2) (by simp only [push_cast] <;> rfl)
@[push_cast] def H158 : Nat → Hint
 | 0 => ⟨[1,2,8,9,10],[],[]⟩
 | 1 => ⟨[],[1,2,8,9,10],[]⟩
 | _ => ⟨[],[],[]⟩
def F176_s1 (i : Int) (v : Val) (s3 : Unit) (i1 : Nat) (x2 : Int) : Option (Sum (Unit) (Int)) := iteO (x2 == i) (bindO (atO v.valTo (i1 : Int)) fun x4 => some (.inr x4)) (some (.inl ()))
def F176_f1  (s3 : Unit) : Option (Int) := some 0
def F176 (N : Nat) (v : Val) (i : Int) : Option (Int) := foldN (S := Unit) (F176_s1 i v) (F176_f1) N v.valAt 0 ()
@[push_cast] def ar158 : Rs (Val × Int) := rsC rVal (rsO (rI .i64))
@[push_cast] def v158 (r : Int) : AV := .int .i64 r
@[push_cast] def sh158 : Shp := .one (.leaf none)
noncomputable def t158 (N : Nat) : List AV → Option AV := TL ar158.e fun x => bindO (F176 N x.1 x.2) fun r => some (v158 r)
@[push_cast] def H159 : Nat → Hint
 | 0 => ⟨[1,2,3,6,7,19,20,21],[6,7],[.ownS 2 3 1,.ownS 2 4 1]⟩
 | 1 => ⟨[],[1,2,3,6,7,19,20,21],[]⟩
 | _ => ⟨[],[],[]⟩
def F177_s3 (N : Nat) (i : Int) (v : Val) (x : Int) (s10 : (List Int) × (List Int)) (i8 : Nat) (x9 : Int) : Option (Sum ((List Int) × (List Int)) (Val)) := bindO (F176 N v x9) fun r11 => iteO (x9 == i) (iteO (x == 0) (some (.inl (s10.1,s10.2))) (iteO (fits (s10.1.length + 1) 8) (iteO (fits (s10.2.length + 1) 8) (some (.inl (s10.1 ++ ([x9]),s10.2 ++ ([x])))) (none)) (none))) (iteO (r11 == 0) (some (.inl (s10.1,s10.2))) (iteO (fits (s10.1.length + 1) 8) (iteO (fits (s10.2.length + 1) 8) (some (.inl (s10.1 ++ ([x9]),s10.2 ++ ([r11])))) (none)) (none)))
def F177_f3 (v : Val) (s10 : (List Int) × (List Int)) : Option (Val) := some (⟨5,v.valNum,[],s10.1,s10.2⟩ : Val)
def F177 (N : Nat) (v : Val) (i : Int) (x : Int) : Option (Val) := bindO (F185 N v.valAt i) fun r1 => foldN (S := (List Int) × (List Int)) (F177_s3 N i v x) (F177_f3 v) N r1 0 ([],[])
@[push_cast] def ar159 : Rs (Val × Int × Int) := rsC rVal (rsC (rI .i64) (rsO (rI .i64)))
@[push_cast] def v159 (r : Val) : AV := .agg (Val.cells r)
@[push_cast] def sh159 : Shp := .one (.agg [none,none,some 1,some 1,some 1])
noncomputable def t159 (N : Nat) : List AV → Option AV := TL ar159.e fun x => bindO (F177 N x.1 x.2.1 x.2.2) fun r => some (v159 r)
@[push_cast] theorem t158_1 {N : Nat} (z1 : Int) (z2 : Int) (z3 : List Int) (z4 : List Int) (z5 : List Int) (z6 : Int) : t158 N [.agg [.int .i64 z1,.int .i64 z2,.sl false 1 (List.map (cI .i64) z3),.sl false 1 (List.map (cI .i64) z4),.sl false 1 (List.map (cI .i64) z5)],.int .i64 z6] = bindO (F176 N (⟨z1,z2,z3,z4,z5⟩ : Val) z6) fun r => some (v158 r) :=
 TL_hit ar158.inj ((⟨z1,z2,z3,z4,z5⟩ : Val),z6) (by simp only [push_cast] <;> rfl)
@[push_cast] def H169 : Nat → Hint
 | _ => ⟨[],[],[]⟩
def F186 (b : Bool) : Option (Val) := iteO b (some (⟨2,1,[],[],[]⟩ : Val)) (some (⟨2,0,[],[],[]⟩ : Val))
@[push_cast] def ar169 : Rs Bool := rsO rB
@[push_cast] def v169 (r : Val) : AV := .agg (Val.cells r)
@[push_cast] def sh169 : Shp := .one (.agg [none,none,some 1,some 1,some 1])
noncomputable def t169 : List AV → Option AV := TL ar169.e fun x => bindO (F186 x) fun r => some (v169 r)
@[push_cast] def H160 : Nat → Hint
 | 0 => ⟨[],[4],[]⟩
 | 1 => ⟨[1,4,127,128,129],[4],[]⟩
 | 2 => ⟨[],[1,4,127,128,129],[]⟩
 | _ => ⟨[],[],[]⟩
def F178_s1 (N : Nat) (v : List Val) (s36 : Unit) (i34 : Nat) (x35 : Int) : Option (Sum (Unit) (Val)) := bindO (atO v 1) fun x37 => bindO (F184 N x37.valSet x35) fun r38 => iteO r38 (some (.inl ())) (bindO (F186 false) fun r39 => some (.inr r39))
def F178_f1  (s36 : Unit) : Option (Val) := bindO (F186 true) fun r40 => some r40
def F178 (N : Nat) (op : Int) (v : List Val) : Option (Val) := iteO (op == 30) (bindO (F186 true) fun r1 => some r1) (iteO (op == 32) (bindO (atO v 0) fun x2 => bindO (F186 (x2.valNum == 0)) fun r3 => some r3) (iteO (op == 33) (bindO (atO v 0) fun x4 => iteO (x4.valNum == 1) (bindO (atO v 1) fun x5 => bindO (F186 (x5.valNum == 1)) fun r6 => some r6) (bindO (F186 false) fun r7 => some r7)) (iteO (op == 34) (bindO (atO v 0) fun x8 => iteO (x8.valNum == 1) (bindO (F186 true) fun r11 => some r11) (bindO (atO v 1) fun x9 => bindO (F186 (x9.valNum == 1)) fun r10 => some r10)) (iteO (op == 35) (bindO (atO v 0) fun x12 => iteO (x12.valNum == 0) (bindO (F186 true) fun r15 => some r15) (bindO (atO v 1) fun x13 => bindO (F186 (x13.valNum == 1)) fun r14 => some r14)) (iteO (op == 36) (bindO (atO v 0) fun x16 => bindO (atO v 1) fun x17 => bindO (F186 (x16.valNum == x17.valNum)) fun r18 => some r18) (iteO (op == 37) (bindO (atO v 0) fun x19 => bindO (atO v 1) fun x20 => bindO (F183 N x19 x20) fun r21 => bindO (F186 r21) fun r22 => some r22) (iteO (op == 38) (bindO (atO v 0) fun x23 => bindO (atO v 1) fun x24 => bindO (F186 (decide (x23.valNum ≤ x24.valNum))) fun r25 => some r25) (iteO (op == 39) (bindO (atO v 0) fun x26 => bindO (atO v 1) fun x27 => bindO (F186 (decide (x26.valNum < x27.valNum))) fun r28 => some r28) (iteO (op == 40) (bindO (atO v 1) fun x29 => bindO (atO v 0) fun x30 => bindO (F184 N x29.valSet x30.valNum) fun r31 => bindO (F186 r31) fun r32 => some r32) (iteO (op == 41) (bindO (atO v 0) fun x33 => foldN (S := Unit) (F178_s1 N v) (F178_f1) N x33.valSet 0 ()) (bindO (F186 false) fun r41 => some r41)))))))))))
@[push_cast] def ar160 : Rs (Int × (List Val)) := rsC (rI .i64) (rsO (rL 5 Val.cells Val.cells_inj))
@[push_cast] def v160 (r : Val) : AV := .agg (Val.cells r)
@[push_cast] def sh160 : Shp := .one (.agg [none,none,some 1,some 1,some 1])
noncomputable def t160 (N : Nat) : List AV → Option AV := TL ar160.e fun x => bindO (F178 N x.1 x.2) fun r => some (v160 r)
@[push_cast] theorem t169_1 (z1 : Bool) : t169 [.bool z1] = bindO (F186 z1) fun r => some (v169 r) :=
 TL_hit ar169.inj z1 (by simp only [push_cast] <;> rfl)
@[push_cast] def H138 : Nat → Hint
 | 0 => ⟨[],[1,2,4],[]⟩
 | _ => ⟨[],[],[]⟩
@[push_cast] def ali138 : Nat → List (Nat × Nat)
 | 22 => [(104,4)]
 | 27 => [(136,4)]
 | _ => []
def F160 (N : Nat) (n : Node) (v : List Val) : Option (Val × Bool) := iteO (n.op == 2) (bindO (F173 n.num) fun r1 => some (r1.1,r1.2)) (iteO (n.op == 4) (bindO (atO v 0) fun x2 => bindO (atO v 1) fun x3 => bindO (F173 (IntKind.i64.wrap (x2.valNum + x3.valNum))) fun r4 => some (r4.1,r4.2)) (iteO (n.op == 5) (bindO (atO v 0) fun x5 => bindO (atO v 1) fun x6 => bindO (F173 (IntKind.i64.wrap (x5.valNum - x6.valNum))) fun r7 => some (r7.1,r7.2)) (iteO (n.op == 6) (bindO (atO v 0) fun x8 => bindO (F173 (IntKind.i64.wrap (0 - x8.valNum))) fun r9 => some (r9.1,r9.2)) (iteO (n.op == 7) (bindO (atO v 0) fun x10 => bindO (F174 n.num x10.valNum) fun r11 => some (r11.1,r11.2)) (iteO (n.op == 8) (bindO (atO v 0) fun x12 => iteO (x12.valNum == 1) (bindO (atO v 1) fun x13 => some (x13,true)) (bindO (atO v 2) fun x14 => some (x14,true))) (iteO (n.op == 10) (bindO (atO v 0) fun x15 => some ((⟨4,0,[x15.valNum],[],[]⟩ : Val),true)) (iteO (n.op == 11) (bindO (atO v 0) fun x16 => bindO (atO v 1) fun x17 => bindO (F175 N n.op x16.valSet x17.valSet) fun r18 => some ((⟨4,0,r18,[],[]⟩ : Val),decide ((r18.length : Int) ≤ 200))) (iteO (n.op == 12) (bindO (atO v 0) fun x19 => bindO (atO v 1) fun x20 => bindO (F175 N n.op x19.valSet x20.valSet) fun r21 => some ((⟨4,0,r21,[],[]⟩ : Val),decide ((r21.length : Int) ≤ 200))) (iteO (n.op == 13) (bindO (atO v 0) fun x22 => bindO (atO v 1) fun x23 => bindO (F175 N n.op x22.valSet x23.valSet) fun r24 => some ((⟨4,0,r24,[],[]⟩ : Val),decide ((r24.length : Int) ≤ 200))) (iteO (n.op == 14) (bindO (atO v 0) fun x25 => bindO (atO v 1) fun x26 => bindO (F176 N x25 x26.valNum) fun r27 => bindO (F173 r27) fun r28 => some (r28.1,r28.2)) (iteO (n.op == 15) (bindO (atO v 0) fun x29 => bindO (atO v 1) fun x30 => bindO (atO v 2) fun x31 => bindO (F177 N x29 x30.valNum x31.valNum) fun r32 => some (r32,decide ((r32.valAt.length : Int) ≤ 200))) (iteO (n.op == 16) (bindO (atO v 0) fun x33 => bindO (F173 x33.valNum) fun r34 => some (r34.1,r34.2)) (iteO (n.op == 9) (some ((⟨4,0,[],[],[]⟩ : Val),true)) (bindO (F178 N n.op v) fun r35 => some (r35,true)))))))))))))))
@[push_cast] def ar138 : Rs (Node × (List Val)) := rsC rNode (rsO (rL 5 Val.cells Val.cells_inj))
@[push_cast] def v138 (r : Val × Bool) : AV := .tuple [.agg (Val.cells r.1),.bool r.2]
@[push_cast] def sh138 : Shp := .tup [.agg [none,none,some 1,some 1,some 1],.leaf none]
noncomputable def t138 (N : Nat) : List AV → Option AV := TL ar138.e fun x => bindO (F160 N x.1 x.2) fun r => some (v138 r)
@[push_cast] theorem t156_1 (z1 : Int) (z2 : Int) : t156 [.int .i64 z1,.int .i64 z2] = bindO (F174 z1 z2) fun r => some (v156 r) :=
 TL_hit ar156.inj (z1,z2) (by simp only [push_cast] <;> rfl)
@[push_cast] theorem t157_1 {N : Nat} (z1 : Int) (z2 : List Int) (z3 : List Int) : t157 N [.int .i64 z1,.sl false 1 (List.map (cI .i64) z2),.sl false 1 (List.map (cI .i64) z3)] = bindO (F175 N z1 z2 z3) fun r => some (v157 r) :=
 TL_hit ar157.inj (z1,z2,z3) (by simp only [push_cast] <;> rfl)
@[push_cast] theorem t159_1 {N : Nat} (z1 : Int) (z2 : Int) (z3 : List Int) (z4 : List Int) (z5 : List Int) (z6 : Int) (z7 : Int) : t159 N [.agg [.int .i64 z1,.int .i64 z2,.sl false 1 (List.map (cI .i64) z3),.sl false 1 (List.map (cI .i64) z4),.sl false 1 (List.map (cI .i64) z5)],.int .i64 z6,.int .i64 z7] = bindO (F177 N (⟨z1,z2,z3,z4,z5⟩ : Val) z6 z7) fun r => some (v159 r) :=
 TL_hit ar159.inj ((⟨z1,z2,z3,z4,z5⟩ : Val),z6,z7) (by simp only [push_cast] <;> rfl)
@[push_cast] theorem t160_1 {N : Nat} (z1 : Int) (z2 : List Val) : t160 N [.int .i64 z1,.sl false 5 (List.map Val.cells z2)] = bindO (F178 N z1 z2) fun r => some (v160 r) :=
 TL_hit ar160.inj (z1,z2) (by simp only [push_cast] <;> rfl)
@[push_cast] def H103 : Nat → Hint
 | 0 => ⟨[1,2,4,6,7,13,14,15],[1,2,4,6,7],[]⟩
 | 1 => ⟨[],[1,2,4,6,7,13,14,15],[]⟩
 | _ => ⟨[],[],[]⟩
def F127_s1 (self103 : Node → (List Entry) → Option (Val × Bool)) (m : List Entry) (s3 : (List Val) × Bool) (i1 : Nat) (x2 : Node) : Option (Sum ((List Val) × Bool) (Val × Bool)) := bindO (self103 x2 m) fun r4 => iteO s3.2 (iteO (fits (s3.1.length + 1) 88) (some (.inl (s3.1 ++ ([r4.1]),r4.2))) (none)) (iteO (fits (s3.1.length + 1) 88) (some (.inl (s3.1 ++ ([r4.1]),false))) (none))
def F127_f1 (N : Nat) (m : List Entry) (n : Node) (s3 : (List Val) × Bool) : Option (Val × Bool) := iteO s3.2 (iteO (n.op == 1) (bindO (F159 N m n.name s3.1 n.sortf) fun r8 => some (r8,true)) (iteO (n.op == 3) (bindO (F159 N m n.name s3.1 n.sortf) fun r6 => some (r6,true)) (bindO (F160 N n s3.1) fun r7 => some (r7.1,r7.2)))) (bindO (F28 N n) fun r5 => some ((⟨r5,0,[],[],[]⟩ : Val),false))
def F127b (self103 : Node → (List Entry) → Option (Val × Bool)) (N : Nat) (n : Node) (m : List Entry) : Option (Val × Bool) := foldN (S := (List Val) × Bool) (F127_s1 self103 m) (F127_f1 N m n) N n.kids 0 ([],true)
def F127 : Nat → Node → (List Entry) → Option (Val × Bool)
 | 0 => fun _ _ => none
 | N + 1 => fun n m => F127b (F127 N) N n m
@[push_cast] def ar103 : Rs (Node × (List Entry)) := rsC rNode (rsO (rL 7 Entry.cells Entry.cells_inj))
@[push_cast] def v103 (r : Val × Bool) : AV := .tuple [.agg (Val.cells r.1),.bool r.2]
@[push_cast] def sh103 : Shp := .tup [.agg [none,none,some 1,some 1,some 1],.leaf none]
noncomputable def t103 (N : Nat) : List AV → Option AV := TL ar103.e fun x => bindO (F127 N x.1 x.2) fun r => some (v103 r)
noncomputable def ts103 (self103 : Node → (List Entry) → Option (Val × Bool)) : List AV → Option AV := TL ar103.e fun x => bindO (self103 x.1 x.2) fun r => some (v103 r)
@[push_cast] theorem t103_1 (self103 : Node → (List Entry) → Option (Val × Bool)) (z1 : Int) (z2 : Int) (z3 : ByteArray) (z4 : Int) (z5 : List Node) (z6 : List Entry) : ts103 self103 [.agg [.int .i64 z1,.int .i64 z2,.str z3,.int .i64 z4,.sl false 5 (List.map Node.cells z5)],.sl false 7 (List.map Entry.cells z6)] = bindO (self103 (⟨z1,z2,z3,z4,z5⟩ : Node) z6) fun r => some (v103 r) :=
 TL_hit ar103.inj ((⟨z1,z2,z3,z4,z5⟩ : Node),z6) (by simp only [push_cast] <;> rfl)
@[push_cast] theorem t137_1 {N : Nat} (z1 : List Entry) (z2 : ByteArray) (z3 : List Val) (z4 : Int) : t137 N [.sl false 7 (List.map Entry.cells z1),.str z2,.sl false 5 (List.map Val.cells z3),.int .i64 z4] = bindO (F159 N z1 z2 z3 z4) fun r => some (v137 r) :=
 TL_hit ar137.inj (z1,z2,z3,z4) (by simp only [push_cast] <;> rfl)
@[push_cast] theorem t138_1 {N : Nat} (z1 : Int) (z2 : Int) (z3 : ByteArray) (z4 : Int) (z5 : List Node) (z6 : List Val) : t138 N [.agg [.int .i64 z1,.int .i64 z2,.str z3,.int .i64 z4,.sl false 5 (List.map Node.cells z5)],.sl false 5 (List.map Val.cells z6)] = bindO (F160 N (⟨z1,z2,z3,z4,z5⟩ : Node) z6) fun r => some (v138 r) :=
 TL_hit ar138.inj ((⟨z1,z2,z3,z4,z5⟩ : Node),z6) (by simp only [push_cast] <;> rfl)
@[push_cast] def H45 : Nat → Hint
 | _ => ⟨[],[],[]⟩
def F87 (N : Nat) (n : Node) (m : List Entry) (sortq : Int) : Option (Val × Int) := bindO (F15 N n sortq) fun r1 => iteO (r1 == 0) (bindO (F43 N n) fun r2 => iteO r2 (some ((⟨0,0,[],[],[]⟩ : Val),3)) (bindO (F126 N m) fun r3 => iteO r3 (bindO (F127 N n m) fun r4 => iteO r4.2 (some (r4.1,0)) (some ((⟨0,0,[],[],[]⟩ : Val),2))) (some ((⟨0,0,[],[],[]⟩ : Val),3)))) (some ((⟨0,0,[],[],[]⟩ : Val),r1))
@[push_cast] def ar45 : Rs (Node × (List Entry) × Int) := rsC rNode (rsC (rL 7 Entry.cells Entry.cells_inj) (rsO (rI .i64)))
@[push_cast] def v45 (r : Val × Int) : AV := .tuple [.agg (Val.cells r.1),.int .i64 r.2]
@[push_cast] def sh45 : Shp := .tup [.agg [none,none,some 1,some 1,some 1],.leaf none]
noncomputable def t45 (N : Nat) : List AV → Option AV := TL ar45.e fun x => bindO (F87 N x.1 x.2.1 x.2.2) fun r => some (v45 r)
@[push_cast] theorem t27_1 {N : Nat} (z1 : Int) (z2 : Int) (z3 : ByteArray) (z4 : Int) (z5 : List Node) (z6 : Int) : t27 N [.agg [.int .i64 z1,.int .i64 z2,.str z3,.int .i64 z4,.sl false 5 (List.map Node.cells z5)],.int .i64 z6] = bindO (F15 N (⟨z1,z2,z3,z4,z5⟩ : Node) z6) fun r => some (v27 r) :=
 TL_hit ar27.inj ((⟨z1,z2,z3,z4,z5⟩ : Node),z6) (by simp only [push_cast] <;> rfl)
@[push_cast] theorem t26_2 {N : Nat} (z1 : Int) (z2 : Int) (z3 : ByteArray) (z4 : Int) (z5 : List Node) : t26 N [.agg [.int .i64 z1,.int .i64 z2,.str z3,.int .i64 z4,.sl false 5 (List.map Node.cells z5)]] = bindO (F43 N (⟨z1,z2,z3,z4,z5⟩ : Node)) fun r => some (v26 r) :=
 TL_hit ar26.inj (⟨z1,z2,z3,z4,z5⟩ : Node) (by simp only [push_cast] <;> rfl)
@[push_cast] theorem t47_1 {N : Nat} (z1 : List Entry) : t47 N [.sl false 7 (List.map Entry.cells z1)] = bindO (F126 N z1) fun r => some (v47 r) :=
 TL_hit ar47.inj z1 (by simp only [push_cast] <;> rfl)
@[push_cast] theorem t103_2 {N : Nat} (z1 : Int) (z2 : Int) (z3 : ByteArray) (z4 : Int) (z5 : List Node) (z6 : List Entry) : t103 N [.agg [.int .i64 z1,.int .i64 z2,.str z3,.int .i64 z4,.sl false 5 (List.map Node.cells z5)],.sl false 7 (List.map Entry.cells z6)] = bindO (F127 N (⟨z1,z2,z3,z4,z5⟩ : Node) z6) fun r => some (v103 r) :=
 TL_hit ar103.inj ((⟨z1,z2,z3,z4,z5⟩ : Node),z6) (by simp only [push_cast] <;> rfl)
@[push_cast] def H15 : Nat → Hint
 | _ => ⟨[],[],[]⟩
def F1220 (N : Nat) (n : Node) (m : List Entry) : Option (Bool × Int) := bindO (F87 N n m 2) fun r1 => iteO (r1.2 == 0) (some (r1.1.valNum == 1,r1.2)) (some (false,r1.2))
@[push_cast] def ar15 : Rs (Node × (List Entry)) := rsC rNode (rsO (rL 7 Entry.cells Entry.cells_inj))
@[push_cast] def v15 (r : Bool × Int) : AV := .tuple [.bool r.1,.int .i64 r.2]
@[push_cast] def sh15 : Shp := .tup [.leaf none,.leaf none]
noncomputable def t15 (N : Nat) : List AV → Option AV := TL ar15.e fun x => bindO (F1220 N x.1 x.2) fun r => some (v15 r)
@[push_cast] theorem t45_1 {N : Nat} (z1 : Int) (z2 : Int) (z3 : ByteArray) (z4 : Int) (z5 : List Node) (z6 : List Entry) (z7 : Int) : t45 N [.agg [.int .i64 z1,.int .i64 z2,.str z3,.int .i64 z4,.sl false 5 (List.map Node.cells z5)],.sl false 7 (List.map Entry.cells z6),.int .i64 z7] = bindO (F87 N (⟨z1,z2,z3,z4,z5⟩ : Node) z6 z7) fun r => some (v45 r) :=
 TL_hit ar45.inj ((⟨z1,z2,z3,z4,z5⟩ : Node),z6,z7) (by simp only [push_cast] <;> rfl)
@[push_cast] def H46 : Nat → Hint
 | _ => ⟨[],[],[]⟩
def F30 (N : Nat) (n : Node) (m : List Entry) : Option (Val × Int) := bindO (F87 N n m 0) fun r1 => some (r1.1,r1.2)
@[push_cast] def ar46 : Rs (Node × (List Entry)) := rsC rNode (rsO (rL 7 Entry.cells Entry.cells_inj))
@[push_cast] def v46 (r : Val × Int) : AV := .tuple [.agg (Val.cells r.1),.int .i64 r.2]
@[push_cast] def sh46 : Shp := .tup [.agg [none,none,some 1,some 1,some 1],.leaf none]
noncomputable def t46 (N : Nat) : List AV → Option AV := TL ar46.e fun x => bindO (F30 N x.1 x.2) fun r => some (v46 r)
@[push_cast] def H2000 : Nat → Hint
 | 0 => ⟨[0,2,4,7,24,25,26],[0,2,4,7],[]⟩
 | 1 => ⟨[],[0,2,4,7,24,25,26],[]⟩
 | 2 => ⟨[0,2,4,36,37,38],[0,2,4],[]⟩
 | 3 => ⟨[],[0,2,4,36,37,38],[]⟩
 | 4 => ⟨[0,2,48,49,50],[0],[]⟩
 | 5 => ⟨[],[0,2,48,49,50],[]⟩
 | _ => ⟨[],[],[]⟩
def F1398_s1  (s4 : List Int) (i2 : Nat) (x3 : Int) : Option (Sum (List Int) (List Int)) := iteO (fits (s4.length + 1) 8) (some (.inl (s4 ++ ([x3])))) (none)
def F1398_s2  (s7 : List Int) (i5 : Nat) (x6 : Int) : Option (Sum (List Int) (List Int)) := iteO (fits (s7.length + 1) 8) (some (.inl (s7 ++ ([x6])))) (none)
def F1398_s3 (self2000 : Node → (List Entry) → (List Int) → Option (List Int)) (u2 : List Entry) (s10 : List Int) (i8 : Nat) (x9 : Node) : Option (Sum (List Int) (List Int)) := bindO (self2000 x9 u2 s10) fun r11 => some (.inl r11)
def F1398_f3  (s10 : List Int) : Option (List Int) := some s10
def F1398_f2 (self2000 : Node → (List Entry) → (List Int) → Option (List Int)) (N : Nat) (u1 : Node) (u2 : List Entry) (s7 : List Int) : Option (List Int) := foldN (S := List Int) (F1398_s3 self2000 u2) (F1398_f3) N u1.kids 0 s7
def F1398_f1 (self2000 : Node → (List Entry) → (List Int) → Option (List Int)) (N : Nat) (r1 : Val × Int) (u1 : Node) (u2 : List Entry) (s4 : List Int) : Option (List Int) := foldN (S := List Int) (F1398_s2) (F1398_f2 self2000 N u1 u2) N r1.1.valAt 0 s4
def F1398_s4 (self2000 : Node → (List Entry) → (List Int) → Option (List Int)) (u2 : List Entry) (s14 : List Int) (i12 : Nat) (x13 : Node) : Option (Sum (List Int) (List Int)) := bindO (self2000 x13 u2 s14) fun r15 => some (.inl r15)
def F1398_f4  (s14 : List Int) : Option (List Int) := some s14
def F1398b (self2000 : Node → (List Entry) → (List Int) → Option (List Int)) (N : Nat) (u1 : Node) (u2 : List Entry) (h3 : List Int) : Option (List Int) := bindO (F30 N u1 u2) fun r1 => iteO (r1.2 == 0) (foldN (S := List Int) (F1398_s1) (F1398_f1 self2000 N r1 u1 u2) N r1.1.valSet 0 h3) (foldN (S := List Int) (F1398_s4 self2000 u2) (F1398_f4) N u1.kids 0 h3)
def F1398 : Nat → Node → (List Entry) → (List Int) → Option (List Int)
 | 0 => fun _ _ _ => none
 | N + 1 => fun u1 u2 h3 => F1398b (F1398 N) N u1 u2 h3
@[push_cast] def ar2000 : Ra ((Node) × ((List Entry) × (Unit))) := raK (.rs 0 1) (wkc_rs _ _) (raC rNode (raC (rL 7 Entry.cells Entry.cells_inj) (raN)))
@[push_cast] def st2000 : Rt ((List Int) × (Unit)) := rtC (oApp 1 (cI .i64) (cI_inj .i64)) (rtN)
@[push_cast] def v2000 (u1 : Node) (u2 : List Entry) (h3 : List Int) (r : List Int) : AV := .rs 0 1
@[push_cast] def so2000 (u1 : Node) (u2 : List Entry) (h3 : List Int) (r : List Int) : Store := [.app 1 1 (List.map (cI .i64) r)]
@[push_cast] def sh2000 : Shp := .one (.leaf none)
@[push_cast] def sw2000 : List ShO := [.any]
noncomputable def t2000 (N : Nat) : List AV → Store → Option (AV × Store) := TLS (fun x : ((Node) × ((List Entry) × (Unit))) × ((List Int) × (Unit)) => ar2000.e x.1) (fun x => st2000.e x.2) fun x => bindO (F1398 N x.1.1 x.1.2.1 x.2.1) fun r => some (v2000 x.1.1 x.1.2.1 x.2.1 r,so2000 x.1.1 x.1.2.1 x.2.1 r)
noncomputable def ts2000 (self2000 : Node → (List Entry) → (List Int) → Option (List Int)) : List AV → Store → Option (AV × Store) := TLS (fun x : ((Node) × ((List Entry) × (Unit))) × ((List Int) × (Unit)) => ar2000.e x.1) (fun x => st2000.e x.2) fun x => bindO (self2000 x.1.1 x.1.2.1 x.2.1) fun r => some (v2000 x.1.1 x.1.2.1 x.2.1 r,so2000 x.1.1 x.1.2.1 x.2.1 r)
@[push_cast] theorem t46_1 {N : Nat} (z1 : Int) (z2 : Int) (z3 : ByteArray) (z4 : Int) (z5 : List Node) (z6 : List Entry) : t46 N [.agg [.int .i64 z1,.int .i64 z2,.str z3,.int .i64 z4,.sl false 5 (List.map Node.cells z5)],.sl false 7 (List.map Entry.cells z6)] = bindO (F30 N (⟨z1,z2,z3,z4,z5⟩ : Node) z6) fun r => some (v46 r) :=
 TL_hit ar46.inj ((⟨z1,z2,z3,z4,z5⟩ : Node),z6) (by simp only [push_cast] <;> rfl)
@[push_cast] theorem t2000_1 (self2000 : Node → (List Entry) → (List Int) → Option (List Int)) (z1 : Int) (z2 : Int) (z3 : ByteArray) (z4 : Int) (z5 : List Node) (z6 : List Entry) (z7 : List Int) (z8 : AObj) (z9 : AObj) (z10 : AObj) (z11 : AObj) : lensRun 0 [.app 1,.keep,.keep] (ts2000 self2000) [.rs 0 1,.agg [.int .i64 z1,.int .i64 z2,.str z3,.int .i64 z4,.sl false 5 (List.map Node.cells z5)],.sl false 7 (List.map Entry.cells z6)] [.app 1 1 (List.map (cI .i64) z7),z8,z9,z10,z11] = bindO (self2000 (⟨z1,z2,z3,z4,z5⟩ : Node) z6 z7) fun r => some (.rs 0 3,[.app 1 3 (List.map (cI .i64) r),z8,z9,z10,z11]) :=
 lens_hit (X := ((Node) × ((List Entry) × (Unit))) × ((List Int) × (Unit))) (F := fun x => self2000 x.1.1 x.1.2.1 x.2.1) (v := fun x r => v2000 x.1.1 x.1.2.1 x.2.1 r) (so := fun x r => so2000 x.1.1 x.1.2.1 x.2.1 r) (args2 := [.rs 0 1,.agg [.int .i64 z1,.int .i64 z2,.str z3,.int .i64 z4,.sl false 5 (List.map Node.cells z5)],.sl false 7 (List.map Entry.cells z6)]) (σ2 := [.app 1 1 (List.map (cI .i64) z7),z8,z9,z10,z11]) (ras_inj ar2000 st2000) [some 0] (((⟨z1,z2,z3,z4,z5⟩ : Node),(z6,())),(z7,())) rfl rfl rfl (by (try simp only [push_cast]) <;> rfl) (by (try simp only [push_cast]) <;> rfl) (fun _ => (by (try simp only [push_cast]) <;> rfl)) (fun _ => (by (try simp only [push_cast]) <;> rfl)) (fun _ => rfl)
@[push_cast] def H17 : Nat → Hint
 | 0 => ⟨[0,3,6,7,18,19,20],[0,3,6,7],[]⟩
 | 1 => ⟨[],[0,3,6,7,18,19,20],[]⟩
 | _ => ⟨[],[],[]⟩
def F1222_s1 (N : Nat) (e : Entry) (s5 : (List Entry) × Bool) (i3 : Nat) (x4 : Entry) : Option (Sum ((List Entry) × Bool) ((List Entry) × Int)) := bindO (F158 N x4 e) fun r6 => iteO r6 (iteO (fits (s5.1.length + 1) 128) (some (.inl (s5.1 ++ ([e]),true))) (none)) (iteO (fits (s5.1.length + 1) 128) (some (.inl (s5.1 ++ ([x4]),s5.2))) (none))
def F1222_f1 (e : Entry) (m : List Entry) (s5 : (List Entry) × Bool) : Option ((List Entry) × Int) := iteO s5.2 (some (s5.1,0)) (iteO (decide ((m.length : Int) ≥ 2000)) (some ([],2)) (iteO (fits (s5.1.length + 1) 128) (some (s5.1 ++ ([e]),0)) (none)))
def F1222 (N : Nat) (m : List Entry) (e : Entry) : Option ((List Entry) × Int) := bindO (F126 N m) fun r1 => iteO r1 (bindO (F157 N e) fun r2 => iteO r2 (foldN (S := (List Entry) × Bool) (F1222_s1 N e) (F1222_f1 e m) N m 0 ([],false)) (some ([],3))) (some ([],3))
@[push_cast] def ar17 : Rs ((List Entry) × Entry) := rsC (rL 7 Entry.cells Entry.cells_inj) (rsO rEntry)
@[push_cast] def v17 (r : (List Entry) × Int) : AV := .tuple [.sl false 7 (List.map Entry.cells r.1),.int .i64 r.2]
@[push_cast] def sh17 : Shp := .tup [.leaf (some 7),.leaf none]
noncomputable def t17 (N : Nat) : List AV → Option AV := TL ar17.e fun x => bindO (F1222 N x.1 x.2) fun r => some (v17 r)
@[push_cast] def H5 : Nat → Hint
 | 0 => ⟨[1,2,5,48,49,50],[],[]⟩
 | 1 => ⟨[],[1,2,5,48,49,50],[]⟩
 | _ => ⟨[],[],[]⟩
def F1211_s1 (N : Nat) (m : List Entry) (n : Node) (r2 : ByteArray × Bool) (r5 : List Int) (s8 : Unit) (i6 : Nat) (x7 : Nat) : Option (Sum (Unit) (Bool)) := bindO (atO (r5 ++ ([0])) (i6 : Int)) fun x9 => bindO (F1222 N m (⟨r2.1,[],(⟨1,x9,[],[],[]⟩ : Val)⟩ : Entry)) fun r10 => iteO (r10.2 == 0) (bindO (F1220 N n r10.1) fun r11 => iteO (r11.2 == 0) (iteO r11.1 (some (.inr true)) (some (.inl ()))) (some (.inl ()))) (some (.inr true))
def F1211_f1  (s8 : Unit) : Option (Bool) := some false
def F1211 (N : Nat) (n : Node) (m : List Entry) : Option (Bool) := bindO (F1213 N) fun r1 => iteO r1 (bindO (F1217 N n) fun r2 => iteO r2.2 (bindO (F27 N n) fun r3 => iteO (decide (r3 > 120)) (some true) (iteO (decide ((m.length : Int) > 30)) (some true) (bindO (F1220 N n m) fun r4 => iteO (r4.2 == 0) (bindO (F1398 N n m ([])) fun r5 => iteO (fits (r5.length + 1) 8) (foldN (S := Unit) (F1211_s1 N m n r2 r5) (F1211_f1) N (List.range ((r5.length : Int) + 1).toNat) 0 ()) (none)) (some true)))) (some true)) (some false)
@[push_cast] def ar5 : Rs (Node × (List Entry)) := rsC rNode (rsO (rL 7 Entry.cells Entry.cells_inj))
@[push_cast] def v5 (r : Bool) : AV := .bool r
@[push_cast] def sh5 : Shp := .one (.leaf none)
noncomputable def t5 (N : Nat) : List AV → Option AV := TL ar5.e fun x => bindO (F1211 N x.1 x.2) fun r => some (v5 r)
@[push_cast] theorem t6_1 {N : Nat}  : t6 N [] = bindO (F1213 N) fun r => some (v6 r) :=
 TL_hit ar6.inj () (by simp only [push_cast] <;> rfl)
@[push_cast] theorem t12_1 {N : Nat} (z1 : Int) (z2 : Int) (z3 : ByteArray) (z4 : Int) (z5 : List Node) : t12 N [.agg [.int .i64 z1,.int .i64 z2,.str z3,.int .i64 z4,.sl false 5 (List.map Node.cells z5)]] = bindO (F1217 N (⟨z1,z2,z3,z4,z5⟩ : Node)) fun r => some (v12 r) :=
 TL_hit ar12.inj (⟨z1,z2,z3,z4,z5⟩ : Node) (by simp only [push_cast] <;> rfl)
@[push_cast] theorem t15_1 {N : Nat} (z1 : Int) (z2 : Int) (z3 : ByteArray) (z4 : Int) (z5 : List Node) (z6 : List Entry) : t15 N [.agg [.int .i64 z1,.int .i64 z2,.str z3,.int .i64 z4,.sl false 5 (List.map Node.cells z5)],.sl false 7 (List.map Entry.cells z6)] = bindO (F1220 N (⟨z1,z2,z3,z4,z5⟩ : Node) z6) fun r => some (v15 r) :=
 TL_hit ar15.inj ((⟨z1,z2,z3,z4,z5⟩ : Node),z6) (by simp only [push_cast] <;> rfl)
@[push_cast] theorem t2000_2 {N : Nat} (z2 : Int) (z3 : Int) (z4 : ByteArray) (z5 : Int) (z6 : List Node) (z7 : List Entry) (z8 : AObj) : lensRun 0 [.app 1,.keep,.keep] (t2000 N) [.sl true 0 [],.agg [.int .i64 z2,.int .i64 z3,.str z4,.int .i64 z5,.sl false 5 (List.map Node.cells z6)],.sl false 7 (List.map Entry.cells z7)] [z8] = bindO (F1398 N (⟨z2,z3,z4,z5,z6⟩ : Node) z7 ([])) fun r => some (.rs 1 3,[z8,.app 1 3 (List.map (cI .i64) r)]) :=
 lens_hit (X := ((Node) × ((List Entry) × (Unit))) × ((List Int) × (Unit))) (F := fun x => F1398 N x.1.1 x.1.2.1 x.2.1) (v := fun x r => v2000 x.1.1 x.1.2.1 x.2.1 r) (so := fun x r => so2000 x.1.1 x.1.2.1 x.2.1 r) (args2 := [.rs 1 1,.agg [.int .i64 z2,.int .i64 z3,.str z4,.int .i64 z5,.sl false 5 (List.map Node.cells z6)],.sl false 7 (List.map Entry.cells z7)]) (σ2 := [z8,.app 1 1 []]) (ras_inj ar2000 st2000) [some 1] (((⟨z2,z3,z4,z5,z6⟩ : Node),(z7,())),([],())) rfl rfl rfl (by (try simp only [push_cast]) <;> rfl) (by (try simp only [push_cast]) <;> rfl) (fun _ => (by (try simp only [push_cast]) <;> rfl)) (fun _ => (by (try simp only [push_cast]) <;> rfl)) (fun _ => rfl)
@[push_cast] theorem t17_1 {N : Nat} (z1 : List Entry) (z2 : ByteArray) (z4 : Int) (z5 : Int) : t17 N [.sl false 7 (List.map Entry.cells z1),.agg [.str z2,.sl true 5 [],.int .i64 z4,.int .i64 z5,.sl true 1 [],.sl true 1 [],.sl true 1 []]] = bindO (F1222 N z1 (⟨z2,[],(⟨z4,z5,[],[],[]⟩ : Val)⟩ : Entry)) fun r => some (v17 r) :=
 TL_hit ar17.inj (z1,(⟨z2,[],(⟨z4,z5,[],[],[]⟩ : Val)⟩ : Entry)) (by simp only [push_cast] <;> rfl)
@[push_cast] theorem t17_2 {N : Nat} (z1 : List Entry) (z2 : ByteArray) (z4 : Int) (z5 : Int) : t17 N [.sl false 7 (List.map Entry.cells z1),.agg [.str z2,.sl false 5 [],.int .i64 z4,.int .i64 z5,.sl false 1 [],.sl false 1 [],.sl false 1 []]] = bindO (F1222 N z1 (⟨z2,[],(⟨z4,z5,[],[],[]⟩ : Val)⟩ : Entry)) fun r => some (v17 r) :=
 TL_hit ar17.inj (z1,(⟨z2,[],(⟨z4,z5,[],[],[]⟩ : Val)⟩ : Entry)) (by simp only [push_cast] <;> rfl)
end Go.Abs.Try
