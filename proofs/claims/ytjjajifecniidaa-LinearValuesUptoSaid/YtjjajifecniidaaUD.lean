import Derived.Test.YtjjajifecniidaaSqW2
import Derived.Test.YtjjajifecniidaaSqCl
namespace Go.Abs.Try
open Go.RowKit
set_option linter.unusedSimpArgs false
set_option linter.unusedVariables false
set_option maxRecDepth 100000
set_option maxHeartbeats 4000000
def cmpS (a b : ByteArray) : Int := Lib.compareBytes a.data.toList b.data.toList
def F79 (a b : ByteArray) : Option Int := some (cmpS a b)
@[push_cast] def ar79 : Rs (ByteArray × ByteArray) := rsC rS (rsO rS)
@[push_cast] def v79 (r : Int) : AV := .int .i64 r
@[push_cast] def sh79 : Shp := .one (.leaf none)
noncomputable def t79 : List AV → Option AV := TL ar79.e fun x => bindO (F79 x.1 x.2) fun r => some (v79 r)
def F162 (x y c : Int) : Option (Int × Int) := iteO (decide (0 ≤ x ∧ 0 ≤ y ∧ 0 ≤ c ∧ c ≤ 1)) (some ((x + y + c) % 18446744073709551616, (x + y + c) / 18446744073709551616)) none
@[push_cast] def ar162 : Rs (Int × Int × Int) := rsC (rI .u64) (rsC (rI .u64) (rsO (rI .u64)))
@[push_cast] def v162 (r : Int × Int) : AV := .tuple [.int .u64 r.1, .int .u64 r.2]
@[push_cast] def sh162 : Shp := .tup [.leaf none, .leaf none]
noncomputable def t162 : List AV → Option AV := TL ar162.e fun x => bindO (F162 x.1 x.2.1 x.2.2) fun r => some (v162 r)
/-! ## 84: quantale/quantaleref01.Two -/
@[push_cast] def H84 : Nat → Hint
  | _ => ⟨[], [], []⟩
def F84 (op : Int) (a : Node) (b : Node) : Option (Node) :=
  some (⟨op, 0, (⟨#[]⟩ : ByteArray), 0, [a, b]⟩ : Node)
@[push_cast] def ar84 : Rs (Int × Node × Node) := rsC (rI .i64) (rsC rNode (rsO rNode))
@[push_cast] def v84 (r : Node) : AV := .agg (Node.cells r)
@[push_cast] def sh84 : Shp := .one (.agg [none, none, none, none, some 5])
noncomputable def t84 : List AV → Option AV := TL ar84.e fun x => bindO (F84 x.1 x.2.1 x.2.2) fun r => some (v84 r)
/-! ## 37: quantale/logic.Size -/
@[push_cast] def H37 : Nat → Hint
  | 0 => ⟨[], [3], []⟩
  | 1 => ⟨[], [3], []⟩
  | _ => ⟨[], [], []⟩
def F37_s1  (s3 : Int) (x2 : Node) : Option (Sum (Int) (Int)) :=
  some (.inl (IntKind.i64.wrap (s3 + 1)))
def F37_f1  (s3 : Int) : Option (Int) :=
  some s3
def F37 (n : Node) : Option (Int) :=
  bindO (walkO n) fun l1 =>
  foldO (S := Int) (F37_s1) (F37_f1) l1 0
@[push_cast] def ar37 : Rs Node := rsO rNode
@[push_cast] def v37 (r : Int) : AV := .int .i64 r
@[push_cast] def sh37 : Shp := .one (.leaf none)
noncomputable def t37 : List AV → Option AV := TL ar37.e fun x => bindO (F37 x) fun r => some (v37 r)
/-! ## 38: quantale/logic.Levels -/
@[push_cast] def H38 : Nat → Hint
  | 0 => ⟨[3, 7, 8, 9], [3], []⟩
  | 1 => ⟨[], [3, 7, 8, 9], []⟩
  | _ => ⟨[], [], []⟩
def F38_s1 (self38 : Node → Option (Int)) (s3 : Int) (i1 : Nat) (x2 : Node) : Option (Sum (Int) (Int)) :=
  bindO (self38 x2) fun r4 =>
  some (.inl (max s3 r4))
def F38_f1  (s3 : Int) : Option (Int) :=
  some (IntKind.i64.wrap (s3 + 1))
def F38b (self38 : Node → Option (Int)) (N : Nat) (n : Node) : Option (Int) :=
  foldN (S := Int) (F38_s1 self38) (F38_f1) N n.kids 0 0
def F38 : Nat → Node → Option (Int)
  | 0 => fun _ => none
  | N + 1 => fun n => F38b (F38 N) N n
@[push_cast] def ar38 : Rs Node := rsO rNode
@[push_cast] def v38 (r : Int) : AV := .int .i64 r
@[push_cast] def sh38 : Shp := .one (.leaf none)
noncomputable def t38 (N : Nat) : List AV → Option AV := TL ar38.e fun x => bindO (F38 N x) fun r => some (v38 r)
noncomputable def ts38 (self38 : Node → Option (Int)) : List AV → Option AV := TL ar38.e fun x => bindO (self38 x) fun r => some (v38 r)
@[push_cast] theorem t38_1 (self38 : Node → Option (Int)) (z1 : Int) (z2 : Int) (z3 : ByteArray) (z4 : Int) (z5 : List Node) : ts38 self38 [.agg [.int .i64 z1, .int .i64 z2, .str z3, .int .i64 z4, .sl false 5 (List.map Node.cells z5)]] = bindO (self38 (⟨z1, z2, z3, z4, z5⟩ : Node)) fun r => some (v38 r) :=
  TL_hit ar38.inj (⟨z1, z2, z3, z4, z5⟩ : Node) (by simp only [push_cast] <;> rfl)
/-! ## 70: quantale/logic.within -/
@[push_cast] def H70 : Nat → Hint
  | _ => ⟨[], [], []⟩
def F70 (N : Nat) (n : Node) : Option (Bool) :=
  bindO (F37 n) fun r1 =>
  iteO (decide (r1 ≤ 4000))
  (bindO (F38 N n) fun r2 =>
    some (decide (r2 ≤ 100)))
  (some false)
@[push_cast] def ar70 : Rs Node := rsO rNode
@[push_cast] def v70 (r : Bool) : AV := .bool r
@[push_cast] def sh70 : Shp := .one (.leaf none)
noncomputable def t70 (N : Nat) : List AV → Option AV := TL ar70.e fun x => bindO (F70 N x) fun r => some (v70 r)
@[push_cast] theorem t37_1 (z1 : Int) (z2 : Int) (z3 : ByteArray) (z4 : Int) (z5 : List Node) : t37 [.agg [.int .i64 z1, .int .i64 z2, .str z3, .int .i64 z4, .sl false 5 (List.map Node.cells z5)]] = bindO (F37 (⟨z1, z2, z3, z4, z5⟩ : Node)) fun r => some (v37 r) :=
  TL_hit ar37.inj (⟨z1, z2, z3, z4, z5⟩ : Node) (by simp only [push_cast] <;> rfl)
@[push_cast] theorem t38_2 {N : Nat} (z1 : Int) (z2 : Int) (z3 : ByteArray) (z4 : Int) (z5 : List Node) : t38 N [.agg [.int .i64 z1, .int .i64 z2, .str z3, .int .i64 z4, .sl false 5 (List.map Node.cells z5)]] = bindO (F38 N (⟨z1, z2, z3, z4, z5⟩ : Node)) fun r => some (v38 r) :=
  TL_hit ar38.inj (⟨z1, z2, z3, z4, z5⟩ : Node) (by simp only [push_cast] <;> rfl)
/-! ## 73: quantale/logic.letter -/
@[push_cast] def H73 : Nat → Hint
  | _ => ⟨[], [], []⟩
def F73 (c : Int) : Option (Bool) :=
  iteO (decide (c ≥ 97))
  (iteO (decide (c ≤ 122))
    (some true)
    (iteO (decide (c ≥ 65))
      (some (decide (c ≤ 90)))
      (some false)))
  (iteO (decide (c ≥ 65))
    (some (decide (c ≤ 90)))
    (some false))
@[push_cast] def ar73 : Rs Int := rsO (rI .u8)
@[push_cast] def v73 (r : Bool) : AV := .bool r
@[push_cast] def sh73 : Shp := .one (.leaf none)
noncomputable def t73 : List AV → Option AV := TL ar73.e fun x => bindO (F73 x) fun r => some (v73 r)
/-! ## 74: quantale/logic.word -/
@[push_cast] def H74 : Nat → Hint
  | _ => ⟨[], [], []⟩
def F74 (s : ByteArray) : Option (Bool) :=
  iteO (s.toList == (⟨#[116, 114, 117, 101]⟩ : ByteArray).toList)
  (some true)
  (iteO (s.toList == (⟨#[102, 97, 108, 115, 101]⟩ : ByteArray).toList)
    (some true)
    (iteO (s.toList == (⟨#[105, 110]⟩ : ByteArray).toList)
      (some true)
      (iteO (s.toList == (⟨#[115, 117, 98]⟩ : ByteArray).toList)
        (some true)
        (iteO (s.toList == (⟨#[101, 109, 112, 116, 121]⟩ : ByteArray).toList)
          (some true)
          (iteO (s.toList == (⟨#[115, 105, 110, 103]⟩ : ByteArray).toList)
            (some true)
            (iteO (s.toList == (⟨#[99, 117, 112]⟩ : ByteArray).toList)
              (some true)
              (iteO (s.toList == (⟨#[99, 97, 112]⟩ : ByteArray).toList)
                (some true)
                (iteO (s.toList == (⟨#[100, 105, 102, 102]⟩ : ByteArray).toList)
                  (some true)
                  (iteO (s.toList == (⟨#[115, 101, 108]⟩ : ByteArray).toList)
                    (some true)
                    (iteO (s.toList == (⟨#[115, 116, 111]⟩ : ByteArray).toList)
                      (some true)
                      (iteO (s.toList == (⟨#[118, 108, 101, 110]⟩ : ByteArray).toList)
                        (some true)
                        (iteO (s.toList == (⟨#[105, 116, 101]⟩ : ByteArray).toList)
                          (some true)
                          (some false)))))))))))))
@[push_cast] def ar74 : Rs ByteArray := rsO rS
@[push_cast] def v74 (r : Bool) : AV := .bool r
@[push_cast] def sh74 : Shp := .one (.leaf none)
noncomputable def t74 : List AV → Option AV := TL ar74.e fun x => bindO (F74 x) fun r => some (v74 r)
/-! ## 16: quantale/logic.Name -/
@[push_cast] def H16 : Nat → Hint
  | 0 => ⟨[0, 24, 25], [], []⟩
  | 1 => ⟨[], [0, 24, 25], []⟩
  | _ => ⟨[], [], []⟩
def F16_s1 (s : ByteArray) (s5 : Unit) (i3 : Nat) (x4 : Nat) : Option (Sum (Unit) (Bool)) :=
  bindO (F73 (bt s (i3 : Int))) fun r6 =>
  iteO r6
  (some (.inl ()))
  (iteO (decide ((bt s (i3 : Int)) < 48))
    (iteO ((bt s (i3 : Int)) == 46)
      (some (.inl ()))
      (some (.inr false)))
    (iteO (decide ((bt s (i3 : Int)) > 57))
      (iteO ((bt s (i3 : Int)) == 46)
        (some (.inl ()))
        (some (.inr false)))
      (some (.inl ()))))
def F16_f1  (s5 : Unit) : Option (Bool) :=
  some true
def F16 (N : Nat) (s : ByteArray) : Option (Bool) :=
  iteO (decide ((s.size : Int) < 1))
  (some false)
  (iteO (decide ((s.size : Int) > 24))
    (some false)
    (iteO (inB 0 s.size)
      (bindO (F73 (bt s 0)) fun r1 =>
        iteO r1
        (bindO (F74 s) fun r2 =>
          iteO r2
          (some false)
          (foldN (S := Unit) (F16_s1 s) (F16_f1) N (List.range s.size) 0 ()))
        (some false))
      (none)))
@[push_cast] def ar16 : Rs ByteArray := rsO rS
@[push_cast] def v16 (r : Bool) : AV := .bool r
@[push_cast] def sh16 : Shp := .one (.leaf none)
noncomputable def t16 (N : Nat) : List AV → Option AV := TL ar16.e fun x => bindO (F16 N x) fun r => some (v16 r)
@[push_cast] theorem t73_1 (z1 : Int) : t73 [.int .u8 z1] = bindO (F73 z1) fun r => some (v73 r) :=
  TL_hit ar73.inj z1 (by simp only [push_cast] <;> rfl)
@[push_cast] theorem t74_1 (z1 : ByteArray) : t74 [.str z1] = bindO (F74 z1) fun r => some (v74 r) :=
  TL_hit ar74.inj z1 (by simp only [push_cast] <;> rfl)
/-! ## 116: quantale/logic.fields -/
@[push_cast] def H116 : Nat → Hint
  | 0 => ⟨[], [1], []⟩
  | _ => ⟨[], [], []⟩
def F116 (N : Nat) (n : Node) : Option (Bool) :=
  iteO (n.op == 1)
  (bindO (F16 N n.name) fun r2 =>
    iteO r2
    (iteO (decide (n.sortf < 1))
      (some false)
      (iteO (decide (n.sortf > 5))
        (some false)
        (iteO (n.op == 2)
          (iteO (decide (n.num ≥ (-1000000000000)))
            (some (decide (n.num ≤ 1000000000000)))
            (some false))
          (iteO (n.op == 7)
            (iteO (decide (n.num ≥ (-1000000000000)))
              (some (decide (n.num ≤ 1000000000000)))
              (some false))
            (iteO (n.op == 42)
              (iteO (decide (n.num ≥ 0))
                (some (decide (n.num < 200)))
                (some false))
              (some (n.num == 0)))))))
    (some false))
  (bindO (F16 N n.name) fun r1 =>
    iteO ((n.op == 3) == r1)
    (iteO (n.op == 3)
      (iteO (decide (n.sortf < 1))
        (some false)
        (iteO (decide (n.sortf > 5))
          (some false)
          (iteO (n.op == 2)
            (iteO (decide (n.num ≥ (-1000000000000)))
              (some (decide (n.num ≤ 1000000000000)))
              (some false))
            (iteO (n.op == 7)
              (iteO (decide (n.num ≥ (-1000000000000)))
                (some (decide (n.num ≤ 1000000000000)))
                (some false))
              (iteO (n.op == 42)
                (iteO (decide (n.num ≥ 0))
                  (some (decide (n.num < 200)))
                  (some false))
                (some (n.num == 0)))))))
      (iteO (n.name.toList == (⟨#[]⟩ : ByteArray).toList)
        (iteO (n.sortf == 0)
          (iteO (n.op == 2)
            (iteO (decide (n.num ≥ (-1000000000000)))
              (some (decide (n.num ≤ 1000000000000)))
              (some false))
            (iteO (n.op == 7)
              (iteO (decide (n.num ≥ (-1000000000000)))
                (some (decide (n.num ≤ 1000000000000)))
                (some false))
              (iteO (n.op == 42)
                (iteO (decide (n.num ≥ 0))
                  (some (decide (n.num < 200)))
                  (some false))
                (some (n.num == 0)))))
          (some false))
        (some false)))
    (some false))
@[push_cast] def ar116 : Rs Node := rsO rNode
@[push_cast] def v116 (r : Bool) : AV := .bool r
@[push_cast] def sh116 : Shp := .one (.leaf none)
noncomputable def t116 (N : Nat) : List AV → Option AV := TL ar116.e fun x => bindO (F116 N x) fun r => some (v116 r)
@[push_cast] theorem t16_1 {N : Nat} (z1 : ByteArray) : t16 N [.str z1] = bindO (F16 N z1) fun r => some (v16 r) :=
  TL_hit ar16.inj z1 (by simp only [push_cast] <;> rfl)
/-! ## 36: quantale/logic.Sort -/
@[push_cast] def H36 : Nat → Hint
  | 0 => ⟨[1], [1], []⟩
  | 1 => ⟨[], [1], []⟩
  | 2 => ⟨[], [1], []⟩
  | _ => ⟨[], [], []⟩
def F36_s1  (s1 : Int × Int × ByteArray × Int × (List Node)) : Option (Sum (Int × Int × ByteArray × Int × (List Node)) (Int)) :=
  iteO (s1.1 == 8)
  (iteO (decide ((s1.2.2.2.2.length : Int) < 2))
    (some (.inr 0))
    (bindO (atO s1.2.2.2.2 1) fun x2 =>
      some (.inl (x2.op, x2.sortf, x2.name, x2.num, x2.kids))))
  (iteO (s1.1 == 1)
    (some (.inr s1.2.1))
    (iteO (s1.1 == 3)
      (some (.inr s1.2.1))
      (iteO (s1.1 == 2)
        (some (.inr 1))
        (iteO (s1.1 == 4)
          (some (.inr 1))
          (iteO (s1.1 == 5)
            (some (.inr 1))
            (iteO (s1.1 == 6)
              (some (.inr 1))
              (iteO (s1.1 == 7)
                (some (.inr 1))
                (iteO (s1.1 == 14)
                  (some (.inr 1))
                  (iteO (s1.1 == 16)
                    (some (.inr 1))
                    (iteO (s1.1 == 9)
                      (some (.inr 4))
                      (iteO (s1.1 == 10)
                        (some (.inr 4))
                        (iteO (s1.1 == 11)
                          (some (.inr 4))
                          (iteO (s1.1 == 12)
                            (some (.inr 4))
                            (iteO (s1.1 == 13)
                              (some (.inr 4))
                              (iteO (s1.1 == 15)
                                (some (.inr 5))
                                (iteO (decide (s1.1 ≥ 30))
                                  (iteO (decide (s1.1 ≤ 42))
                                    (some (.inr 2))
                                    (some (.inr 0)))
                                  (some (.inr 0))))))))))))))))))
def F36 (N : Nat) (n : Node) : Option (Int) :=
  whileN (S := Int × Int × ByteArray × Int × (List Node)) (F36_s1) N (n.op, n.sortf, n.name, n.num, n.kids)
@[push_cast] def ar36 : Rs Node := rsO rNode
@[push_cast] def v36 (r : Int) : AV := .int .i64 r
@[push_cast] def sh36 : Shp := .one (.leaf none)
noncomputable def t36 (N : Nat) : List AV → Option AV := TL ar36.e fun x => bindO (F36 N x) fun r => some (v36 r)
/-! ## 153: quantale/logic.takes -/
@[push_cast] def H153 : Nat → Hint
  | _ => ⟨[], [], []⟩
def F153 (op : Int) : Option ((List Int) × Bool) :=
  iteO (op == 2)
  (some ([], true))
  (iteO (op == 9)
    (some ([], true))
    (iteO (op == 30)
      (some ([], true))
      (iteO (op == 31)
        (some ([], true))
        (iteO (op == 1)
          (some ([], true))
          (iteO (op == 4)
            (some ([1, 1], true))
            (iteO (op == 5)
              (some ([1, 1], true))
              (iteO (op == 38)
                (some ([1, 1], true))
                (iteO (op == 39)
                  (some ([1, 1], true))
                  (iteO (op == 6)
                    (some ([1], true))
                    (iteO (op == 7)
                      (some ([1], true))
                      (iteO (op == 10)
                        (some ([1], true))
                        (iteO (op == 11)
                          (some ([4, 4], true))
                          (iteO (op == 12)
                            (some ([4, 4], true))
                            (iteO (op == 13)
                              (some ([4, 4], true))
                              (iteO (op == 41)
                                (some ([4, 4], true))
                                (iteO (op == 40)
                                  (some ([1, 4], true))
                                  (iteO (op == 14)
                                    (some ([5, 1], true))
                                    (iteO (op == 15)
                                      (some ([5, 1, 1], true))
                                      (iteO (op == 16)
                                        (some ([5], true))
                                        (iteO (op == 32)
                                          (some ([2], true))
                                          (iteO (op == 33)
                                            (some ([2, 2], true))
                                            (iteO (op == 34)
                                              (some ([2, 2], true))
                                              (iteO (op == 35)
                                                (some ([2, 2], true))
                                                (iteO (op == 36)
                                                  (some ([2, 2], true))
                                                  (some ([], false))))))))))))))))))))))))))
@[push_cast] def ar153 : Rs Int := rsO (rI .i64)
@[push_cast] def v153 (r : (List Int) × Bool) : AV := .tuple [.sl false 1 (List.map (cI .i64) r.1), .bool r.2]
@[push_cast] def sh153 : Shp := .tup [.leaf (some 1), .leaf none]
noncomputable def t153 : List AV → Option AV := TL ar153.e fun x => bindO (F153 x) fun r => some (v153 r)
/-! ## 154: slices.Equal[[]int,int] -/
@[push_cast] def H154 : Nat → Hint
  | 0 => ⟨[0, 1, 12, 13], [], []⟩
  | 1 => ⟨[], [0, 1, 12, 13], []⟩
  | _ => ⟨[], [], []⟩
def F154_s1 (s2q : List Int) (s3 : Unit) (i1 : Nat) (x2 : Int) : Option (Sum (Unit) (Bool)) :=
  bindO (atO s2q (i1 : Int)) fun x4 =>
  iteO (x2 == x4)
  (some (.inl ()))
  (some (.inr false))
def F154_f1  (s3 : Unit) : Option (Bool) :=
  some true
def F154 (N : Nat) (s1q : List Int) (s2q : List Int) : Option (Bool) :=
  iteO ((s1q.length : Int) == (s2q.length : Int))
  (foldN (S := Unit) (F154_s1 s2q) (F154_f1) N s1q 0 ())
  (some false)
@[push_cast] def ar154 : Rs ((List Int) × (List Int)) := rsC (rL 1 (cI .i64) (cI_inj .i64)) (rsO (rL 1 (cI .i64) (cI_inj .i64)))
@[push_cast] def v154 (r : Bool) : AV := .bool r
@[push_cast] def sh154 : Shp := .one (.leaf none)
noncomputable def t154 (N : Nat) : List AV → Option AV := TL ar154.e fun x => bindO (F154 N x.1 x.2) fun r => some (v154 r)
/-! ## 117: quantale/logic.shape -/
@[push_cast] def H117 : Nat → Hint
  | 0 => ⟨[1, 3, 14, 15, 16], [1, 3], []⟩
  | 1 => ⟨[], [1, 3, 14, 15, 16], []⟩
  | _ => ⟨[], [], []⟩
@[push_cast] def H155 : Nat → Hint
  | _ => ⟨[], [], []⟩
def F117_s1 (N : Nat) (s3 : List Int) (i1 : Nat) (x2 : Node) : Option (Sum (List Int) (Bool)) :=
  bindO (F36 N x2) fun r4 =>
  bindO (atO s3 (i1 : Int)) fun x5 =>
  some (.inl (s3.set i1 r4))
def F117_f1 (N : Nat) (n : Node) (s3 : List Int) : Option (Bool) :=
  bindO (F153 n.op) fun r6 =>
  iteO r6.2
  (bindO (F154 N s3 r6.1) fun r7 =>
    some r7)
  (iteO (n.op == 8)
    (iteO (((s3.length : Int)) == 3)
      (bindO (atO s3 0) fun x8 =>
        iteO (x8 == 2)
        (bindO (atO s3 1) fun x9 =>
          bindO (atO s3 2) fun x10 =>
          iteO (x9 == x10)
          (iteO (x9 == 1)
            (some true)
            (some (decide (x9 ≥ 3))))
          (some false))
        (some false))
      (some false))
    (iteO (n.op == 37)
      (iteO (((s3.length : Int)) == 2)
        (bindO (atO s3 0) fun x11 =>
          bindO (atO s3 1) fun x12 =>
          iteO (x11 == x12)
          (iteO (x11 == 1)
            (some true)
            (some (decide (x11 ≥ 3))))
          (some false))
        (some false))
      (iteO (n.op == 3)
        (some (decide (((s3.length : Int)) ≤ 8)))
        (iteO (n.op == 42)
          (iteO (decide (((s3.length : Int)) ≥ 1))
            (some (decide (((s3.length : Int)) ≤ 40)))
            (some false))
          (some false)))))
def F117 (N : Nat) (n : Node) : Option (Bool) :=
  iteO (decide (0 ≤ (n.kids.length : Int) ∧ (n.kids.length : Int) ≤ (n.kids.length : Int) ∧ (n.kids.length : Int) * 8 ≤ 140737488355328 ∧ (n.kids.length : Int) ≤ 9223372036854775807))
  (foldN (S := List Int) (F117_s1 N) (F117_f1 N n) N n.kids 0 (List.replicate n.kids.length 0))
  (none)
@[push_cast] def ar117 : Rs Node := rsO rNode
@[push_cast] def v117 (r : Bool) : AV := .bool r
@[push_cast] def sh117 : Shp := .one (.leaf none)
noncomputable def t117 (N : Nat) : List AV → Option AV := TL ar117.e fun x => bindO (F117 N x) fun r => some (v117 r)
@[push_cast] theorem t36_1 {N : Nat} (z1 : Int) (z2 : Int) (z3 : ByteArray) (z4 : Int) (z5 : List Node) : t36 N [.agg [.int .i64 z1, .int .i64 z2, .str z3, .int .i64 z4, .sl false 5 (List.map Node.cells z5)]] = bindO (F36 N (⟨z1, z2, z3, z4, z5⟩ : Node)) fun r => some (v36 r) :=
  TL_hit ar36.inj (⟨z1, z2, z3, z4, z5⟩ : Node) (by simp only [push_cast] <;> rfl)
@[push_cast] theorem t153_1 (z1 : Int) : t153 [.int .i64 z1] = bindO (F153 z1) fun r => some (v153 r) :=
  TL_hit ar153.inj z1 (by simp only [push_cast] <;> rfl)
@[push_cast] theorem t154_1 {N : Nat} (z1 : List Int) (z2 : List Int) : t154 N [.sl false 1 (List.map (cI .i64) z1), .sl false 1 (List.map (cI .i64) z2)] = bindO (F154 N z1 z2) fun r => some (v154 r) :=
  TL_hit ar154.inj (z1, z2) (by simp only [push_cast] <;> rfl)
/-! ## 71: quantale/logic.sorted -/
@[push_cast] def H71 : Nat → Hint
  | 0 => ⟨[], [2], []⟩
  | 1 => ⟨[], [2], []⟩
  | _ => ⟨[], [], []⟩
def F71_s1 (N : Nat) (s3 : Unit) (x2 : Node) : Option (Sum (Unit) (Bool)) :=
  bindO (F116 N x2) fun r4 =>
  iteO r4
  (bindO (F117 N x2) fun r5 =>
    iteO r5
    (some (.inl ()))
    (some (.inr false)))
  (some (.inr false))
def F71_f1  (s3 : Unit) : Option (Bool) :=
  some true
def F71 (N : Nat) (n : Node) : Option (Bool) :=
  bindO (walkO n) fun l1 =>
  foldO (S := Unit) (F71_s1 N) (F71_f1) l1 ()
@[push_cast] def ar71 : Rs Node := rsO rNode
@[push_cast] def v71 (r : Bool) : AV := .bool r
@[push_cast] def sh71 : Shp := .one (.leaf none)
noncomputable def t71 (N : Nat) : List AV → Option AV := TL ar71.e fun x => bindO (F71 N x) fun r => some (v71 r)
@[push_cast] theorem t116_1 {N : Nat} (z1 : Int) (z2 : Int) (z3 : ByteArray) (z4 : Int) (z5 : List Node) : t116 N [.agg [.int .i64 z1, .int .i64 z2, .str z3, .int .i64 z4, .sl false 5 (List.map Node.cells z5)]] = bindO (F116 N (⟨z1, z2, z3, z4, z5⟩ : Node)) fun r => some (v116 r) :=
  TL_hit ar116.inj (⟨z1, z2, z3, z4, z5⟩ : Node) (by simp only [push_cast] <;> rfl)
@[push_cast] theorem t117_1 {N : Nat} (z1 : Int) (z2 : Int) (z3 : ByteArray) (z4 : Int) (z5 : List Node) : t117 N [.agg [.int .i64 z1, .int .i64 z2, .str z3, .int .i64 z4, .sl false 5 (List.map Node.cells z5)]] = bindO (F117 N (⟨z1, z2, z3, z4, z5⟩ : Node)) fun r => some (v117 r) :=
  TL_hit ar117.inj (⟨z1, z2, z3, z4, z5⟩ : Node) (by simp only [push_cast] <;> rfl)
/-! ## 40: quantale/logic.Uniform -/
@[push_cast] def H40 : Nat → Hint
  | 0 => ⟨[], [2], []⟩
  | 1 => ⟨[], [2, 3], []⟩
  | _ => ⟨[], [], []⟩
def F40_s1  (s3 : ByteArray → Option Int) (x2 : Node) : Option (Sum (ByteArray → Option Int) (Bool)) :=
  iteO (x2.op == 3)
  (optO (s3 x2.name) (fun m4 =>
    iteO ((x2.kids.length : Int) == 0)
      (iteO (m4 == (-4611686018427387904))
        (iteO (x2.op == 1)
          (some (.inr false))
          (some (.inl (putM s3 x2.name (-4611686018427387904)))))
        (some (.inr false)))
      (iteO (x2.op == 1)
        (iteO (m4 == (-4611686018427387904))
          (some (.inr false))
          (optO (s3 x2.name) (fun m5 =>
            iteO (m5 == x2.sortf)
              (some (.inl (putM s3 x2.name x2.sortf)))
              (some (.inr false)))
            (some (.inl (putM s3 x2.name x2.sortf)))))
        (some (.inl s3))))
    (iteO ((x2.kids.length : Int) == 0)
      (iteO (x2.op == 1)
        (optO ((putM s3 x2.name (-4611686018427387904)) x2.name) (fun m6 =>
          iteO (m6 == x2.sortf)
            (some (.inl (putM (putM s3 x2.name (-4611686018427387904)) x2.name x2.sortf)))
            (some (.inr false)))
          (some (.inl (putM (putM s3 x2.name (-4611686018427387904)) x2.name x2.sortf))))
        (some (.inl (putM s3 x2.name (-4611686018427387904)))))
      (iteO (x2.op == 1)
        (optO (s3 x2.name) (fun m7 =>
          iteO (m7 == x2.sortf)
            (some (.inl (putM s3 x2.name x2.sortf)))
            (some (.inr false)))
          (some (.inl (putM s3 x2.name x2.sortf))))
        (some (.inl s3)))))
  (optO (s3 x2.name) (fun m8 =>
    iteO (x2.op == 1)
      (iteO (m8 == (-4611686018427387904))
        (some (.inr false))
        (optO (s3 x2.name) (fun m9 =>
          iteO (m9 == x2.sortf)
            (some (.inl (putM s3 x2.name x2.sortf)))
            (some (.inr false)))
          (some (.inl (putM s3 x2.name x2.sortf)))))
      (some (.inl s3)))
    (iteO (x2.op == 1)
      (optO (s3 x2.name) (fun m10 =>
        iteO (m10 == x2.sortf)
          (some (.inl (putM s3 x2.name x2.sortf)))
          (some (.inr false)))
        (some (.inl (putM s3 x2.name x2.sortf))))
      (some (.inl s3))))
def F40_f1  (s3 : ByteArray → Option Int) : Option (Bool) :=
  some true
def F40 (n : Node) : Option (Bool) :=
  bindO (walkO n) fun l1 =>
  foldO (S := ByteArray → Option Int) (F40_s1) (F40_f1) l1 (fun _ => none)
@[push_cast] def ar40 : Rs Node := rsO rNode
@[push_cast] def v40 (r : Bool) : AV := .bool r
@[push_cast] def sh40 : Shp := .one (.leaf none)
noncomputable def t40 : List AV → Option AV := TL ar40.e fun x => bindO (F40 x) fun r => some (v40 r)
theorem mk98 {E : Env} {fr : Fr} {σ : Store} {t : Nat} (hty : E.ty = tys) : run (aOp E fr σ t (.makeMap 98 none)) = newObj σ (.map .string (mS (evI .i64) fun _ => none)) (.map σ.length) := by
  rw [r_makeMap, hty, ← mS_empty (evI .i64)]
  simp only [push_cast, ty98, ty9]
  rfl
/-! ## 14: quantale/logic.Check -/
@[push_cast] def H14 : Nat → Hint
  | _ => ⟨[], [], []⟩
def F14 (N : Nat) (n : Node) (sortq : Int) : Option (Int) :=
  iteO (decide (sortq < 0))
  (some 1)
  (iteO (decide (sortq > 5))
    (some 1)
    (bindO (F70 N n) fun r1 =>
      iteO r1
      (bindO (F71 N n) fun r2 =>
        iteO r2
        (bindO (F40 n) fun r3 =>
          iteO r3
          (iteO (sortq == 0)
            (some 0)
            (bindO (F36 N n) fun r4 =>
              iteO (r4 == sortq)
              (some 0)
              (some 10)))
          (some 3))
        (some 3))
      (some 2)))
@[push_cast] def ar14 : Rs (Node × Int) := rsC rNode (rsO (rI .i64))
@[push_cast] def v14 (r : Int) : AV := .int .i64 r
@[push_cast] def sh14 : Shp := .one (.leaf none)
noncomputable def t14 (N : Nat) : List AV → Option AV := TL ar14.e fun x => bindO (F14 N x.1 x.2) fun r => some (v14 r)
@[push_cast] theorem t70_1 {N : Nat} (z1 : Int) (z2 : Int) (z3 : ByteArray) (z4 : Int) (z5 : List Node) : t70 N [.agg [.int .i64 z1, .int .i64 z2, .str z3, .int .i64 z4, .sl false 5 (List.map Node.cells z5)]] = bindO (F70 N (⟨z1, z2, z3, z4, z5⟩ : Node)) fun r => some (v70 r) :=
  TL_hit ar70.inj (⟨z1, z2, z3, z4, z5⟩ : Node) (by simp only [push_cast] <;> rfl)
@[push_cast] theorem t71_1 {N : Nat} (z1 : Int) (z2 : Int) (z3 : ByteArray) (z4 : Int) (z5 : List Node) : t71 N [.agg [.int .i64 z1, .int .i64 z2, .str z3, .int .i64 z4, .sl false 5 (List.map Node.cells z5)]] = bindO (F71 N (⟨z1, z2, z3, z4, z5⟩ : Node)) fun r => some (v71 r) :=
  TL_hit ar71.inj (⟨z1, z2, z3, z4, z5⟩ : Node) (by simp only [push_cast] <;> rfl)
@[push_cast] theorem t40_1 (z1 : Int) (z2 : Int) (z3 : ByteArray) (z4 : Int) (z5 : List Node) : t40 [.agg [.int .i64 z1, .int .i64 z2, .str z3, .int .i64 z4, .sl false 5 (List.map Node.cells z5)]] = bindO (F40 (⟨z1, z2, z3, z4, z5⟩ : Node)) fun r => some (v40 r) :=
  TL_hit ar40.inj (⟨z1, z2, z3, z4, z5⟩ : Node) (by simp only [push_cast] <;> rfl)
/-! ## 112: quantale/linear.fits -/
@[push_cast] def H112 : Nat → Hint
  | _ => ⟨[], [], []⟩
def F112 (x : Int) : Option (Bool) :=
  iteO (decide (x ≥ (-9007199254740992)))
  (some (decide (x ≤ 9007199254740992)))
  (some false)
@[push_cast] def ar112 : Rs Int := rsO (rI .i64)
@[push_cast] def v112 (r : Bool) : AV := .bool r
@[push_cast] def sh112 : Shp := .one (.leaf none)
noncomputable def t112 : List AV → Option AV := TL ar112.e fun x => bindO (F112 x) fun r => some (v112 r)
/-! ## 161: math/bits.Mul64 -/
@[push_cast] def H161 : Nat → Hint
  | _ => ⟨[], [], []⟩
def F161 (x : Int) (y : Int) : Option (Int × Int) :=
  some (IntKind.u64.wrap ((IntKind.u64.wrap ((IntKind.u64.wrap ((x.fdiv (2 ^ (min (32 : Int).toNat (IntKind.u64).bits))) * (y.fdiv (2 ^ (min (32 : Int).toNat (IntKind.u64).bits))))) + ((IntKind.u64.wrap ((IntKind.u64.wrap ((x.fdiv (2 ^ (min (32 : Int).toNat (IntKind.u64).bits))) * (IntKind.u64.wrap ((BitVec.ofInt (IntKind.u64).bits y &&& BitVec.ofInt (IntKind.u64).bits 4294967295).toNat)))) + ((IntKind.u64.wrap ((IntKind.u64.wrap ((BitVec.ofInt (IntKind.u64).bits x &&& BitVec.ofInt (IntKind.u64).bits 4294967295).toNat)) * (IntKind.u64.wrap ((BitVec.ofInt (IntKind.u64).bits y &&& BitVec.ofInt (IntKind.u64).bits 4294967295).toNat)))).fdiv (2 ^ (min (32 : Int).toNat (IntKind.u64).bits))))).fdiv (2 ^ (min (32 : Int).toNat (IntKind.u64).bits))))) + ((IntKind.u64.wrap ((IntKind.u64.wrap ((BitVec.ofInt (IntKind.u64).bits (IntKind.u64.wrap ((IntKind.u64.wrap ((x.fdiv (2 ^ (min (32 : Int).toNat (IntKind.u64).bits))) * (IntKind.u64.wrap ((BitVec.ofInt (IntKind.u64).bits y &&& BitVec.ofInt (IntKind.u64).bits 4294967295).toNat)))) + ((IntKind.u64.wrap ((IntKind.u64.wrap ((BitVec.ofInt (IntKind.u64).bits x &&& BitVec.ofInt (IntKind.u64).bits 4294967295).toNat)) * (IntKind.u64.wrap ((BitVec.ofInt (IntKind.u64).bits y &&& BitVec.ofInt (IntKind.u64).bits 4294967295).toNat)))).fdiv (2 ^ (min (32 : Int).toNat (IntKind.u64).bits))))) &&& BitVec.ofInt (IntKind.u64).bits 4294967295).toNat)) + (IntKind.u64.wrap ((IntKind.u64.wrap ((BitVec.ofInt (IntKind.u64).bits x &&& BitVec.ofInt (IntKind.u64).bits 4294967295).toNat)) * (y.fdiv (2 ^ (min (32 : Int).toNat (IntKind.u64).bits))))))).fdiv (2 ^ (min (32 : Int).toNat (IntKind.u64).bits)))), IntKind.u64.wrap (x * y))
@[push_cast] def ar161 : Rs (Int × Int) := rsC (rI .u64) (rsO (rI .u64))
@[push_cast] def v161 (r : Int × Int) : AV := .tuple [.int .u64 r.1, .int .u64 r.2]
@[push_cast] def sh161 : Shp := .tup [.leaf none, .leaf none]
noncomputable def t161 : List AV → Option AV := TL ar161.e fun x => bindO (F161 x.1 x.2) fun r => some (v161 r)
/-! ## 128: (quantale/linear.sum).plus -/
@[push_cast] def H128 : Nat → Hint
  | _ => ⟨[], [], []⟩
def F128 (s : LinearSum) (a : Int) (b : Int) : Option (LinearSum) :=
  bindO (F161 (IntKind.u64.wrap (a)) (IntKind.u64.wrap (b))) fun r1 =>
  iteO (decide (a < 0))
  (iteO (decide (b < 0))
    (bindO (F162 s.linearSumLo r1.2 0) fun r2 =>
      bindO (F162 (IntKind.u64.wrap (s.linearSumHi)) (IntKind.u64.wrap ((IntKind.u64.wrap (r1.1 - (IntKind.u64.wrap (b)))) - (IntKind.u64.wrap (a)))) r2.2) fun r3 =>
      some (⟨IntKind.i64.wrap (r3.1), r2.1⟩ : LinearSum))
    (bindO (F162 s.linearSumLo r1.2 0) fun r4 =>
      bindO (F162 (IntKind.u64.wrap (s.linearSumHi)) (IntKind.u64.wrap (r1.1 - (IntKind.u64.wrap (b)))) r4.2) fun r5 =>
      some (⟨IntKind.i64.wrap (r5.1), r4.1⟩ : LinearSum)))
  (iteO (decide (b < 0))
    (bindO (F162 s.linearSumLo r1.2 0) fun r6 =>
      bindO (F162 (IntKind.u64.wrap (s.linearSumHi)) (IntKind.u64.wrap (r1.1 - (IntKind.u64.wrap (a)))) r6.2) fun r7 =>
      some (⟨IntKind.i64.wrap (r7.1), r6.1⟩ : LinearSum))
    (bindO (F162 s.linearSumLo r1.2 0) fun r8 =>
      bindO (F162 (IntKind.u64.wrap (s.linearSumHi)) r1.1 r8.2) fun r9 =>
      some (⟨IntKind.i64.wrap (r9.1), r8.1⟩ : LinearSum)))
@[push_cast] def ar128 : Rs (LinearSum × Int × Int) := rsC rLinearSum (rsC (rI .i64) (rsO (rI .i64)))
@[push_cast] def v128 (r : LinearSum) : AV := .agg (LinearSum.cells r)
@[push_cast] def sh128 : Shp := .one (.agg [none, none])
noncomputable def t128 : List AV → Option AV := TL ar128.e fun x => bindO (F128 x.1 x.2.1 x.2.2) fun r => some (v128 r)
@[push_cast] theorem t161_1 (z1 : Int) (z2 : Int) : t161 [.int .u64 z1, .int .u64 z2] = bindO (F161 z1 z2) fun r => some (v161 r) :=
  TL_hit ar161.inj (z1, z2) (by simp only [push_cast] <;> rfl)
@[push_cast] theorem t162_1 (z1 : Int) (z2 : Int) (z3 : Int) : t162 [.int .u64 z1, .int .u64 z2, .int .u64 z3] = bindO (F162 z1 z2 z3) fun r => some (v162 r) :=
  TL_hit ar162.inj (z1, z2, z3) (by simp only [push_cast] <;> rfl)
/-! ## 129: (quantale/linear.sum).number -/
@[push_cast] def H129 : Nat → Hint
  | _ => ⟨[], [], []⟩
def F129 (s : LinearSum) : Option (Int × Bool) :=
  iteO (decide ((IntKind.i64.wrap (s.linearSumLo)) < 0))
  (iteO (s.linearSumHi == (-1))
    (iteO (decide ((IntKind.i64.wrap (s.linearSumLo)) ≥ 0))
      (iteO (s.linearSumHi == 0)
        (bindO (F112 (IntKind.i64.wrap (s.linearSumLo))) fun r1 =>
          some (IntKind.i64.wrap (s.linearSumLo), r1))
        (some (0, false)))
      (bindO (F112 (IntKind.i64.wrap (s.linearSumLo))) fun r2 =>
        some (IntKind.i64.wrap (s.linearSumLo), r2)))
    (some (0, false)))
  (iteO (decide ((IntKind.i64.wrap (s.linearSumLo)) ≥ 0))
    (iteO (s.linearSumHi == 0)
      (bindO (F112 (IntKind.i64.wrap (s.linearSumLo))) fun r3 =>
        some (IntKind.i64.wrap (s.linearSumLo), r3))
      (some (0, false)))
    (bindO (F112 (IntKind.i64.wrap (s.linearSumLo))) fun r4 =>
      some (IntKind.i64.wrap (s.linearSumLo), r4)))
@[push_cast] def ar129 : Rs LinearSum := rsO rLinearSum
@[push_cast] def v129 (r : Int × Bool) : AV := .tuple [.int .i64 r.1, .bool r.2]
@[push_cast] def sh129 : Shp := .tup [.leaf none, .leaf none]
noncomputable def t129 : List AV → Option AV := TL ar129.e fun x => bindO (F129 x) fun r => some (v129 r)
@[push_cast] theorem t112_1 (z1 : Int) : t112 [.int .i64 z1] = bindO (F112 z1) fun r => some (v112 r) :=
  TL_hit ar112.inj z1 (by simp only [push_cast] <;> rfl)
/-! ## 78: quantale/logic.order[int] -/
@[push_cast] def H78 : Nat → Hint
  | _ => ⟨[], [], []⟩
def F78 (a : Int) (b : Int) : Option (Int) :=
  iteO (decide (a < b))
  (some (-1))
  (iteO (decide (a > b))
    (some 1)
    (some 0))
@[push_cast] def ar78 : Rs (Int × Int) := rsC (rI .i64) (rsO (rI .i64))
@[push_cast] def v78 (r : Int) : AV := .int .i64 r
@[push_cast] def sh78 : Shp := .one (.leaf none)
noncomputable def t78 : List AV → Option AV := TL ar78.e fun x => bindO (F78 x.1 x.2) fun r => some (v78 r)
/-! ## 80: quantale/logic.order[int64] -/
@[push_cast] def H80 : Nat → Hint
  | _ => ⟨[], [], []⟩
def F80 (a : Int) (b : Int) : Option (Int) :=
  iteO (decide (a < b))
  (some (-1))
  (iteO (decide (a > b))
    (some 1)
    (some 0))
@[push_cast] def ar80 : Rs (Int × Int) := rsC (rI .i64) (rsO (rI .i64))
@[push_cast] def v80 (r : Int) : AV := .int .i64 r
@[push_cast] def sh80 : Shp := .one (.leaf none)
noncomputable def t80 : List AV → Option AV := TL ar80.e fun x => bindO (F80 x.1 x.2) fun r => some (v80 r)
/-! ## 18: quantale/logic.Compare -/
@[push_cast] def H18 : Nat → Hint
  | 0 => ⟨[2, 3, 56, 57], [], []⟩
  | 1 => ⟨[], [2, 3, 56, 57], []⟩
  | _ => ⟨[], [], []⟩
def F18_s1 (self18 : Node → Node → Option (Int)) (b : Node) (s8 : Unit) (i6 : Nat) (x7 : Node) : Option (Sum (Unit) (Int)) :=
  bindO (atO b.kids (i6 : Int)) fun x9 =>
  bindO (self18 x7 x9) fun r10 =>
  iteO (r10 == 0)
  (some (.inl ()))
  (some (.inr r10))
def F18_f1  (s8 : Unit) : Option (Int) :=
  some 0
def F18b (self18 : Node → Node → Option (Int)) (N : Nat) (a : Node) (b : Node) : Option (Int) :=
  bindO (F78 a.op b.op) fun r1 =>
  iteO (r1 == 0)
  (bindO (F78 a.sortf b.sortf) fun r2 =>
    iteO (r2 == 0)
    (bindO (F79 a.name b.name) fun r3 =>
      iteO (r3 == 0)
      (bindO (F80 a.num b.num) fun r4 =>
        iteO (r4 == 0)
        (bindO (F78 (a.kids.length : Int) (b.kids.length : Int)) fun r5 =>
          iteO (r5 == 0)
          (foldN (S := Unit) (F18_s1 self18 b) (F18_f1) N a.kids 0 ())
          (some r5))
        (some r4))
      (some r3))
    (some r2))
  (some r1)
def F18 : Nat → Node → Node → Option (Int)
  | 0 => fun _ _ => none
  | N + 1 => fun a b => F18b (F18 N) N a b
@[push_cast] def ar18 : Rs (Node × Node) := rsC rNode (rsO rNode)
@[push_cast] def v18 (r : Int) : AV := .int .i64 r
@[push_cast] def sh18 : Shp := .one (.leaf none)
noncomputable def t18 (N : Nat) : List AV → Option AV := TL ar18.e fun x => bindO (F18 N x.1 x.2) fun r => some (v18 r)
noncomputable def ts18 (self18 : Node → Node → Option (Int)) : List AV → Option AV := TL ar18.e fun x => bindO (self18 x.1 x.2) fun r => some (v18 r)
@[push_cast] theorem t78_1 (z1 : Int) (z2 : Int) : t78 [.int .i64 z1, .int .i64 z2] = bindO (F78 z1 z2) fun r => some (v78 r) :=
  TL_hit ar78.inj (z1, z2) (by simp only [push_cast] <;> rfl)
@[push_cast] theorem t79_1 (z1 : ByteArray) (z2 : ByteArray) : t79 [.str z1, .str z2] = bindO (F79 z1 z2) fun r => some (v79 r) :=
  TL_hit ar79.inj (z1, z2) (by simp only [push_cast] <;> rfl)
@[push_cast] theorem t80_1 (z1 : Int) (z2 : Int) : t80 [.int .i64 z1, .int .i64 z2] = bindO (F80 z1 z2) fun r => some (v80 r) :=
  TL_hit ar80.inj (z1, z2) (by simp only [push_cast] <;> rfl)
@[push_cast] theorem t18_1 (self18 : Node → Node → Option (Int)) (z1 : Int) (z2 : Int) (z3 : ByteArray) (z4 : Int) (z5 : List Node) (z6 : Int) (z7 : Int) (z8 : ByteArray) (z9 : Int) (z10 : List Node) : ts18 self18 [.agg [.int .i64 z1, .int .i64 z2, .str z3, .int .i64 z4, .sl false 5 (List.map Node.cells z5)], .agg [.int .i64 z6, .int .i64 z7, .str z8, .int .i64 z9, .sl false 5 (List.map Node.cells z10)]] = bindO (self18 (⟨z1, z2, z3, z4, z5⟩ : Node) (⟨z6, z7, z8, z9, z10⟩ : Node)) fun r => some (v18 r) :=
  TL_hit ar18.inj ((⟨z1, z2, z3, z4, z5⟩ : Node), (⟨z6, z7, z8, z9, z10⟩ : Node)) (by simp only [push_cast] <;> rfl)
/-! ## 88: quantale/linear.merge -/
@[push_cast] def H88 : Nat → Hint
  | 0 => ⟨[2, 3, 4, 5, 8, 10, 11, 12], [2, 3, 4, 5, 8, 10], [.ownS 3 0 6]⟩
  | 1 => ⟨[], [2, 3, 4, 5, 8, 10, 11, 12], []⟩
  | 2 => ⟨[], [2, 3, 4, 5, 8, 10, 11, 12, 13], []⟩
  | _ => ⟨[], [], []⟩
def F88_s1 (N : Nat) (a : Lin) (b : Lin) (p : Int) (q : Int) (s1 : (List Mono) × Int × Int) : Option (Sum ((List Mono) × Int × Int) (Lin × Bool)) :=
  iteO (decide (s1.2.1 < (a.linMonos.length : Int)))
  (iteO (s1.2.1 == (a.linMonos.length : Int))
    (bindO (atO b.linMonos s1.2.2) fun x21 =>
      bindO (F128 (⟨0, 0⟩ : LinearSum) q x21.monoCoef) fun r22 =>
      bindO (F129 r22) fun r23 =>
      iteO r23.2
      (iteO (r23.1 == 0)
        (some (.inl (s1.1, s1.2.1, IntKind.i64.wrap (s1.2.2 + 1))))
        (iteO (fits (s1.1.length + 1) 72)
          (some (.inl (s1.1 ++ ([(⟨r23.1, x21.monoAtom⟩ : Mono)]), s1.2.1, IntKind.i64.wrap (s1.2.2 + 1))))
          (none)))
      (some (.inr ((⟨[], 0⟩ : Lin), false))))
    (iteO (s1.2.2 == (b.linMonos.length : Int))
      (bindO (atO a.linMonos s1.2.1) fun x24 =>
        bindO (F128 (⟨0, 0⟩ : LinearSum) p x24.monoCoef) fun r25 =>
        bindO (F129 r25) fun r26 =>
        iteO r26.2
        (iteO (r26.1 == 0)
          (some (.inl (s1.1, IntKind.i64.wrap (s1.2.1 + 1), s1.2.2)))
          (iteO (fits (s1.1.length + 1) 72)
            (some (.inl (s1.1 ++ ([(⟨r26.1, x24.monoAtom⟩ : Mono)]), IntKind.i64.wrap (s1.2.1 + 1), s1.2.2)))
            (none)))
        (some (.inr ((⟨[], 0⟩ : Lin), false))))
      (bindO (atO a.linMonos s1.2.1) fun x27 =>
        bindO (atO b.linMonos s1.2.2) fun x28 =>
        bindO (F18 N x27.monoAtom x28.monoAtom) fun r29 =>
        iteO (decide (r29 ≤ 0))
        (bindO (F128 (⟨0, 0⟩ : LinearSum) p x27.monoCoef) fun r30 =>
          iteO (decide (r29 ≥ 0))
          (bindO (F128 r30 q x28.monoCoef) fun r31 =>
            bindO (F129 r31) fun r32 =>
            iteO r32.2
            (iteO (r32.1 == 0)
              (some (.inl (s1.1, IntKind.i64.wrap (s1.2.1 + 1), IntKind.i64.wrap (s1.2.2 + 1))))
              (iteO (fits (s1.1.length + 1) 72)
                (some (.inl (s1.1 ++ ([(⟨r32.1, x28.monoAtom⟩ : Mono)]), IntKind.i64.wrap (s1.2.1 + 1), IntKind.i64.wrap (s1.2.2 + 1))))
                (none)))
            (some (.inr ((⟨[], 0⟩ : Lin), false))))
          (bindO (F129 r30) fun r33 =>
            iteO r33.2
            (iteO (r33.1 == 0)
              (some (.inl (s1.1, IntKind.i64.wrap (s1.2.1 + 1), s1.2.2)))
              (iteO (fits (s1.1.length + 1) 72)
                (some (.inl (s1.1 ++ ([(⟨r33.1, x27.monoAtom⟩ : Mono)]), IntKind.i64.wrap (s1.2.1 + 1), s1.2.2)))
                (none)))
            (some (.inr ((⟨[], 0⟩ : Lin), false)))))
        (iteO (decide (r29 ≥ 0))
          (bindO (F128 (⟨0, 0⟩ : LinearSum) q x28.monoCoef) fun r34 =>
            bindO (F129 r34) fun r35 =>
            iteO r35.2
            (iteO (r35.1 == 0)
              (some (.inl (s1.1, s1.2.1, IntKind.i64.wrap (s1.2.2 + 1))))
              (iteO (fits (s1.1.length + 1) 72)
                (some (.inl (s1.1 ++ ([(⟨r35.1, x28.monoAtom⟩ : Mono)]), s1.2.1, IntKind.i64.wrap (s1.2.2 + 1))))
                (none)))
            (some (.inr ((⟨[], 0⟩ : Lin), false))))
          (bindO (F129 (⟨0, 0⟩ : LinearSum)) fun r36 =>
            iteO r36.2
            (iteO (r36.1 == 0)
              (some (.inl (s1.1, s1.2.1, s1.2.2)))
              (iteO (fits (s1.1.length + 1) 72)
                (some (.inl (s1.1 ++ ([(⟨r36.1, (⟨0, 0, (⟨#[]⟩ : ByteArray), 0, []⟩ : Node)⟩ : Mono)]), s1.2.1, s1.2.2)))
                (none)))
            (some (.inr ((⟨[], 0⟩ : Lin), false))))))))
  (iteO (decide (s1.2.2 < (b.linMonos.length : Int)))
    (iteO (s1.2.1 == (a.linMonos.length : Int))
      (bindO (atO b.linMonos s1.2.2) fun x2 =>
        bindO (F128 (⟨0, 0⟩ : LinearSum) q x2.monoCoef) fun r3 =>
        bindO (F129 r3) fun r4 =>
        iteO r4.2
        (iteO (r4.1 == 0)
          (some (.inl (s1.1, s1.2.1, IntKind.i64.wrap (s1.2.2 + 1))))
          (iteO (fits (s1.1.length + 1) 72)
            (some (.inl (s1.1 ++ ([(⟨r4.1, x2.monoAtom⟩ : Mono)]), s1.2.1, IntKind.i64.wrap (s1.2.2 + 1))))
            (none)))
        (some (.inr ((⟨[], 0⟩ : Lin), false))))
      (iteO (s1.2.2 == (b.linMonos.length : Int))
        (bindO (atO a.linMonos s1.2.1) fun x5 =>
          bindO (F128 (⟨0, 0⟩ : LinearSum) p x5.monoCoef) fun r6 =>
          bindO (F129 r6) fun r7 =>
          iteO r7.2
          (iteO (r7.1 == 0)
            (some (.inl (s1.1, IntKind.i64.wrap (s1.2.1 + 1), s1.2.2)))
            (iteO (fits (s1.1.length + 1) 72)
              (some (.inl (s1.1 ++ ([(⟨r7.1, x5.monoAtom⟩ : Mono)]), IntKind.i64.wrap (s1.2.1 + 1), s1.2.2)))
              (none)))
          (some (.inr ((⟨[], 0⟩ : Lin), false))))
        (bindO (atO a.linMonos s1.2.1) fun x8 =>
          bindO (atO b.linMonos s1.2.2) fun x9 =>
          bindO (F18 N x8.monoAtom x9.monoAtom) fun r10 =>
          iteO (decide (r10 ≤ 0))
          (bindO (F128 (⟨0, 0⟩ : LinearSum) p x8.monoCoef) fun r11 =>
            iteO (decide (r10 ≥ 0))
            (bindO (F128 r11 q x9.monoCoef) fun r12 =>
              bindO (F129 r12) fun r13 =>
              iteO r13.2
              (iteO (r13.1 == 0)
                (some (.inl (s1.1, IntKind.i64.wrap (s1.2.1 + 1), IntKind.i64.wrap (s1.2.2 + 1))))
                (iteO (fits (s1.1.length + 1) 72)
                  (some (.inl (s1.1 ++ ([(⟨r13.1, x9.monoAtom⟩ : Mono)]), IntKind.i64.wrap (s1.2.1 + 1), IntKind.i64.wrap (s1.2.2 + 1))))
                  (none)))
              (some (.inr ((⟨[], 0⟩ : Lin), false))))
            (bindO (F129 r11) fun r14 =>
              iteO r14.2
              (iteO (r14.1 == 0)
                (some (.inl (s1.1, IntKind.i64.wrap (s1.2.1 + 1), s1.2.2)))
                (iteO (fits (s1.1.length + 1) 72)
                  (some (.inl (s1.1 ++ ([(⟨r14.1, x8.monoAtom⟩ : Mono)]), IntKind.i64.wrap (s1.2.1 + 1), s1.2.2)))
                  (none)))
              (some (.inr ((⟨[], 0⟩ : Lin), false)))))
          (iteO (decide (r10 ≥ 0))
            (bindO (F128 (⟨0, 0⟩ : LinearSum) q x9.monoCoef) fun r15 =>
              bindO (F129 r15) fun r16 =>
              iteO r16.2
              (iteO (r16.1 == 0)
                (some (.inl (s1.1, s1.2.1, IntKind.i64.wrap (s1.2.2 + 1))))
                (iteO (fits (s1.1.length + 1) 72)
                  (some (.inl (s1.1 ++ ([(⟨r16.1, x9.monoAtom⟩ : Mono)]), s1.2.1, IntKind.i64.wrap (s1.2.2 + 1))))
                  (none)))
              (some (.inr ((⟨[], 0⟩ : Lin), false))))
            (bindO (F129 (⟨0, 0⟩ : LinearSum)) fun r17 =>
              iteO r17.2
              (iteO (r17.1 == 0)
                (some (.inl (s1.1, s1.2.1, s1.2.2)))
                (iteO (fits (s1.1.length + 1) 72)
                  (some (.inl (s1.1 ++ ([(⟨r17.1, (⟨0, 0, (⟨#[]⟩ : ByteArray), 0, []⟩ : Node)⟩ : Mono)]), s1.2.1, s1.2.2)))
                  (none)))
              (some (.inr ((⟨[], 0⟩ : Lin), false))))))))
    (bindO (F128 (⟨0, 0⟩ : LinearSum) p a.linConst) fun r18 =>
      bindO (F128 r18 q b.linConst) fun r19 =>
      bindO (F129 r19) fun r20 =>
      some (.inr ((⟨s1.1, r20.1⟩ : Lin), r20.2))))
def F88 (N : Nat) (a : Lin) (b : Lin) (p : Int) (q : Int) : Option (Lin × Bool) :=
  whileN (S := (List Mono) × Int × Int) (F88_s1 N a b p q) N ([], 0, 0)
@[push_cast] def ar88 : Rs (Lin × Lin × Int × Int) := rsC rLin (rsC rLin (rsC (rI .i64) (rsO (rI .i64))))
@[push_cast] def v88 (r : Lin × Bool) : AV := .tuple [.agg (Lin.cells r.1), .bool r.2]
@[push_cast] def sh88 : Shp := .tup [.agg [some 6, none], .leaf none]
noncomputable def t88 (N : Nat) : List AV → Option AV := TL ar88.e fun x => bindO (F88 N x.1 x.2.1 x.2.2.1 x.2.2.2) fun r => some (v88 r)
@[push_cast] theorem t128_1 (z1 : Int) (z2 : Int) (z3 : Int) (z4 : Int) : t128 [.agg [.int .i64 z1, .int .u64 z2], .int .i64 z3, .int .i64 z4] = bindO (F128 (⟨z1, z2⟩ : LinearSum) z3 z4) fun r => some (v128 r) :=
  TL_hit ar128.inj ((⟨z1, z2⟩ : LinearSum), z3, z4) (by simp only [push_cast] <;> rfl)
@[push_cast] theorem t129_1 (z1 : Int) (z2 : Int) : t129 [.agg [.int .i64 z1, .int .u64 z2]] = bindO (F129 (⟨z1, z2⟩ : LinearSum)) fun r => some (v129 r) :=
  TL_hit ar129.inj (⟨z1, z2⟩ : LinearSum) (by simp only [push_cast] <;> rfl)
@[push_cast] theorem t18_2 {N : Nat} (z1 : Int) (z2 : Int) (z3 : ByteArray) (z4 : Int) (z5 : List Node) (z6 : Int) (z7 : Int) (z8 : ByteArray) (z9 : Int) (z10 : List Node) : t18 N [.agg [.int .i64 z1, .int .i64 z2, .str z3, .int .i64 z4, .sl false 5 (List.map Node.cells z5)], .agg [.int .i64 z6, .int .i64 z7, .str z8, .int .i64 z9, .sl false 5 (List.map Node.cells z10)]] = bindO (F18 N (⟨z1, z2, z3, z4, z5⟩ : Node) (⟨z6, z7, z8, z9, z10⟩ : Node)) fun r => some (v18 r) :=
  TL_hit ar18.inj ((⟨z1, z2, z3, z4, z5⟩ : Node), (⟨z6, z7, z8, z9, z10⟩ : Node)) (by simp only [push_cast] <;> rfl)
/-! ## 85: quantale/linear.form -/
@[push_cast] def H85 : Nat → Hint
  | 0 => ⟨[], [1, 2], []⟩
  | _ => ⟨[], [], []⟩
@[push_cast] def H124 : Nat → Hint
  | _ => ⟨[], [], []⟩
def F85b (self85 : Node → Option (Lin × Bool)) (N : Nat) (n : Node) : Option (Lin × Bool) :=
  iteO (n.op == 2)
  (bindO (F112 n.num) fun r1 =>
    some ((⟨[], n.num⟩ : Lin), r1))
  (iteO (n.op == 6)
    (bindO (atO n.kids 0) fun x2 =>
      bindO (self85 x2) fun r3 =>
      iteO r3.2
      (bindO (F88 N r3.1 (⟨[], 0⟩ : Lin) (-1) 0) fun r4 =>
        some (r4.1, r4.2))
      (some ((⟨[], 0⟩ : Lin), false)))
    (iteO (n.op == 7)
      (bindO (atO n.kids 0) fun x5 =>
        bindO (self85 x5) fun r6 =>
        iteO r6.2
        (bindO (F88 N r6.1 (⟨[], 0⟩ : Lin) n.num 0) fun r7 =>
          some (r7.1, r7.2))
        (some ((⟨[], 0⟩ : Lin), false)))
      (iteO (n.op == 4)
        (bindO (atO n.kids 0) fun x8 =>
          bindO (self85 x8) fun r9 =>
          bindO (atO n.kids 1) fun x10 =>
          bindO (self85 x10) fun r11 =>
          iteO r9.2
          (iteO r11.2
            (iteO (n.op == 5)
              (bindO (F88 N r9.1 r11.1 1 (-1)) fun r12 =>
                some (r12.1, r12.2))
              (bindO (F88 N r9.1 r11.1 1 1) fun r13 =>
                some (r13.1, r13.2)))
            (some ((⟨[], 0⟩ : Lin), false)))
          (some ((⟨[], 0⟩ : Lin), false)))
        (iteO (n.op == 5)
          (bindO (atO n.kids 0) fun x14 =>
            bindO (self85 x14) fun r15 =>
            bindO (atO n.kids 1) fun x16 =>
            bindO (self85 x16) fun r17 =>
            iteO r15.2
            (iteO r17.2
              (bindO (F88 N r15.1 r17.1 1 (-1)) fun r18 =>
                some (r18.1, r18.2))
              (some ((⟨[], 0⟩ : Lin), false)))
            (some ((⟨[], 0⟩ : Lin), false)))
          (some ((⟨[(⟨1, n⟩ : Mono)], 0⟩ : Lin), true))))))
def F85 : Nat → Node → Option (Lin × Bool)
  | 0 => fun _ => none
  | N + 1 => fun n => F85b (F85 N) N n
@[push_cast] def ar85 : Rs Node := rsO rNode
@[push_cast] def v85 (r : Lin × Bool) : AV := .tuple [.agg (Lin.cells r.1), .bool r.2]
@[push_cast] def sh85 : Shp := .tup [.agg [some 6, none], .leaf none]
noncomputable def t85 (N : Nat) : List AV → Option AV := TL ar85.e fun x => bindO (F85 N x) fun r => some (v85 r)
noncomputable def ts85 (self85 : Node → Option (Lin × Bool)) : List AV → Option AV := TL ar85.e fun x => bindO (self85 x) fun r => some (v85 r)
@[push_cast] theorem t85_1 (self85 : Node → Option (Lin × Bool)) (z1 : Int) (z2 : Int) (z3 : ByteArray) (z4 : Int) (z5 : List Node) : ts85 self85 [.agg [.int .i64 z1, .int .i64 z2, .str z3, .int .i64 z4, .sl false 5 (List.map Node.cells z5)]] = bindO (self85 (⟨z1, z2, z3, z4, z5⟩ : Node)) fun r => some (v85 r) :=
  TL_hit ar85.inj (⟨z1, z2, z3, z4, z5⟩ : Node) (by simp only [push_cast] <;> rfl)
@[push_cast] theorem t88_1 {N : Nat} (z1 : List Mono) (z2 : Int) (z4 : Int) (z5 : Int) (z6 : Int) : t88 N [.agg [.sl false 6 (List.map Mono.cells z1), .int .i64 z2], .agg [.sl true 6 [], .int .i64 z4], .int .i64 z5, .int .i64 z6] = bindO (F88 N (⟨z1, z2⟩ : Lin) (⟨[], z4⟩ : Lin) z5 z6) fun r => some (v88 r) :=
  TL_hit ar88.inj ((⟨z1, z2⟩ : Lin), (⟨[], z4⟩ : Lin), z5, z6) (by simp only [push_cast] <;> rfl)
@[push_cast] theorem t88_2 {N : Nat} (z1 : List Mono) (z2 : Int) (z4 : Int) (z5 : Int) (z6 : Int) : t88 N [.agg [.sl false 6 (List.map Mono.cells z1), .int .i64 z2], .agg [.sl false 6 [], .int .i64 z4], .int .i64 z5, .int .i64 z6] = bindO (F88 N (⟨z1, z2⟩ : Lin) (⟨[], z4⟩ : Lin) z5 z6) fun r => some (v88 r) :=
  TL_hit ar88.inj ((⟨z1, z2⟩ : Lin), (⟨[], z4⟩ : Lin), z5, z6) (by simp only [push_cast] <;> rfl)
@[push_cast] theorem t88_3 {N : Nat} (z1 : List Mono) (z2 : Int) (z3 : List Mono) (z4 : Int) (z5 : Int) (z6 : Int) : t88 N [.agg [.sl false 6 (List.map Mono.cells z1), .int .i64 z2], .agg [.sl false 6 (List.map Mono.cells z3), .int .i64 z4], .int .i64 z5, .int .i64 z6] = bindO (F88 N (⟨z1, z2⟩ : Lin) (⟨z3, z4⟩ : Lin) z5 z6) fun r => some (v88 r) :=
  TL_hit ar88.inj ((⟨z1, z2⟩ : Lin), (⟨z3, z4⟩ : Lin), z5, z6) (by simp only [push_cast] <;> rfl)
/-! ## 82: quantale/logic.copied -/
@[push_cast] def H82 : Nat → Hint
  | 0 => ⟨[1, 2, 10, 11, 12], [1, 2], []⟩
  | 1 => ⟨[], [1, 2, 10, 11, 12], []⟩
  | _ => ⟨[], [], []⟩
def F82_s1 (self82 : Node → Option (Node)) (s3 : List Node) (i1 : Nat) (x2 : Nat) : Option (Sum (List Node) (Node)) :=
  bindO (atO s3 (i1 : Int)) fun x4 =>
  bindO (self82 x4) fun r5 =>
  some (.inl (s3.set i1 r5))
def F82_f1 (n : Node) (s3 : List Node) : Option (Node) :=
  some (⟨n.op, n.sortf, n.name, n.num, s3⟩ : Node)
def F82b (self82 : Node → Option (Node)) (N : Nat) (n : Node) : Option (Node) :=
  iteO (fits (n.kids.length) 64)
  (foldN (S := List Node) (F82_s1 self82) (F82_f1 n) N (List.range ((n.kids.length : Int)).toNat) 0 n.kids)
  (none)
def F82 : Nat → Node → Option (Node)
  | 0 => fun _ => none
  | N + 1 => fun n => F82b (F82 N) N n
@[push_cast] def ar82 : Rs Node := rsO rNode
@[push_cast] def v82 (r : Node) : AV := .agg (Node.cells r)
@[push_cast] def sh82 : Shp := .one (.agg [none, none, none, none, some 5])
noncomputable def t82 (N : Nat) : List AV → Option AV := TL ar82.e fun x => bindO (F82 N x) fun r => some (v82 r)
noncomputable def ts82 (self82 : Node → Option (Node)) : List AV → Option AV := TL ar82.e fun x => bindO (self82 x) fun r => some (v82 r)
@[push_cast] theorem t82_1 (self82 : Node → Option (Node)) (z1 : Int) (z2 : Int) (z3 : ByteArray) (z4 : Int) (z5 : List Node) : ts82 self82 [.agg [.int .i64 z1, .int .i64 z2, .str z3, .int .i64 z4, .sl false 5 (List.map Node.cells z5)]] = bindO (self82 (⟨z1, z2, z3, z4, z5⟩ : Node)) fun r => some (v82 r) :=
  TL_hit ar82.inj (⟨z1, z2, z3, z4, z5⟩ : Node) (by simp only [push_cast] <;> rfl)
/-! ## 22: quantale/logic.SubstAll -/
@[push_cast] def H22 : Nat → Hint
  | 0 => ⟨[1, 2, 3, 6, 18, 19], [1, 2, 3, 6], []⟩
  | 1 => ⟨[], [1, 2, 3, 6, 18, 19], []⟩
  | 2 => ⟨[1, 2, 3, 6, 8, 40, 41, 42], [3, 6, 8], []⟩
  | 3 => ⟨[], [1, 2, 3, 6, 8, 40, 41, 42], []⟩
  | _ => ⟨[], [], []⟩
def F22_s1 (N : Nat) (n : Node) (names : List ByteArray) (withq : List Node) (s3 : Unit) (i1 : Nat) (x2 : Nat) : Option (Sum (Unit) (Node)) :=
  bindO (atO names (i1 : Int)) fun x4 =>
  iteO (x4.toList == n.name.toList)
  (bindO (atO withq (i1 : Int)) fun x5 =>
    bindO (F82 N x5) fun r6 =>
    some (.inr r6))
  (some (.inl ()))
def F22_s2 (self22 : Node → (List ByteArray) → (List Node) → Option (Node)) (names : List ByteArray) (withq : List Node) (s9 : List Node) (i7 : Nat) (x8 : Node) : Option (Sum (List Node) (Node)) :=
  bindO (self22 x8 names withq) fun r10 =>
  iteO (fits (s9.length + 1) 64)
  (some (.inl (s9 ++ ([r10]))))
  (none)
def F22_f2 (n : Node) (s9 : List Node) : Option (Node) :=
  some (⟨n.op, n.sortf, n.name, n.num, s9⟩ : Node)
def F22_f1 (self22 : Node → (List ByteArray) → (List Node) → Option (Node)) (N : Nat) (n : Node) (names : List ByteArray) (withq : List Node) (s3 : Unit) : Option (Node) :=
  iteO (decide (0 ≤ 0 ∧ 0 ≤ (n.kids.length : Int) ∧ (n.kids.length : Int) * 64 ≤ 140737488355328 ∧ (n.kids.length : Int) ≤ 9223372036854775807))
  (foldN (S := List Node) (F22_s2 self22 names withq) (F22_f2 n) N n.kids 0 ([]))
  (none)
def F22_s3 (self22 : Node → (List ByteArray) → (List Node) → Option (Node)) (names : List ByteArray) (withq : List Node) (s13 : List Node) (i11 : Nat) (x12 : Node) : Option (Sum (List Node) (Node)) :=
  bindO (self22 x12 names withq) fun r14 =>
  iteO (fits (s13.length + 1) 64)
  (some (.inl (s13 ++ ([r14]))))
  (none)
def F22_f3 (n : Node) (s13 : List Node) : Option (Node) :=
  some (⟨n.op, n.sortf, n.name, n.num, s13⟩ : Node)
def F22b (self22 : Node → (List ByteArray) → (List Node) → Option (Node)) (N : Nat) (n : Node) (names : List ByteArray) (withq : List Node) : Option (Node) :=
  iteO (n.op == 1)
  (foldN (S := Unit) (F22_s1 N n names withq) (F22_f1 self22 N n names withq) N (List.range (min (names.length : Int) (withq.length : Int)).toNat) 0 ())
  (iteO (decide (0 ≤ 0 ∧ 0 ≤ (n.kids.length : Int) ∧ (n.kids.length : Int) * 64 ≤ 140737488355328 ∧ (n.kids.length : Int) ≤ 9223372036854775807))
    (foldN (S := List Node) (F22_s3 self22 names withq) (F22_f3 n) N n.kids 0 ([]))
    (none))
def F22 : Nat → Node → (List ByteArray) → (List Node) → Option (Node)
  | 0 => fun _ _ _ => none
  | N + 1 => fun n names withq => F22b (F22 N) N n names withq
@[push_cast] def ar22 : Rs (Node × (List ByteArray) × (List Node)) := rsC rNode (rsC (rL 1 cS cS_inj) (rsO (rL 5 Node.cells Node.cells_inj)))
@[push_cast] def v22 (r : Node) : AV := .agg (Node.cells r)
@[push_cast] def sh22 : Shp := .one (.agg [none, none, none, none, some 5])
noncomputable def t22 (N : Nat) : List AV → Option AV := TL ar22.e fun x => bindO (F22 N x.1 x.2.1 x.2.2) fun r => some (v22 r)
noncomputable def ts22 (self22 : Node → (List ByteArray) → (List Node) → Option (Node)) : List AV → Option AV := TL ar22.e fun x => bindO (self22 x.1 x.2.1 x.2.2) fun r => some (v22 r)
@[push_cast] theorem t82_2 {N : Nat} (z1 : Int) (z2 : Int) (z3 : ByteArray) (z4 : Int) (z5 : List Node) : t82 N [.agg [.int .i64 z1, .int .i64 z2, .str z3, .int .i64 z4, .sl false 5 (List.map Node.cells z5)]] = bindO (F82 N (⟨z1, z2, z3, z4, z5⟩ : Node)) fun r => some (v82 r) :=
  TL_hit ar82.inj (⟨z1, z2, z3, z4, z5⟩ : Node) (by simp only [push_cast] <;> rfl)
@[push_cast] theorem t22_1 (self22 : Node → (List ByteArray) → (List Node) → Option (Node)) (z1 : Int) (z2 : Int) (z3 : ByteArray) (z4 : Int) (z5 : List Node) (z6 : List ByteArray) (z7 : List Node) : ts22 self22 [.agg [.int .i64 z1, .int .i64 z2, .str z3, .int .i64 z4, .sl false 5 (List.map Node.cells z5)], .sl false 1 (List.map cS z6), .sl false 5 (List.map Node.cells z7)] = bindO (self22 (⟨z1, z2, z3, z4, z5⟩ : Node) z6 z7) fun r => some (v22 r) :=
  TL_hit ar22.inj ((⟨z1, z2, z3, z4, z5⟩ : Node), z6, z7) (by simp only [push_cast] <;> rfl)
/-! ## 24: quantale/logic.Subst -/
@[push_cast] def H24 : Nat → Hint
  | _ => ⟨[], [], []⟩
def F24 (N : Nat) (n : Node) (name : ByteArray) (withq : Node) : Option (Node) :=
  bindO (F22 N n ([name]) ([withq])) fun r1 =>
  some r1
@[push_cast] def ar24 : Rs (Node × ByteArray × Node) := rsC rNode (rsC rS (rsO rNode))
@[push_cast] def v24 (r : Node) : AV := .agg (Node.cells r)
@[push_cast] def sh24 : Shp := .one (.agg [none, none, none, none, some 5])
noncomputable def t24 (N : Nat) : List AV → Option AV := TL ar24.e fun x => bindO (F24 N x.1 x.2.1 x.2.2) fun r => some (v24 r)
@[push_cast] theorem t22_2 {N : Nat} (z1 : Int) (z2 : Int) (z3 : ByteArray) (z4 : Int) (z5 : List Node) (z7 : ByteArray) (z9 : Int) (z10 : Int) (z11 : ByteArray) (z12 : Int) (z13 : List Node) : t22 N [.agg [.int .i64 z1, .int .i64 z2, .str z3, .int .i64 z4, .sl false 5 (List.map Node.cells z5)], .sl true 1 [[.str z7]], .sl true 5 [[.int .i64 z9, .int .i64 z10, .str z11, .int .i64 z12, .sl false 5 (List.map Node.cells z13)]]] = bindO (F22 N (⟨z1, z2, z3, z4, z5⟩ : Node) ([z7]) ([(⟨z9, z10, z11, z12, z13⟩ : Node)])) fun r => some (v22 r) :=
  TL_hit ar22.inj ((⟨z1, z2, z3, z4, z5⟩ : Node), [z7], [(⟨z9, z10, z11, z12, z13⟩ : Node)]) (by simp only [push_cast] <;> rfl)
@[push_cast] theorem t22_3 {N : Nat} (z1 : Int) (z2 : Int) (z3 : ByteArray) (z4 : Int) (z5 : List Node) (z7 : ByteArray) (z9 : Int) (z10 : Int) (z11 : ByteArray) (z12 : Int) (z13 : List Node) : t22 N [.agg [.int .i64 z1, .int .i64 z2, .str z3, .int .i64 z4, .sl false 5 (List.map Node.cells z5)], .sl false 1 [[.str z7]], .sl false 5 [[.int .i64 z9, .int .i64 z10, .str z11, .int .i64 z12, .sl false 5 (List.map Node.cells z13)]]] = bindO (F22 N (⟨z1, z2, z3, z4, z5⟩ : Node) ([z7]) ([(⟨z9, z10, z11, z12, z13⟩ : Node)])) fun r => some (v22 r) :=
  TL_hit ar22.inj ((⟨z1, z2, z3, z4, z5⟩ : Node), [z7], [(⟨z9, z10, z11, z12, z13⟩ : Node)]) (by simp only [push_cast] <;> rfl)
/-! ## 86: quantale/linear.copied -/
@[push_cast] def H86 : Nat → Hint
  | 0 => ⟨[1, 2, 10, 11, 12], [1, 2], []⟩
  | 1 => ⟨[], [1, 2, 10, 11, 12], []⟩
  | _ => ⟨[], [], []⟩
def F86_s1 (N : Nat) (s3 : List Mono) (i1 : Nat) (x2 : Nat) : Option (Sum (List Mono) (Lin)) :=
  bindO (atO s3 (i1 : Int)) fun x4 =>
  bindO (F24 N x4.monoAtom (⟨#[]⟩ : ByteArray) (⟨0, 0, (⟨#[]⟩ : ByteArray), 0, []⟩ : Node)) fun r5 =>
  some (.inl (s3.set i1 (⟨x4.monoCoef, r5⟩ : Mono)))
def F86_f1 (f : Lin) (s3 : List Mono) : Option (Lin) :=
  some (⟨s3, f.linConst⟩ : Lin)
def F86 (N : Nat) (f : Lin) : Option (Lin) :=
  iteO (fits (f.linMonos.length) 72)
  (foldN (S := List Mono) (F86_s1 N) (F86_f1 f) N (List.range ((f.linMonos.length : Int)).toNat) 0 f.linMonos)
  (none)
@[push_cast] def ar86 : Rs Lin := rsO rLin
@[push_cast] def v86 (r : Lin) : AV := .agg (Lin.cells r)
@[push_cast] def sh86 : Shp := .one (.agg [some 6, none])
noncomputable def t86 (N : Nat) : List AV → Option AV := TL ar86.e fun x => bindO (F86 N x) fun r => some (v86 r)
@[push_cast] theorem t24_1 {N : Nat} (z1 : Int) (z2 : Int) (z3 : ByteArray) (z4 : Int) (z5 : List Node) (z6 : ByteArray) (z7 : Int) (z8 : Int) (z9 : ByteArray) (z10 : Int) : t24 N [.agg [.int .i64 z1, .int .i64 z2, .str z3, .int .i64 z4, .sl false 5 (List.map Node.cells z5)], .str z6, .agg [.int .i64 z7, .int .i64 z8, .str z9, .int .i64 z10, .sl true 5 []]] = bindO (F24 N (⟨z1, z2, z3, z4, z5⟩ : Node) z6 (⟨z7, z8, z9, z10, []⟩ : Node)) fun r => some (v24 r) :=
  TL_hit ar24.inj ((⟨z1, z2, z3, z4, z5⟩ : Node), z6, (⟨z7, z8, z9, z10, []⟩ : Node)) (by simp only [push_cast] <;> rfl)
@[push_cast] theorem t24_2 {N : Nat} (z1 : Int) (z2 : Int) (z3 : ByteArray) (z4 : Int) (z5 : List Node) (z6 : ByteArray) (z7 : Int) (z8 : Int) (z9 : ByteArray) (z10 : Int) : t24 N [.agg [.int .i64 z1, .int .i64 z2, .str z3, .int .i64 z4, .sl false 5 (List.map Node.cells z5)], .str z6, .agg [.int .i64 z7, .int .i64 z8, .str z9, .int .i64 z10, .sl false 5 []]] = bindO (F24 N (⟨z1, z2, z3, z4, z5⟩ : Node) z6 (⟨z7, z8, z9, z10, []⟩ : Node)) fun r => some (v24 r) :=
  TL_hit ar24.inj ((⟨z1, z2, z3, z4, z5⟩ : Node), z6, (⟨z7, z8, z9, z10, []⟩ : Node)) (by simp only [push_cast] <;> rfl)
/-! ## 29: quantale/linear.Of -/
@[push_cast] def H29 : Nat → Hint
  | _ => ⟨[], [], []⟩
def F29 (N : Nat) (n : Node) : Option (Lin × Int) :=
  bindO (F14 N n 0) fun r1 =>
  iteO (r1 == 0)
  (bindO (F36 N n) fun r2 =>
    iteO (r2 == 1)
    (bindO (F85 N n) fun r5 =>
      iteO r5.2
      (bindO (F86 N r5.1) fun r6 =>
        some (r6, 0))
      (some ((⟨[], 0⟩ : Lin), 2)))
    (iteO (r2 == 3)
      (bindO (F85 N n) fun r3 =>
        iteO r3.2
        (bindO (F86 N r3.1) fun r4 =>
          some (r4, 0))
        (some ((⟨[], 0⟩ : Lin), 2)))
      (some ((⟨[], 0⟩ : Lin), 10))))
  (some ((⟨[], 0⟩ : Lin), r1))
@[push_cast] def ar29 : Rs Node := rsO rNode
@[push_cast] def v29 (r : Lin × Int) : AV := .tuple [.agg (Lin.cells r.1), .int .i64 r.2]
@[push_cast] def sh29 : Shp := .tup [.agg [some 6, none], .leaf none]
noncomputable def t29 (N : Nat) : List AV → Option AV := TL ar29.e fun x => bindO (F29 N x) fun r => some (v29 r)
@[push_cast] theorem t14_1 {N : Nat} (z1 : Int) (z2 : Int) (z3 : ByteArray) (z4 : Int) (z5 : List Node) (z6 : Int) : t14 N [.agg [.int .i64 z1, .int .i64 z2, .str z3, .int .i64 z4, .sl false 5 (List.map Node.cells z5)], .int .i64 z6] = bindO (F14 N (⟨z1, z2, z3, z4, z5⟩ : Node) z6) fun r => some (v14 r) :=
  TL_hit ar14.inj ((⟨z1, z2, z3, z4, z5⟩ : Node), z6) (by simp only [push_cast] <;> rfl)
@[push_cast] theorem t85_2 {N : Nat} (z1 : Int) (z2 : Int) (z3 : ByteArray) (z4 : Int) (z5 : List Node) : t85 N [.agg [.int .i64 z1, .int .i64 z2, .str z3, .int .i64 z4, .sl false 5 (List.map Node.cells z5)]] = bindO (F85 N (⟨z1, z2, z3, z4, z5⟩ : Node)) fun r => some (v85 r) :=
  TL_hit ar85.inj (⟨z1, z2, z3, z4, z5⟩ : Node) (by simp only [push_cast] <;> rfl)
@[push_cast] theorem t86_1 {N : Nat} (z1 : List Mono) (z2 : Int) : t86 N [.agg [.sl false 6 (List.map Mono.cells z1), .int .i64 z2]] = bindO (F86 N (⟨z1, z2⟩ : Lin)) fun r => some (v86 r) :=
  TL_hit ar86.inj (⟨z1, z2⟩ : Lin) (by simp only [push_cast] <;> rfl)
/-! ## 26: quantale/quantalelaw04.awake -/
@[push_cast] def H26 : Nat → Hint
  | _ => ⟨[], [], []⟩
def F26 (N : Nat) : Option (Bool) :=
  bindO (F84 4 (⟨1, 1, (⟨#[120]⟩ : ByteArray), 0, []⟩ : Node) (⟨2, 0, (⟨#[]⟩ : ByteArray), 1, []⟩ : Node)) fun r1 =>
  bindO (F84 4 r1 (⟨1, 1, (⟨#[120]⟩ : ByteArray), 0, []⟩ : Node)) fun r2 =>
  bindO (F29 N r2) fun r3 =>
  iteO (r3.2 == 0)
  (iteO ((r3.1.linMonos.length : Int) == 1)
    (bindO (atO r3.1.linMonos 0) fun x4 =>
      iteO (x4.monoCoef == 2)
      (some (r3.1.linConst == 1))
      (some false))
    (some false))
  (some false)
@[push_cast] def ar26 : Rs Unit := rsN
@[push_cast] def v26 (r : Bool) : AV := .bool r
@[push_cast] def sh26 : Shp := .one (.leaf none)
noncomputable def t26 (N : Nat) : List AV → Option AV := TL ar26.e fun x => bindO (F26 N) fun r => some (v26 r)
@[push_cast] theorem t84_1 (z1 : Int) (z2 : Int) (z3 : Int) (z4 : ByteArray) (z5 : Int) (z7 : Int) (z8 : Int) (z9 : ByteArray) (z10 : Int) : t84 [.int .i64 z1, .agg [.int .i64 z2, .int .i64 z3, .str z4, .int .i64 z5, .sl true 5 []], .agg [.int .i64 z7, .int .i64 z8, .str z9, .int .i64 z10, .sl true 5 []]] = bindO (F84 z1 (⟨z2, z3, z4, z5, []⟩ : Node) (⟨z7, z8, z9, z10, []⟩ : Node)) fun r => some (v84 r) :=
  TL_hit ar84.inj (z1, (⟨z2, z3, z4, z5, []⟩ : Node), (⟨z7, z8, z9, z10, []⟩ : Node)) (by simp only [push_cast] <;> rfl)
@[push_cast] theorem t84_2 (z1 : Int) (z2 : Int) (z3 : Int) (z4 : ByteArray) (z5 : Int) (z7 : Int) (z8 : Int) (z9 : ByteArray) (z10 : Int) : t84 [.int .i64 z1, .agg [.int .i64 z2, .int .i64 z3, .str z4, .int .i64 z5, .sl false 5 []], .agg [.int .i64 z7, .int .i64 z8, .str z9, .int .i64 z10, .sl false 5 []]] = bindO (F84 z1 (⟨z2, z3, z4, z5, []⟩ : Node) (⟨z7, z8, z9, z10, []⟩ : Node)) fun r => some (v84 r) :=
  TL_hit ar84.inj (z1, (⟨z2, z3, z4, z5, []⟩ : Node), (⟨z7, z8, z9, z10, []⟩ : Node)) (by simp only [push_cast] <;> rfl)
@[push_cast] theorem t84_3 (z1 : Int) (z2 : Int) (z3 : Int) (z4 : ByteArray) (z5 : Int) (z6 : List Node) (z7 : Int) (z8 : Int) (z9 : ByteArray) (z10 : Int) : t84 [.int .i64 z1, .agg [.int .i64 z2, .int .i64 z3, .str z4, .int .i64 z5, .sl false 5 (List.map Node.cells z6)], .agg [.int .i64 z7, .int .i64 z8, .str z9, .int .i64 z10, .sl true 5 []]] = bindO (F84 z1 (⟨z2, z3, z4, z5, z6⟩ : Node) (⟨z7, z8, z9, z10, []⟩ : Node)) fun r => some (v84 r) :=
  TL_hit ar84.inj (z1, (⟨z2, z3, z4, z5, z6⟩ : Node), (⟨z7, z8, z9, z10, []⟩ : Node)) (by simp only [push_cast] <;> rfl)
@[push_cast] theorem t84_4 (z1 : Int) (z2 : Int) (z3 : Int) (z4 : ByteArray) (z5 : Int) (z6 : List Node) (z7 : Int) (z8 : Int) (z9 : ByteArray) (z10 : Int) : t84 [.int .i64 z1, .agg [.int .i64 z2, .int .i64 z3, .str z4, .int .i64 z5, .sl false 5 (List.map Node.cells z6)], .agg [.int .i64 z7, .int .i64 z8, .str z9, .int .i64 z10, .sl false 5 []]] = bindO (F84 z1 (⟨z2, z3, z4, z5, z6⟩ : Node) (⟨z7, z8, z9, z10, []⟩ : Node)) fun r => some (v84 r) :=
  TL_hit ar84.inj (z1, (⟨z2, z3, z4, z5, z6⟩ : Node), (⟨z7, z8, z9, z10, []⟩ : Node)) (by simp only [push_cast] <;> rfl)
@[push_cast] theorem t29_1 {N : Nat} (z1 : Int) (z2 : Int) (z3 : ByteArray) (z4 : Int) (z5 : List Node) : t29 N [.agg [.int .i64 z1, .int .i64 z2, .str z3, .int .i64 z4, .sl false 5 (List.map Node.cells z5)]] = bindO (F29 N (⟨z1, z2, z3, z4, z5⟩ : Node)) fun r => some (v29 r) :=
  TL_hit ar29.inj (⟨z1, z2, z3, z4, z5⟩ : Node) (by simp only [push_cast] <;> rfl)
/-! ## 27: quantale/quantaleref01.Size -/
@[push_cast] def H27 : Nat → Hint
  | 0 => ⟨[3, 7, 8, 9], [3], []⟩
  | 1 => ⟨[], [3, 7, 8, 9], []⟩
  | _ => ⟨[], [], []⟩
def F27_s1 (self27 : Node → Option (Int)) (s3 : Int) (i1 : Nat) (x2 : Node) : Option (Sum (Int) (Int)) :=
  bindO (self27 x2) fun r4 =>
  some (.inl (IntKind.i64.wrap (s3 + r4)))
def F27_f1  (s3 : Int) : Option (Int) :=
  some s3
def F27b (self27 : Node → Option (Int)) (N : Nat) (n : Node) : Option (Int) :=
  foldN (S := Int) (F27_s1 self27) (F27_f1) N n.kids 0 1
def F27 : Nat → Node → Option (Int)
  | 0 => fun _ => none
  | N + 1 => fun n => F27b (F27 N) N n
@[push_cast] def ar27 : Rs Node := rsO rNode
@[push_cast] def v27 (r : Int) : AV := .int .i64 r
@[push_cast] def sh27 : Shp := .one (.leaf none)
noncomputable def t27 (N : Nat) : List AV → Option AV := TL ar27.e fun x => bindO (F27 N x) fun r => some (v27 r)
noncomputable def ts27 (self27 : Node → Option (Int)) : List AV → Option AV := TL ar27.e fun x => bindO (self27 x) fun r => some (v27 r)
@[push_cast] theorem t27_1 (self27 : Node → Option (Int)) (z1 : Int) (z2 : Int) (z3 : ByteArray) (z4 : Int) (z5 : List Node) : ts27 self27 [.agg [.int .i64 z1, .int .i64 z2, .str z3, .int .i64 z4, .sl false 5 (List.map Node.cells z5)]] = bindO (self27 (⟨z1, z2, z3, z4, z5⟩ : Node)) fun r => some (v27 r) :=
  TL_hit ar27.inj (⟨z1, z2, z3, z4, z5⟩ : Node) (by simp only [push_cast] <;> rfl)
/-! ## 28: quantale/quantaleref01.Sort -/
@[push_cast] def H28 : Nat → Hint
  | 0 => ⟨[], [1], []⟩
  | _ => ⟨[], [], []⟩
def F28b (self28 : Node → Option (Int)) (N : Nat) (n : Node) : Option (Int) :=
  iteO (n.op == 1)
  (some n.sortf)
  (iteO (n.op == 3)
    (some n.sortf)
    (iteO (n.op == 2)
      (some 1)
      (iteO (n.op == 4)
        (some 1)
        (iteO (n.op == 5)
          (some 1)
          (iteO (n.op == 6)
            (some 1)
            (iteO (n.op == 7)
              (some 1)
              (iteO (n.op == 14)
                (some 1)
                (iteO (n.op == 16)
                  (some 1)
                  (iteO (n.op == 8)
                    (iteO (decide ((n.kids.length : Int) < 2))
                      (some 0)
                      (bindO (atO n.kids 1) fun x1 =>
                        bindO (self28 x1) fun r2 =>
                        some r2))
                    (iteO (n.op == 9)
                      (some 4)
                      (iteO (n.op == 10)
                        (some 4)
                        (iteO (n.op == 11)
                          (some 4)
                          (iteO (n.op == 12)
                            (some 4)
                            (iteO (n.op == 13)
                              (some 4)
                              (iteO (n.op == 15)
                                (some 5)
                                (iteO (decide (n.op ≥ 30))
                                  (iteO (decide (n.op ≤ 42))
                                    (some 2)
                                    (some 0))
                                  (some 0)))))))))))))))))
def F28 : Nat → Node → Option (Int)
  | 0 => fun _ => none
  | N + 1 => fun n => F28b (F28 N) N n
@[push_cast] def ar28 : Rs Node := rsO rNode
@[push_cast] def v28 (r : Int) : AV := .int .i64 r
@[push_cast] def sh28 : Shp := .one (.leaf none)
noncomputable def t28 (N : Nat) : List AV → Option AV := TL ar28.e fun x => bindO (F28 N x) fun r => some (v28 r)
noncomputable def ts28 (self28 : Node → Option (Int)) : List AV → Option AV := TL ar28.e fun x => bindO (self28 x) fun r => some (v28 r)
@[push_cast] theorem t28_1 (self28 : Node → Option (Int)) (z1 : Int) (z2 : Int) (z3 : ByteArray) (z4 : Int) (z5 : List Node) : ts28 self28 [.agg [.int .i64 z1, .int .i64 z2, .str z3, .int .i64 z4, .sl false 5 (List.map Node.cells z5)]] = bindO (self28 (⟨z1, z2, z3, z4, z5⟩ : Node)) fun r => some (v28 r) :=
  TL_hit ar28.inj (⟨z1, z2, z3, z4, z5⟩ : Node) (by simp only [push_cast] <;> rfl)
/-! ## 39: quantale/quantaleref01.Levels -/
@[push_cast] def H39 : Nat → Hint
  | 0 => ⟨[3, 7, 8, 9], [3], []⟩
  | 1 => ⟨[], [3, 7, 8, 9], []⟩
  | _ => ⟨[], [], []⟩
def F39_s1 (self39 : Node → Option (Int)) (s3 : Int) (i1 : Nat) (x2 : Node) : Option (Sum (Int) (Int)) :=
  bindO (self39 x2) fun r4 =>
  some (.inl (max s3 r4))
def F39_f1  (s3 : Int) : Option (Int) :=
  some (IntKind.i64.wrap (s3 + 1))
def F39b (self39 : Node → Option (Int)) (N : Nat) (n : Node) : Option (Int) :=
  foldN (S := Int) (F39_s1 self39) (F39_f1) N n.kids 0 0
def F39 : Nat → Node → Option (Int)
  | 0 => fun _ => none
  | N + 1 => fun n => F39b (F39 N) N n
@[push_cast] def ar39 : Rs Node := rsO rNode
@[push_cast] def v39 (r : Int) : AV := .int .i64 r
@[push_cast] def sh39 : Shp := .one (.leaf none)
noncomputable def t39 (N : Nat) : List AV → Option AV := TL ar39.e fun x => bindO (F39 N x) fun r => some (v39 r)
noncomputable def ts39 (self39 : Node → Option (Int)) : List AV → Option AV := TL ar39.e fun x => bindO (self39 x) fun r => some (v39 r)
@[push_cast] theorem t39_1 (self39 : Node → Option (Int)) (z1 : Int) (z2 : Int) (z3 : ByteArray) (z4 : Int) (z5 : List Node) : ts39 self39 [.agg [.int .i64 z1, .int .i64 z2, .str z3, .int .i64 z4, .sl false 5 (List.map Node.cells z5)]] = bindO (self39 (⟨z1, z2, z3, z4, z5⟩ : Node)) fun r => some (v39 r) :=
  TL_hit ar39.inj (⟨z1, z2, z3, z4, z5⟩ : Node) (by simp only [push_cast] <;> rfl)
/-! ## 75: quantale/quantaleref01.Letter -/
@[push_cast] def H75 : Nat → Hint
  | _ => ⟨[], [], []⟩
def F75 (c : Int) : Option (Bool) :=
  iteO (decide (c ≥ 97))
  (iteO (decide (c ≤ 122))
    (some true)
    (iteO (decide (c ≥ 65))
      (some (decide (c ≤ 90)))
      (some false)))
  (iteO (decide (c ≥ 65))
    (some (decide (c ≤ 90)))
    (some false))
@[push_cast] def ar75 : Rs Int := rsO (rI .u8)
@[push_cast] def v75 (r : Bool) : AV := .bool r
@[push_cast] def sh75 : Shp := .one (.leaf none)
noncomputable def t75 : List AV → Option AV := TL ar75.e fun x => bindO (F75 x) fun r => some (v75 r)
/-! ## 121: quantale/quantaleref01.Words -/
@[push_cast] def H121 : Nat → Hint
  | _ => ⟨[], [], []⟩
def F121  : Option (List ByteArray) :=
  some ([(⟨#[116, 114, 117, 101]⟩ : ByteArray), (⟨#[102, 97, 108, 115, 101]⟩ : ByteArray), (⟨#[105, 110]⟩ : ByteArray), (⟨#[115, 117, 98]⟩ : ByteArray), (⟨#[101, 109, 112, 116, 121]⟩ : ByteArray), (⟨#[115, 105, 110, 103]⟩ : ByteArray), (⟨#[99, 117, 112]⟩ : ByteArray), (⟨#[99, 97, 112]⟩ : ByteArray), (⟨#[100, 105, 102, 102]⟩ : ByteArray), (⟨#[115, 101, 108]⟩ : ByteArray), (⟨#[115, 116, 111]⟩ : ByteArray), (⟨#[118, 108, 101, 110]⟩ : ByteArray), (⟨#[105, 116, 101]⟩ : ByteArray)])
@[push_cast] def ar121 : Rs Unit := rsN
@[push_cast] def v121 (r : List ByteArray) : AV := .sl false 1 (List.map cS r)
@[push_cast] def sh121 : Shp := .one (.leaf (some 1))
noncomputable def t121 : List AV → Option AV := TL ar121.e fun x => bindO (F121) fun r => some (v121 r)
/-! ## 76: quantale/quantaleref01.Word -/
@[push_cast] def H76 : Nat → Hint
  | 0 => ⟨[0, 5, 6, 7], [], []⟩
  | 1 => ⟨[], [0, 5, 6, 7], []⟩
  | _ => ⟨[], [], []⟩
def F76_s1 (s : ByteArray) (s4 : Unit) (i2 : Nat) (x3 : ByteArray) : Option (Sum (Unit) (Bool)) :=
  iteO (x3.toList == s.toList)
  (some (.inr true))
  (some (.inl ()))
def F76_f1  (s4 : Unit) : Option (Bool) :=
  some false
def F76 (N : Nat) (s : ByteArray) : Option (Bool) :=
  bindO (F121) fun r1 =>
  foldN (S := Unit) (F76_s1 s) (F76_f1) N r1 0 ()
@[push_cast] def ar76 : Rs ByteArray := rsO rS
@[push_cast] def v76 (r : Bool) : AV := .bool r
@[push_cast] def sh76 : Shp := .one (.leaf none)
noncomputable def t76 (N : Nat) : List AV → Option AV := TL ar76.e fun x => bindO (F76 N x) fun r => some (v76 r)
@[push_cast] theorem t121_1  : t121 [] = bindO (F121) fun r => some (v121 r) :=
  TL_hit ar121.inj () (by simp only [push_cast] <;> rfl)
/-! ## 77: quantale/quantaleref01.Digit -/
@[push_cast] def H77 : Nat → Hint
  | _ => ⟨[], [], []⟩
def F77 (c : Int) : Option (Bool) :=
  iteO (decide (c ≥ 48))
  (some (decide (c ≤ 57)))
  (some false)
@[push_cast] def ar77 : Rs Int := rsO (rI .u8)
@[push_cast] def v77 (r : Bool) : AV := .bool r
@[push_cast] def sh77 : Shp := .one (.leaf none)
noncomputable def t77 : List AV → Option AV := TL ar77.e fun x => bindO (F77 x) fun r => some (v77 r)
/-! ## 17: quantale/quantaleref01.Name -/
@[push_cast] def H17 : Nat → Hint
  | 0 => ⟨[0, 3], [], []⟩
  | 1 => ⟨[], [0, 3], []⟩
  | _ => ⟨[], [], []⟩
def F17_s1 (s : ByteArray) (s3 : Int) : Option (Sum (Int) (Bool)) :=
  iteO (decide (s3 < (s.size : Int)))
  (iteO (inB s3 s.size)
    (bindO (F75 (bt s s3)) fun r4 =>
      iteO r4
      (some (.inl (IntKind.i64.wrap (s3 + 1))))
      (bindO (F77 (bt s s3)) fun r5 =>
        iteO r5
        (some (.inl (IntKind.i64.wrap (s3 + 1))))
        (iteO ((bt s s3) == 46)
          (some (.inl (IntKind.i64.wrap (s3 + 1))))
          (some (.inr false)))))
    (none))
  (some (.inr true))
def F17 (N : Nat) (s : ByteArray) : Option (Bool) :=
  iteO ((s.size : Int) == 0)
  (some false)
  (iteO (decide ((s.size : Int) > 24))
    (some false)
    (iteO (inB 0 s.size)
      (bindO (F75 (bt s 0)) fun r1 =>
        iteO r1
        (bindO (F76 N s) fun r2 =>
          iteO r2
          (some false)
          (whileN (S := Int) (F17_s1 s) N 1))
        (some false))
      (none)))
@[push_cast] def ar17 : Rs ByteArray := rsO rS
@[push_cast] def v17 (r : Bool) : AV := .bool r
@[push_cast] def sh17 : Shp := .one (.leaf none)
noncomputable def t17 (N : Nat) : List AV → Option AV := TL ar17.e fun x => bindO (F17 N x) fun r => some (v17 r)
@[push_cast] theorem t75_1 (z1 : Int) : t75 [.int .u8 z1] = bindO (F75 z1) fun r => some (v75 r) :=
  TL_hit ar75.inj z1 (by simp only [push_cast] <;> rfl)
@[push_cast] theorem t76_1 {N : Nat} (z1 : ByteArray) : t76 N [.str z1] = bindO (F76 N z1) fun r => some (v76 r) :=
  TL_hit ar76.inj z1 (by simp only [push_cast] <;> rfl)
@[push_cast] theorem t77_1 (z1 : Int) : t77 [.int .u8 z1] = bindO (F77 z1) fun r => some (v77 r) :=
  TL_hit ar77.inj z1 (by simp only [push_cast] <;> rfl)
/-! ## 118: quantale/quantaleref01.own -/
@[push_cast] def H118 : Nat → Hint
  | 0 => ⟨[], [1], []⟩
  | _ => ⟨[], [], []⟩
def F118 (N : Nat) (n : Node) : Option (Bool) :=
  iteO (n.op == 1)
  (bindO (F17 N n.name) fun r2 =>
    iteO r2
    (iteO (decide (n.sortf < 1))
      (some false)
      (iteO (decide (n.sortf > 5))
        (some false)
        (iteO (n.op == 2)
          (iteO (decide (n.num ≥ (-1000000000000)))
            (some (decide (n.num ≤ 1000000000000)))
            (some false))
          (iteO (n.op == 7)
            (iteO (decide (n.num ≥ (-1000000000000)))
              (some (decide (n.num ≤ 1000000000000)))
              (some false))
            (iteO (n.op == 42)
              (iteO (decide (n.num ≥ 0))
                (some (decide (n.num < 200)))
                (some false))
              (some (n.num == 0)))))))
    (some false))
  (iteO (n.op == 3)
    (bindO (F17 N n.name) fun r1 =>
      iteO r1
      (iteO (decide (n.sortf < 1))
        (some false)
        (iteO (decide (n.sortf > 5))
          (some false)
          (iteO (n.op == 2)
            (iteO (decide (n.num ≥ (-1000000000000)))
              (some (decide (n.num ≤ 1000000000000)))
              (some false))
            (iteO (n.op == 7)
              (iteO (decide (n.num ≥ (-1000000000000)))
                (some (decide (n.num ≤ 1000000000000)))
                (some false))
              (iteO (n.op == 42)
                (iteO (decide (n.num ≥ 0))
                  (some (decide (n.num < 200)))
                  (some false))
                (some (n.num == 0)))))))
      (some false))
    (iteO (n.name.toList == (⟨#[]⟩ : ByteArray).toList)
      (iteO (n.sortf == 0)
        (iteO (n.op == 2)
          (iteO (decide (n.num ≥ (-1000000000000)))
            (some (decide (n.num ≤ 1000000000000)))
            (some false))
          (iteO (n.op == 7)
            (iteO (decide (n.num ≥ (-1000000000000)))
              (some (decide (n.num ≤ 1000000000000)))
              (some false))
            (iteO (n.op == 42)
              (iteO (decide (n.num ≥ 0))
                (some (decide (n.num < 200)))
                (some false))
              (some (n.num == 0)))))
        (some false))
      (some false)))
@[push_cast] def ar118 : Rs Node := rsO rNode
@[push_cast] def v118 (r : Bool) : AV := .bool r
@[push_cast] def sh118 : Shp := .one (.leaf none)
noncomputable def t118 (N : Nat) : List AV → Option AV := TL ar118.e fun x => bindO (F118 N x) fun r => some (v118 r)
@[push_cast] theorem t17_1 {N : Nat} (z1 : ByteArray) : t17 N [.str z1] = bindO (F17 N z1) fun r => some (v17 r) :=
  TL_hit ar17.inj z1 (by simp only [push_cast] <;> rfl)
/-! ## 119: quantale/quantaleref01.plain -/
@[push_cast] def H119 : Nat → Hint
  | _ => ⟨[], [], []⟩
def F119 (s : Int) : Option (Bool) :=
  iteO (s == 1)
  (some true)
  (iteO (s == 3)
    (some true)
    (iteO (s == 4)
      (some true)
      (some (s == 5))))
@[push_cast] def ar119 : Rs Int := rsO (rI .i64)
@[push_cast] def v119 (r : Bool) : AV := .bool r
@[push_cast] def sh119 : Shp := .one (.leaf none)
noncomputable def t119 : List AV → Option AV := TL ar119.e fun x => bindO (F119 x) fun r => some (v119 r)
/-! ## 120: quantale/quantaleref01.Wants -/
@[push_cast] def H120 : Nat → Hint
  | _ => ⟨[], [], []⟩
def F120 (op : Int) : Option ((List Int) × Bool) :=
  iteO (op == 1)
  (some ([], true))
  (iteO (op == 2)
    (some ([], true))
    (iteO (op == 9)
      (some ([], true))
      (iteO (op == 30)
        (some ([], true))
        (iteO (op == 31)
          (some ([], true))
          (iteO (op == 6)
            (some ([1], true))
            (iteO (op == 7)
              (some ([1], true))
              (iteO (op == 10)
                (some ([1], true))
                (iteO (op == 4)
                  (some ([1, 1], true))
                  (iteO (op == 5)
                    (some ([1, 1], true))
                    (iteO (op == 38)
                      (some ([1, 1], true))
                      (iteO (op == 39)
                        (some ([1, 1], true))
                        (iteO (op == 11)
                          (some ([4, 4], true))
                          (iteO (op == 12)
                            (some ([4, 4], true))
                            (iteO (op == 13)
                              (some ([4, 4], true))
                              (iteO (op == 41)
                                (some ([4, 4], true))
                                (iteO (op == 40)
                                  (some ([1, 4], true))
                                  (iteO (op == 14)
                                    (some ([5, 1], true))
                                    (iteO (op == 15)
                                      (some ([5, 1, 1], true))
                                      (iteO (op == 16)
                                        (some ([5], true))
                                        (iteO (op == 32)
                                          (some ([2], true))
                                          (iteO (op == 33)
                                            (some ([2, 2], true))
                                            (iteO (op == 34)
                                              (some ([2, 2], true))
                                              (iteO (op == 35)
                                                (some ([2, 2], true))
                                                (iteO (op == 36)
                                                  (some ([2, 2], true))
                                                  (some ([], false))))))))))))))))))))))))))
@[push_cast] def ar120 : Rs Int := rsO (rI .i64)
@[push_cast] def v120 (r : (List Int) × Bool) : AV := .tuple [.sl false 1 (List.map (cI .i64) r.1), .bool r.2]
@[push_cast] def sh120 : Shp := .tup [.leaf (some 1), .leaf none]
noncomputable def t120 : List AV → Option AV := TL ar120.e fun x => bindO (F120 x) fun r => some (v120 r)
/-! ## 72: quantale/quantaleref01.Sorted -/
@[push_cast] def H72 : Nat → Hint
  | 0 => ⟨[1, 13, 14, 15], [1], []⟩
  | 1 => ⟨[], [1, 13, 14, 15], []⟩
  | 2 => ⟨[], [1], []⟩
  | 3 => ⟨[1, 121, 122, 123], [], []⟩
  | 4 => ⟨[], [1, 121, 122, 123], []⟩
  | _ => ⟨[], [], []⟩
def F72_s1 (self72 : Node → Option (Bool)) (s4 : Unit) (i2 : Nat) (x3 : Node) : Option (Sum (Unit) (Bool)) :=
  bindO (self72 x3) fun r5 =>
  iteO r5
  (some (.inl ()))
  (some (.inr false))
def F72_s2 (N : Nat) (n : Node) (s23 : Unit) (i21 : Nat) (x22 : Int) : Option (Sum (Unit) (Bool)) :=
  bindO (atO n.kids (i21 : Int)) fun x24 =>
  bindO (F28 N x24) fun r25 =>
  iteO (r25 == x22)
  (some (.inl ()))
  (some (.inr false))
def F72_f2  (s23 : Unit) : Option (Bool) :=
  some true
def F72_f1 (N : Nat) (n : Node) (s4 : Unit) : Option (Bool) :=
  iteO (n.op == 3)
  (some (decide ((n.kids.length : Int) ≤ 8)))
  (iteO (n.op == 42)
    (iteO (decide ((n.kids.length : Int) ≥ 1))
      (some (decide ((n.kids.length : Int) ≤ 40)))
      (some false))
    (iteO (n.op == 37)
      (iteO ((n.kids.length : Int) == 2)
        (bindO (atO n.kids 0) fun x6 =>
          bindO (F28 N x6) fun r7 =>
          bindO (atO n.kids 1) fun x8 =>
          bindO (F28 N x8) fun r9 =>
          iteO (r7 == r9)
          (bindO (F28 N x6) fun r10 =>
            bindO (F119 r10) fun r11 =>
            some r11)
          (some false))
        (some false))
      (iteO (n.op == 8)
        (iteO ((n.kids.length : Int) == 3)
          (bindO (atO n.kids 0) fun x12 =>
            bindO (F28 N x12) fun r13 =>
            iteO (r13 == 2)
            (bindO (atO n.kids 1) fun x14 =>
              bindO (F28 N x14) fun r15 =>
              bindO (atO n.kids 2) fun x16 =>
              bindO (F28 N x16) fun r17 =>
              iteO (r15 == r17)
              (bindO (F28 N x14) fun r18 =>
                bindO (F119 r18) fun r19 =>
                some r19)
              (some false))
            (some false))
          (some false))
        (bindO (F120 n.op) fun r20 =>
          iteO r20.2
          (iteO ((r20.1.length : Int) == (n.kids.length : Int))
            (foldN (S := Unit) (F72_s2 N n) (F72_f2) N r20.1 0 ())
            (some false))
          (some false)))))
def F72b (self72 : Node → Option (Bool)) (N : Nat) (n : Node) : Option (Bool) :=
  bindO (F118 N n) fun r1 =>
  iteO r1
  (foldN (S := Unit) (F72_s1 self72) (F72_f1 N n) N n.kids 0 ())
  (some false)
def F72 : Nat → Node → Option (Bool)
  | 0 => fun _ => none
  | N + 1 => fun n => F72b (F72 N) N n
@[push_cast] def ar72 : Rs Node := rsO rNode
@[push_cast] def v72 (r : Bool) : AV := .bool r
@[push_cast] def sh72 : Shp := .one (.leaf none)
noncomputable def t72 (N : Nat) : List AV → Option AV := TL ar72.e fun x => bindO (F72 N x) fun r => some (v72 r)
noncomputable def ts72 (self72 : Node → Option (Bool)) : List AV → Option AV := TL ar72.e fun x => bindO (self72 x) fun r => some (v72 r)
@[push_cast] theorem t118_1 {N : Nat} (z1 : Int) (z2 : Int) (z3 : ByteArray) (z4 : Int) (z5 : List Node) : t118 N [.agg [.int .i64 z1, .int .i64 z2, .str z3, .int .i64 z4, .sl false 5 (List.map Node.cells z5)]] = bindO (F118 N (⟨z1, z2, z3, z4, z5⟩ : Node)) fun r => some (v118 r) :=
  TL_hit ar118.inj (⟨z1, z2, z3, z4, z5⟩ : Node) (by simp only [push_cast] <;> rfl)
@[push_cast] theorem t72_1 (self72 : Node → Option (Bool)) (z1 : Int) (z2 : Int) (z3 : ByteArray) (z4 : Int) (z5 : List Node) : ts72 self72 [.agg [.int .i64 z1, .int .i64 z2, .str z3, .int .i64 z4, .sl false 5 (List.map Node.cells z5)]] = bindO (self72 (⟨z1, z2, z3, z4, z5⟩ : Node)) fun r => some (v72 r) :=
  TL_hit ar72.inj (⟨z1, z2, z3, z4, z5⟩ : Node) (by simp only [push_cast] <;> rfl)
@[push_cast] theorem t28_2 {N : Nat} (z1 : Int) (z2 : Int) (z3 : ByteArray) (z4 : Int) (z5 : List Node) : t28 N [.agg [.int .i64 z1, .int .i64 z2, .str z3, .int .i64 z4, .sl false 5 (List.map Node.cells z5)]] = bindO (F28 N (⟨z1, z2, z3, z4, z5⟩ : Node)) fun r => some (v28 r) :=
  TL_hit ar28.inj (⟨z1, z2, z3, z4, z5⟩ : Node) (by simp only [push_cast] <;> rfl)
@[push_cast] theorem t119_1 (z1 : Int) : t119 [.int .i64 z1] = bindO (F119 z1) fun r => some (v119 r) :=
  TL_hit ar119.inj z1 (by simp only [push_cast] <;> rfl)
@[push_cast] theorem t120_1 (z1 : Int) : t120 [.int .i64 z1] = bindO (F120 z1) fun r => some (v120 r) :=
  TL_hit ar120.inj z1 (by simp only [push_cast] <;> rfl)
/-! ## 168: quantale/quantaleref01.ahead -/
@[push_cast] def H168 : Nat → Hint
  | _ => ⟨[], [], []⟩
def F168 (a : Decl) (b : Decl) : Option (Bool) :=
  iteO (Op.bytesLess a.declName.toList b.declName.toList)
  (some true)
  (iteO (a.declName.toList == b.declName.toList)
    (some (decide (a.declSort < b.declSort)))
    (some false))
@[push_cast] def ar168 : Rs (Decl × Decl) := rsC rDecl (rsO rDecl)
@[push_cast] def v168 (r : Bool) : AV := .bool r
@[push_cast] def sh168 : Shp := .one (.leaf none)
noncomputable def t168 : List AV → Option AV := TL ar168.e fun x => bindO (F168 x.1 x.2) fun r => some (v168 r)
/-! ## 140: quantale/quantaleref01.putDecl -/
@[push_cast] def H140 : Nat → Hint
  | 0 => ⟨[3, 5, 6, 9, 10, 11], [3, 5, 6], []⟩
  | 1 => ⟨[], [3, 5, 6, 9, 10, 11], []⟩
  | _ => ⟨[], [], []⟩
def F140_s1 (d : Decl) (s3 : (List Decl) × Bool) (i1 : Nat) (x2 : Decl) : Option (Sum ((List Decl) × Bool) (List Decl)) :=
  iteO ((x2.declName.toList == d.declName.toList) && (x2.declSort == d.declSort))
  (iteO (fits (s3.1.length + 1) 24)
    (some (.inl (s3.1 ++ ([x2]), true)))
    (none))
  (iteO s3.2
    (iteO (fits (s3.1.length + 1) 24)
      (some (.inl (s3.1 ++ ([x2]), s3.2)))
      (none))
    (bindO (F168 d x2) fun r4 =>
      iteO r4
      (iteO (fits (s3.1.length + 1) 24)
        (iteO (fits (s3.1.length + 1 + 1) 24)
          (some (.inl ((s3.1 ++ ([d])) ++ ([x2]), true)))
          (none))
        (none))
      (iteO (fits (s3.1.length + 1) 24)
        (some (.inl (s3.1 ++ ([x2]), s3.2)))
        (none))))
def F140_f1 (d : Decl) (s3 : (List Decl) × Bool) : Option (List Decl) :=
  iteO s3.2
  (some s3.1)
  (iteO (fits (s3.1.length + 1) 24)
    (some (s3.1 ++ ([d])))
    (none))
def F140 (N : Nat) (l : List Decl) (d : Decl) : Option (List Decl) :=
  foldN (S := (List Decl) × Bool) (F140_s1 d) (F140_f1 d) N l 0 ([], false)
@[push_cast] def ar140 : Rs ((List Decl) × Decl) := rsC (rL 2 Decl.cells Decl.cells_inj) (rsO rDecl)
@[push_cast] def v140 (r : List Decl) : AV := .sl false 2 (List.map Decl.cells r)
@[push_cast] def sh140 : Shp := .one (.leaf (some 2))
noncomputable def t140 (N : Nat) : List AV → Option AV := TL ar140.e fun x => bindO (F140 N x.1 x.2) fun r => some (v140 r)
@[push_cast] theorem t168_1 (z1 : ByteArray) (z2 : Int) (z3 : ByteArray) (z4 : Int) : t168 [.agg [.str z1, .int .i64 z2], .agg [.str z3, .int .i64 z4]] = bindO (F168 (⟨z1, z2⟩ : Decl) (⟨z3, z4⟩ : Decl)) fun r => some (v168 r) :=
  TL_hit ar168.inj ((⟨z1, z2⟩ : Decl), (⟨z3, z4⟩ : Decl)) (by simp only [push_cast] <;> rfl)
/-! ## 95: quantale/quantaleref01.gather -/
@[push_cast] def H95 : Nat → Hint
  | 0 => ⟨[0, 18, 19, 20], [0], []⟩
  | 1 => ⟨[], [0, 18, 19, 20], []⟩
  | _ => ⟨[], [], []⟩
def F95_s1 (self95 : (List Decl) → Node → Option (List Decl)) (s4 : List Decl) (i2 : Nat) (x3 : Node) : Option (Sum (List Decl) (List Decl)) :=
  bindO (self95 s4 x3) fun r5 =>
  some (.inl r5)
def F95_f1  (s4 : List Decl) : Option (List Decl) :=
  some s4
def F95_s2 (self95 : (List Decl) → Node → Option (List Decl)) (s8 : List Decl) (i6 : Nat) (x7 : Node) : Option (Sum (List Decl) (List Decl)) :=
  bindO (self95 s8 x7) fun r9 =>
  some (.inl r9)
def F95_f2  (s8 : List Decl) : Option (List Decl) :=
  some s8
def F95b (self95 : (List Decl) → Node → Option (List Decl)) (N : Nat) (l : List Decl) (n : Node) : Option (List Decl) :=
  iteO (n.op == 1)
  (bindO (F140 N l (⟨n.name, n.sortf⟩ : Decl)) fun r1 =>
    foldN (S := List Decl) (F95_s1 self95) (F95_f1) N n.kids 0 r1)
  (foldN (S := List Decl) (F95_s2 self95) (F95_f2) N n.kids 0 l)
def F95 : Nat → (List Decl) → Node → Option (List Decl)
  | 0 => fun _ _ => none
  | N + 1 => fun l n => F95b (F95 N) N l n
@[push_cast] def ar95 : Rs ((List Decl) × Node) := rsC (rL 2 Decl.cells Decl.cells_inj) (rsO rNode)
@[push_cast] def v95 (r : List Decl) : AV := .sl false 2 (List.map Decl.cells r)
@[push_cast] def sh95 : Shp := .one (.leaf (some 2))
noncomputable def t95 (N : Nat) : List AV → Option AV := TL ar95.e fun x => bindO (F95 N x.1 x.2) fun r => some (v95 r)
noncomputable def ts95 (self95 : (List Decl) → Node → Option (List Decl)) : List AV → Option AV := TL ar95.e fun x => bindO (self95 x.1 x.2) fun r => some (v95 r)
@[push_cast] theorem t140_1 {N : Nat} (z1 : List Decl) (z2 : ByteArray) (z3 : Int) : t140 N [.sl false 2 (List.map Decl.cells z1), .agg [.str z2, .int .i64 z3]] = bindO (F140 N z1 (⟨z2, z3⟩ : Decl)) fun r => some (v140 r) :=
  TL_hit ar140.inj (z1, (⟨z2, z3⟩ : Decl)) (by simp only [push_cast] <;> rfl)
@[push_cast] theorem t95_1 (self95 : (List Decl) → Node → Option (List Decl)) (z1 : List Decl) (z2 : Int) (z3 : Int) (z4 : ByteArray) (z5 : Int) (z6 : List Node) : ts95 self95 [.sl false 2 (List.map Decl.cells z1), .agg [.int .i64 z2, .int .i64 z3, .str z4, .int .i64 z5, .sl false 5 (List.map Node.cells z6)]] = bindO (self95 z1 (⟨z2, z3, z4, z5, z6⟩ : Node)) fun r => some (v95 r) :=
  TL_hit ar95.inj (z1, (⟨z2, z3, z4, z5, z6⟩ : Node)) (by simp only [push_cast] <;> rfl)
/-! ## 47: quantale/quantaleref01.Vars -/
@[push_cast] def H47 : Nat → Hint
  | _ => ⟨[], [], []⟩
def F47 (N : Nat) (n : Node) : Option (List Decl) :=
  bindO (F95 N ([]) n) fun r1 =>
  some r1
@[push_cast] def ar47 : Rs Node := rsO rNode
@[push_cast] def v47 (r : List Decl) : AV := .sl false 2 (List.map Decl.cells r)
@[push_cast] def sh47 : Shp := .one (.leaf (some 2))
noncomputable def t47 (N : Nat) : List AV → Option AV := TL ar47.e fun x => bindO (F47 N x) fun r => some (v47 r)
@[push_cast] theorem t95_2 {N : Nat} (z2 : Int) (z3 : Int) (z4 : ByteArray) (z5 : Int) (z6 : List Node) : t95 N [.sl true 0 [], .agg [.int .i64 z2, .int .i64 z3, .str z4, .int .i64 z5, .sl false 5 (List.map Node.cells z6)]] = bindO (F95 N ([]) (⟨z2, z3, z4, z5, z6⟩ : Node)) fun r => some (v95 r) :=
  TL_hit ar95.inj ([], (⟨z2, z3, z4, z5, z6⟩ : Node)) (by simp only [push_cast] <;> rfl)
@[push_cast] theorem t95_3 {N : Nat} (z2 : Int) (z3 : Int) (z4 : ByteArray) (z5 : Int) (z6 : List Node) : t95 N [.sl false 0 [], .agg [.int .i64 z2, .int .i64 z3, .str z4, .int .i64 z5, .sl false 5 (List.map Node.cells z6)]] = bindO (F95 N ([]) (⟨z2, z3, z4, z5, z6⟩ : Node)) fun r => some (v95 r) :=
  TL_hit ar95.inj ([], (⟨z2, z3, z4, z5, z6⟩ : Node)) (by simp only [push_cast] <;> rfl)
/-! ## 92: quantale/quantaleref01.constant -/
@[push_cast] def H92 : Nat → Hint
  | 0 => ⟨[1, 23, 24, 25], [], []⟩
  | 1 => ⟨[], [1, 23, 24, 25], []⟩
  | _ => ⟨[], [], []⟩
def F92_s1 (self92 : Node → ByteArray → Option (Bool)) (name : ByteArray) (s3 : Unit) (i1 : Nat) (x2 : Node) : Option (Sum (Unit) (Bool)) :=
  bindO (self92 x2 name) fun r4 =>
  iteO r4
  (some (.inr true))
  (some (.inl ()))
def F92_f1  (s3 : Unit) : Option (Bool) :=
  some false
def F92_s2 (self92 : Node → ByteArray → Option (Bool)) (name : ByteArray) (s7 : Unit) (i5 : Nat) (x6 : Node) : Option (Sum (Unit) (Bool)) :=
  bindO (self92 x6 name) fun r8 =>
  iteO r8
  (some (.inr true))
  (some (.inl ()))
def F92_f2  (s7 : Unit) : Option (Bool) :=
  some false
def F92_s3 (self92 : Node → ByteArray → Option (Bool)) (name : ByteArray) (s11 : Unit) (i9 : Nat) (x10 : Node) : Option (Sum (Unit) (Bool)) :=
  bindO (self92 x10 name) fun r12 =>
  iteO r12
  (some (.inr true))
  (some (.inl ()))
def F92_f3  (s11 : Unit) : Option (Bool) :=
  some false
def F92b (self92 : Node → ByteArray → Option (Bool)) (N : Nat) (n : Node) (name : ByteArray) : Option (Bool) :=
  iteO (n.op == 3)
  (iteO (n.name.toList == name.toList)
    (iteO ((n.kids.length : Int) == 0)
      (some true)
      (foldN (S := Unit) (F92_s1 self92 name) (F92_f1) N n.kids 0 ()))
    (foldN (S := Unit) (F92_s2 self92 name) (F92_f2) N n.kids 0 ()))
  (foldN (S := Unit) (F92_s3 self92 name) (F92_f3) N n.kids 0 ())
def F92 : Nat → Node → ByteArray → Option (Bool)
  | 0 => fun _ _ => none
  | N + 1 => fun n name => F92b (F92 N) N n name
@[push_cast] def ar92 : Rs (Node × ByteArray) := rsC rNode (rsO rS)
@[push_cast] def v92 (r : Bool) : AV := .bool r
@[push_cast] def sh92 : Shp := .one (.leaf none)
noncomputable def t92 (N : Nat) : List AV → Option AV := TL ar92.e fun x => bindO (F92 N x.1 x.2) fun r => some (v92 r)
noncomputable def ts92 (self92 : Node → ByteArray → Option (Bool)) : List AV → Option AV := TL ar92.e fun x => bindO (self92 x.1 x.2) fun r => some (v92 r)
@[push_cast] theorem t92_1 (self92 : Node → ByteArray → Option (Bool)) (z1 : Int) (z2 : Int) (z3 : ByteArray) (z4 : Int) (z5 : List Node) (z6 : ByteArray) : ts92 self92 [.agg [.int .i64 z1, .int .i64 z2, .str z3, .int .i64 z4, .sl false 5 (List.map Node.cells z5)], .str z6] = bindO (self92 (⟨z1, z2, z3, z4, z5⟩ : Node) z6) fun r => some (v92 r) :=
  TL_hit ar92.inj ((⟨z1, z2, z3, z4, z5⟩ : Node), z6) (by simp only [push_cast] <;> rfl)
/-! ## 41: quantale/quantaleref01.Uniform -/
@[push_cast] def H41 : Nat → Hint
  | 0 => ⟨[1, 3, 4], [1, 3], []⟩
  | 1 => ⟨[], [1, 3, 4], []⟩
  | 2 => ⟨[1, 27, 28, 29], [], []⟩
  | 3 => ⟨[], [1, 27, 28, 29], []⟩
  | _ => ⟨[], [], []⟩
def F41_s2 (N : Nat) (n : Node) (s7 : Unit) (i5 : Nat) (x6 : Decl) : Option (Sum (Unit) (Bool)) :=
  bindO (F92 N n x6.declName) fun r8 =>
  iteO r8
  (some (.inr false))
  (some (.inl ()))
def F41_f2  (s7 : Unit) : Option (Bool) :=
  some true
def F41_s1 (N : Nat) (n : Node) (r1 : List Decl) (s2 : Int) : Option (Sum (Int) (Bool)) :=
  iteO (decide (s2 < (r1.length : Int)))
  (bindO (atO r1 (IntKind.i64.wrap (s2 - 1))) fun x3 =>
    bindO (atO r1 s2) fun x4 =>
    iteO (x3.declName.toList == x4.declName.toList)
    (some (.inr false))
    (some (.inl (IntKind.i64.wrap (s2 + 1)))))
  (bindO (foldN (S := Unit) (F41_s2 N n) (F41_f2) N r1 0 ()) fun yy => some (.inr yy))
def F41 (N : Nat) (n : Node) : Option (Bool) :=
  bindO (F47 N n) fun r1 =>
  whileN (S := Int) (F41_s1 N n r1) N 1
@[push_cast] def ar41 : Rs Node := rsO rNode
@[push_cast] def v41 (r : Bool) : AV := .bool r
@[push_cast] def sh41 : Shp := .one (.leaf none)
noncomputable def t41 (N : Nat) : List AV → Option AV := TL ar41.e fun x => bindO (F41 N x) fun r => some (v41 r)
@[push_cast] theorem t47_1 {N : Nat} (z1 : Int) (z2 : Int) (z3 : ByteArray) (z4 : Int) (z5 : List Node) : t47 N [.agg [.int .i64 z1, .int .i64 z2, .str z3, .int .i64 z4, .sl false 5 (List.map Node.cells z5)]] = bindO (F47 N (⟨z1, z2, z3, z4, z5⟩ : Node)) fun r => some (v47 r) :=
  TL_hit ar47.inj (⟨z1, z2, z3, z4, z5⟩ : Node) (by simp only [push_cast] <;> rfl)
@[push_cast] theorem t92_2 {N : Nat} (z1 : Int) (z2 : Int) (z3 : ByteArray) (z4 : Int) (z5 : List Node) (z6 : ByteArray) : t92 N [.agg [.int .i64 z1, .int .i64 z2, .str z3, .int .i64 z4, .sl false 5 (List.map Node.cells z5)], .str z6] = bindO (F92 N (⟨z1, z2, z3, z4, z5⟩ : Node) z6) fun r => some (v92 r) :=
  TL_hit ar92.inj ((⟨z1, z2, z3, z4, z5⟩ : Node), z6) (by simp only [push_cast] <;> rfl)
/-! ## 15: quantale/quantaleref01.Check -/
@[push_cast] def H15 : Nat → Hint
  | _ => ⟨[], [], []⟩
def F15 (N : Nat) (n : Node) (sortq : Int) : Option (Int) :=
  iteO (decide (sortq < 0))
  (some 1)
  (iteO (decide (sortq > 5))
    (some 1)
    (bindO (F27 N n) fun r1 =>
      iteO (decide (r1 > 4000))
      (some 2)
      (bindO (F39 N n) fun r2 =>
        iteO (decide (r2 > 100))
        (some 2)
        (bindO (F72 N n) fun r3 =>
          iteO r3
          (bindO (F41 N n) fun r4 =>
            iteO r4
            (iteO (sortq == 0)
              (some 0)
              (bindO (F28 N n) fun r5 =>
                iteO (r5 == sortq)
                (some 0)
                (some 10)))
            (some 3))
          (some 3)))))
@[push_cast] def ar15 : Rs (Node × Int) := rsC rNode (rsO (rI .i64))
@[push_cast] def v15 (r : Int) : AV := .int .i64 r
@[push_cast] def sh15 : Shp := .one (.leaf none)
noncomputable def t15 (N : Nat) : List AV → Option AV := TL ar15.e fun x => bindO (F15 N x.1 x.2) fun r => some (v15 r)
@[push_cast] theorem t27_2 {N : Nat} (z1 : Int) (z2 : Int) (z3 : ByteArray) (z4 : Int) (z5 : List Node) : t27 N [.agg [.int .i64 z1, .int .i64 z2, .str z3, .int .i64 z4, .sl false 5 (List.map Node.cells z5)]] = bindO (F27 N (⟨z1, z2, z3, z4, z5⟩ : Node)) fun r => some (v27 r) :=
  TL_hit ar27.inj (⟨z1, z2, z3, z4, z5⟩ : Node) (by simp only [push_cast] <;> rfl)
@[push_cast] theorem t39_2 {N : Nat} (z1 : Int) (z2 : Int) (z3 : ByteArray) (z4 : Int) (z5 : List Node) : t39 N [.agg [.int .i64 z1, .int .i64 z2, .str z3, .int .i64 z4, .sl false 5 (List.map Node.cells z5)]] = bindO (F39 N (⟨z1, z2, z3, z4, z5⟩ : Node)) fun r => some (v39 r) :=
  TL_hit ar39.inj (⟨z1, z2, z3, z4, z5⟩ : Node) (by simp only [push_cast] <;> rfl)
@[push_cast] theorem t72_2 {N : Nat} (z1 : Int) (z2 : Int) (z3 : ByteArray) (z4 : Int) (z5 : List Node) : t72 N [.agg [.int .i64 z1, .int .i64 z2, .str z3, .int .i64 z4, .sl false 5 (List.map Node.cells z5)]] = bindO (F72 N (⟨z1, z2, z3, z4, z5⟩ : Node)) fun r => some (v72 r) :=
  TL_hit ar72.inj (⟨z1, z2, z3, z4, z5⟩ : Node) (by simp only [push_cast] <;> rfl)
@[push_cast] theorem t41_1 {N : Nat} (z1 : Int) (z2 : Int) (z3 : ByteArray) (z4 : Int) (z5 : List Node) : t41 N [.agg [.int .i64 z1, .int .i64 z2, .str z3, .int .i64 z4, .sl false 5 (List.map Node.cells z5)]] = bindO (F41 N (⟨z1, z2, z3, z4, z5⟩ : Node)) fun r => some (v41 r) :=
  TL_hit ar41.inj (⟨z1, z2, z3, z4, z5⟩ : Node) (by simp only [push_cast] <;> rfl)
/-! ## 43: quantale/quantaleref01.Holes -/
@[push_cast] def H43 : Nat → Hint
  | 0 => ⟨[9, 10, 11], [], []⟩
  | 1 => ⟨[], [9, 10, 11], []⟩
  | _ => ⟨[], [], []⟩
def F43_s1 (self43 : Node → Option (Bool)) (s3 : Unit) (i1 : Nat) (x2 : Node) : Option (Sum (Unit) (Bool)) :=
  bindO (self43 x2) fun r4 =>
  iteO r4
  (some (.inr true))
  (some (.inl ()))
def F43_f1  (s3 : Unit) : Option (Bool) :=
  some false
def F43b (self43 : Node → Option (Bool)) (N : Nat) (n : Node) : Option (Bool) :=
  iteO (n.op == 42)
  (some true)
  (foldN (S := Unit) (F43_s1 self43) (F43_f1) N n.kids 0 ())
def F43 : Nat → Node → Option (Bool)
  | 0 => fun _ => none
  | N + 1 => fun n => F43b (F43 N) N n
@[push_cast] def ar43 : Rs Node := rsO rNode
@[push_cast] def v43 (r : Bool) : AV := .bool r
@[push_cast] def sh43 : Shp := .one (.leaf none)
noncomputable def t43 (N : Nat) : List AV → Option AV := TL ar43.e fun x => bindO (F43 N x) fun r => some (v43 r)
noncomputable def ts43 (self43 : Node → Option (Bool)) : List AV → Option AV := TL ar43.e fun x => bindO (self43 x) fun r => some (v43 r)
@[push_cast] theorem t43_1 (self43 : Node → Option (Bool)) (z1 : Int) (z2 : Int) (z3 : ByteArray) (z4 : Int) (z5 : List Node) : ts43 self43 [.agg [.int .i64 z1, .int .i64 z2, .str z3, .int .i64 z4, .sl false 5 (List.map Node.cells z5)]] = bindO (self43 (⟨z1, z2, z3, z4, z5⟩ : Node)) fun r => some (v43 r) :=
  TL_hit ar43.inj (⟨z1, z2, z3, z4, z5⟩ : Node) (by simp only [push_cast] <;> rfl)
/-! ## 181: quantale/quantaleref03.fits -/
@[push_cast] def H181 : Nat → Hint
  | _ => ⟨[], [], []⟩
def F181 (n : Int) : Option (Bool) :=
  iteO (decide (n ≥ (-1152921504606846976)))
  (some (decide (n ≤ 1152921504606846976)))
  (some false)
@[push_cast] def ar181 : Rs Int := rsO (rI .i64)
@[push_cast] def v181 (r : Bool) : AV := .bool r
@[push_cast] def sh181 : Shp := .one (.leaf none)
noncomputable def t181 : List AV → Option AV := TL ar181.e fun x => bindO (F181 x) fun r => some (v181 r)
/-! ## 182: quantale/quantaleref03.ascending -/
@[push_cast] def H182 : Nat → Hint
  | 0 => ⟨[0, 5, 6, 7], [0], []⟩
  | 1 => ⟨[], [0, 5, 6, 7], []⟩
  | _ => ⟨[], [], []⟩
def F182_s1 (l : List Int) (s3 : Unit) (i1 : Nat) (x2 : Int) : Option (Sum (Unit) (Bool)) :=
  bindO (F181 x2) fun r4 =>
  iteO r4
  (iteO (decide ((i1 : Int) > 0))
    (bindO (atO l (IntKind.i64.wrap ((i1 : Int) - 1))) fun x5 =>
      iteO (decide (x5 ≥ x2))
      (some (.inr false))
      (some (.inl ())))
    (some (.inl ())))
  (some (.inr false))
def F182_f1 (l : List Int) (s3 : Unit) : Option (Bool) :=
  some (decide ((l.length : Int) ≤ 200))
def F182 (N : Nat) (l : List Int) : Option (Bool) :=
  foldN (S := Unit) (F182_s1 l) (F182_f1 l) N l 0 ()
@[push_cast] def ar182 : Rs (List Int) := rsO (rL 1 (cI .i64) (cI_inj .i64))
@[push_cast] def v182 (r : Bool) : AV := .bool r
@[push_cast] def sh182 : Shp := .one (.leaf none)
noncomputable def t182 (N : Nat) : List AV → Option AV := TL ar182.e fun x => bindO (F182 N x) fun r => some (v182 r)
@[push_cast] theorem t181_1 (z1 : Int) : t181 [.int .i64 z1] = bindO (F181 z1) fun r => some (v181 r) :=
  TL_hit ar181.inj z1 (by simp only [push_cast] <;> rfl)
/-! ## 171: quantale/quantaleref03.ValidVal -/
@[push_cast] def H171 : Nat → Hint
  | 0 => ⟨[1, 41, 42, 43], [1], []⟩
  | 1 => ⟨[], [1, 41, 42, 43], []⟩
  | 2 => ⟨[], [1], []⟩
  | _ => ⟨[], [], []⟩
def F171_s1  (s6 : Unit) (i4 : Nat) (x5 : Int) : Option (Sum (Unit) (Bool)) :=
  iteO (x5 == 0)
  (some (.inr false))
  (bindO (F181 x5) fun r7 =>
    iteO r7
    (some (.inl ()))
    (some (.inr false)))
def F171_f1 (v : Val) (s6 : Unit) : Option (Bool) :=
  iteO (v.valSort == 2)
  (iteO (v.valNum == 0)
    (iteO ((v.valSet.length : Int) == 0)
      (some ((v.valAt.length : Int) == 0))
      (some false))
    (iteO (v.valNum == 1)
      (iteO ((v.valSet.length : Int) == 0)
        (some ((v.valAt.length : Int) == 0))
        (some false))
      (some false)))
  (iteO (v.valSort == 5)
    (iteO (decide (v.valNum ≥ 0))
      (some ((v.valSet.length : Int) == 0))
      (some false))
    (iteO (v.valSort == 4)
      (iteO (v.valNum == 0)
        (some ((v.valAt.length : Int) == 0))
        (some false))
      (iteO ((v.valSet.length : Int) == 0)
        (some ((v.valAt.length : Int) == 0))
        (some false))))
def F171 (N : Nat) (v : Val) : Option (Bool) :=
  iteO (decide (v.valSort < 1))
  (some false)
  (iteO (decide (v.valSort > 5))
    (some false)
    (bindO (F181 v.valNum) fun r1 =>
      iteO r1
      (bindO (F182 N v.valSet) fun r2 =>
        iteO r2
        (bindO (F182 N v.valAt) fun r3 =>
          iteO r3
          (iteO ((v.valTo.length : Int) == (v.valAt.length : Int))
            (foldN (S := Unit) (F171_s1) (F171_f1 v) N v.valTo 0 ())
            (some false))
          (some false))
        (some false))
      (some false)))
@[push_cast] def ar171 : Rs Val := rsO rVal
@[push_cast] def v171 (r : Bool) : AV := .bool r
@[push_cast] def sh171 : Shp := .one (.leaf none)
noncomputable def t171 (N : Nat) : List AV → Option AV := TL ar171.e fun x => bindO (F171 N x) fun r => some (v171 r)
@[push_cast] theorem t182_1 {N : Nat} (z1 : List Int) : t182 N [.sl false 1 (List.map (cI .i64) z1)] = bindO (F182 N z1) fun r => some (v182 r) :=
  TL_hit ar182.inj z1 (by simp only [push_cast] <;> rfl)
/-! ## 157: quantale/quantaleref03.ValidEntry -/
@[push_cast] def H157 : Nat → Hint
  | 0 => ⟨[22, 23, 24], [], []⟩
  | 1 => ⟨[], [22, 23, 24], []⟩
  | _ => ⟨[], [], []⟩
def F157_s1 (N : Nat) (s5 : Unit) (i3 : Nat) (x4 : Val) : Option (Sum (Unit) (Bool)) :=
  bindO (F171 N x4) fun r6 =>
  iteO r6
  (some (.inl ()))
  (some (.inr false))
def F157_f1  (s5 : Unit) : Option (Bool) :=
  some true
def F157 (N : Nat) (e : Entry) : Option (Bool) :=
  bindO (F17 N e.entryName) fun r1 =>
  iteO r1
  (iteO (decide ((e.entryArgs.length : Int) > 8))
    (some false)
    (bindO (F171 N e.entryVal) fun r2 =>
      iteO r2
      (foldN (S := Unit) (F157_s1 N) (F157_f1) N e.entryArgs 0 ())
      (some false)))
  (some false)
@[push_cast] def ar157 : Rs Entry := rsO rEntry
@[push_cast] def v157 (r : Bool) : AV := .bool r
@[push_cast] def sh157 : Shp := .one (.leaf none)
noncomputable def t157 (N : Nat) : List AV → Option AV := TL ar157.e fun x => bindO (F157 N x) fun r => some (v157 r)
@[push_cast] theorem t171_1 {N : Nat} (z1 : Int) (z2 : Int) (z3 : List Int) (z4 : List Int) (z5 : List Int) : t171 N [.agg [.int .i64 z1, .int .i64 z2, .sl false 1 (List.map (cI .i64) z3), .sl false 1 (List.map (cI .i64) z4), .sl false 1 (List.map (cI .i64) z5)]] = bindO (F171 N (⟨z1, z2, z3, z4, z5⟩ : Val)) fun r => some (v171 r) :=
  TL_hit ar171.inj (⟨z1, z2, z3, z4, z5⟩ : Val) (by simp only [push_cast] <;> rfl)
/-! ## 189: quantale/quantaleref03.Numbers -/
@[push_cast] def H189 : Nat → Hint
  | 0 => ⟨[0, 1, 12, 13], [], []⟩
  | 1 => ⟨[], [0, 1, 12, 13], []⟩
  | _ => ⟨[], [], []⟩
def F189_s1 (b : List Int) (s3 : Unit) (i1 : Nat) (x2 : Int) : Option (Sum (Unit) (Bool)) :=
  bindO (atO b (i1 : Int)) fun x4 =>
  iteO (x2 == x4)
  (some (.inl ()))
  (some (.inr false))
def F189_f1  (s3 : Unit) : Option (Bool) :=
  some true
def F189 (N : Nat) (a : List Int) (b : List Int) : Option (Bool) :=
  iteO ((a.length : Int) == (b.length : Int))
  (foldN (S := Unit) (F189_s1 b) (F189_f1) N a 0 ())
  (some false)
@[push_cast] def ar189 : Rs ((List Int) × (List Int)) := rsC (rL 1 (cI .i64) (cI_inj .i64)) (rsO (rL 1 (cI .i64) (cI_inj .i64)))
@[push_cast] def v189 (r : Bool) : AV := .bool r
@[push_cast] def sh189 : Shp := .one (.leaf none)
noncomputable def t189 (N : Nat) : List AV → Option AV := TL ar189.e fun x => bindO (F189 N x.1 x.2) fun r => some (v189 r)
/-! ## 183: quantale/quantaleref03.Same -/
@[push_cast] def H183 : Nat → Hint
  | _ => ⟨[], [], []⟩
def F183 (N : Nat) (a : Val) (b : Val) : Option (Bool) :=
  iteO (a.valSort == b.valSort)
  (iteO (a.valNum == b.valNum)
    (bindO (F189 N a.valSet b.valSet) fun r1 =>
      iteO r1
      (bindO (F189 N a.valAt b.valAt) fun r2 =>
        iteO r2
        (bindO (F189 N a.valTo b.valTo) fun r3 =>
          some r3)
        (some false))
      (some false))
    (some false))
  (some false)
@[push_cast] def ar183 : Rs (Val × Val) := rsC rVal (rsO rVal)
@[push_cast] def v183 (r : Bool) : AV := .bool r
@[push_cast] def sh183 : Shp := .one (.leaf none)
noncomputable def t183 (N : Nat) : List AV → Option AV := TL ar183.e fun x => bindO (F183 N x.1 x.2) fun r => some (v183 r)
@[push_cast] theorem t189_1 {N : Nat} (z1 : List Int) (z2 : List Int) : t189 N [.sl false 1 (List.map (cI .i64) z1), .sl false 1 (List.map (cI .i64) z2)] = bindO (F189 N z1 z2) fun r => some (v189 r) :=
  TL_hit ar189.inj (z1, z2) (by simp only [push_cast] <;> rfl)
/-! ## 172: quantale/quantaleref03.SameArgs -/
@[push_cast] def H172 : Nat → Hint
  | 0 => ⟨[0, 1, 12, 13], [], []⟩
  | 1 => ⟨[], [0, 1, 12, 13], []⟩
  | _ => ⟨[], [], []⟩
def F172_s1 (N : Nat) (b : List Val) (s3 : Unit) (i1 : Nat) (x2 : Val) : Option (Sum (Unit) (Bool)) :=
  bindO (atO b (i1 : Int)) fun x4 =>
  bindO (F183 N x2 x4) fun r5 =>
  iteO r5
  (some (.inl ()))
  (some (.inr false))
def F172_f1  (s3 : Unit) : Option (Bool) :=
  some true
def F172 (N : Nat) (a : List Val) (b : List Val) : Option (Bool) :=
  iteO ((a.length : Int) == (b.length : Int))
  (foldN (S := Unit) (F172_s1 N b) (F172_f1) N a 0 ())
  (some false)
@[push_cast] def ar172 : Rs ((List Val) × (List Val)) := rsC (rL 5 Val.cells Val.cells_inj) (rsO (rL 5 Val.cells Val.cells_inj))
@[push_cast] def v172 (r : Bool) : AV := .bool r
@[push_cast] def sh172 : Shp := .one (.leaf none)
noncomputable def t172 (N : Nat) : List AV → Option AV := TL ar172.e fun x => bindO (F172 N x.1 x.2) fun r => some (v172 r)
@[push_cast] theorem t183_1 {N : Nat} (z1 : Int) (z2 : Int) (z3 : List Int) (z4 : List Int) (z5 : List Int) (z6 : Int) (z7 : Int) (z8 : List Int) (z9 : List Int) (z10 : List Int) : t183 N [.agg [.int .i64 z1, .int .i64 z2, .sl false 1 (List.map (cI .i64) z3), .sl false 1 (List.map (cI .i64) z4), .sl false 1 (List.map (cI .i64) z5)], .agg [.int .i64 z6, .int .i64 z7, .sl false 1 (List.map (cI .i64) z8), .sl false 1 (List.map (cI .i64) z9), .sl false 1 (List.map (cI .i64) z10)]] = bindO (F183 N (⟨z1, z2, z3, z4, z5⟩ : Val) (⟨z6, z7, z8, z9, z10⟩ : Val)) fun r => some (v183 r) :=
  TL_hit ar183.inj ((⟨z1, z2, z3, z4, z5⟩ : Val), (⟨z6, z7, z8, z9, z10⟩ : Val)) (by simp only [push_cast] <;> rfl)
/-! ## 158: quantale/quantaleref03.Place -/
@[push_cast] def H158 : Nat → Hint
  | _ => ⟨[], [], []⟩
def F158 (N : Nat) (a : Entry) (b : Entry) : Option (Bool) :=
  iteO (a.entryName.toList == b.entryName.toList)
  (iteO (a.entryVal.valSort == b.entryVal.valSort)
    (bindO (F172 N a.entryArgs b.entryArgs) fun r1 =>
      some r1)
    (some false))
  (some false)
@[push_cast] def ar158 : Rs (Entry × Entry) := rsC rEntry (rsO rEntry)
@[push_cast] def v158 (r : Bool) : AV := .bool r
@[push_cast] def sh158 : Shp := .one (.leaf none)
noncomputable def t158 (N : Nat) : List AV → Option AV := TL ar158.e fun x => bindO (F158 N x.1 x.2) fun r => some (v158 r)
@[push_cast] theorem t172_1 {N : Nat} (z1 : List Val) (z2 : List Val) : t172 N [.sl false 5 (List.map Val.cells z1), .sl false 5 (List.map Val.cells z2)] = bindO (F172 N z1 z2) fun r => some (v172 r) :=
  TL_hit ar172.inj (z1, z2) (by simp only [push_cast] <;> rfl)
/-! ## 126: quantale/quantaleref03.Valid -/
@[push_cast] def H126 : Nat → Hint
  | 0 => ⟨[0, 9, 10, 11], [], []⟩
  | 1 => ⟨[], [0, 9, 10, 11], []⟩
  | 2 => ⟨[0, 3, 4, 5, 9, 10, 11], [0, 9, 10, 11], []⟩
  | 3 => ⟨[], [0, 3, 4, 5, 9, 10, 11], []⟩
  | _ => ⟨[], [], []⟩
def F126_s2 (N : Nat) (i1 : Nat) (m : List Entry) (x2 : Entry) (s5 : Int) : Option (Sum (Int) (Sum Unit Bool)) :=
  iteO (decide (s5 < (i1 : Int)))
  (bindO (atO m s5) fun x6 =>
    bindO (F158 N x6 x2) fun r7 =>
    iteO r7
    (some (.inr (.inr false)))
    (some (.inl (IntKind.i64.wrap (s5 + 1)))))
  (some (.inr (.inl ())))
def F126_s1 (N : Nat) (m : List Entry) (s3 : Unit) (i1 : Nat) (x2 : Entry) : Option (Sum (Unit) (Bool)) :=
  bindO (F157 N x2) fun r4 =>
  iteO r4
  (whileN (S := Int) (F126_s2 N i1 m x2) N 0)
  (some (.inr false))
def F126_f1  (s3 : Unit) : Option (Bool) :=
  some true
def F126 (N : Nat) (m : List Entry) : Option (Bool) :=
  iteO (decide ((m.length : Int) > 2000))
  (some false)
  (foldN (S := Unit) (F126_s1 N m) (F126_f1) N m 0 ())
@[push_cast] def ar126 : Rs (List Entry) := rsO (rL 7 Entry.cells Entry.cells_inj)
@[push_cast] def v126 (r : Bool) : AV := .bool r
@[push_cast] def sh126 : Shp := .one (.leaf none)
noncomputable def t126 (N : Nat) : List AV → Option AV := TL ar126.e fun x => bindO (F126 N x) fun r => some (v126 r)
@[push_cast] theorem t157_1 {N : Nat} (z1 : ByteArray) (z2 : List Val) (z3 : Int) (z4 : Int) (z5 : List Int) (z6 : List Int) (z7 : List Int) : t157 N [.agg [.str z1, .sl false 5 (List.map Val.cells z2), .int .i64 z3, .int .i64 z4, .sl false 1 (List.map (cI .i64) z5), .sl false 1 (List.map (cI .i64) z6), .sl false 1 (List.map (cI .i64) z7)]] = bindO (F157 N (⟨z1, z2, (⟨z3, z4, z5, z6, z7⟩ : Val)⟩ : Entry)) fun r => some (v157 r) :=
  TL_hit ar157.inj (⟨z1, z2, (⟨z3, z4, z5, z6, z7⟩ : Val)⟩ : Entry) (by simp only [push_cast] <;> rfl)
@[push_cast] theorem t158_1 {N : Nat} (z1 : ByteArray) (z2 : List Val) (z3 : Int) (z4 : Int) (z5 : List Int) (z6 : List Int) (z7 : List Int) (z8 : ByteArray) (z9 : List Val) (z10 : Int) (z11 : Int) (z12 : List Int) (z13 : List Int) (z14 : List Int) : t158 N [.agg [.str z1, .sl false 5 (List.map Val.cells z2), .int .i64 z3, .int .i64 z4, .sl false 1 (List.map (cI .i64) z5), .sl false 1 (List.map (cI .i64) z6), .sl false 1 (List.map (cI .i64) z7)], .agg [.str z8, .sl false 5 (List.map Val.cells z9), .int .i64 z10, .int .i64 z11, .sl false 1 (List.map (cI .i64) z12), .sl false 1 (List.map (cI .i64) z13), .sl false 1 (List.map (cI .i64) z14)]] = bindO (F158 N (⟨z1, z2, (⟨z3, z4, z5, z6, z7⟩ : Val)⟩ : Entry) (⟨z8, z9, (⟨z10, z11, z12, z13, z14⟩ : Val)⟩ : Entry)) fun r => some (v158 r) :=
  TL_hit ar158.inj ((⟨z1, z2, (⟨z3, z4, z5, z6, z7⟩ : Val)⟩ : Entry), (⟨z8, z9, (⟨z10, z11, z12, z13, z14⟩ : Val)⟩ : Entry)) (by simp only [push_cast] <;> rfl)
/-! ## 159: quantale/quantaleref03.lookup -/
@[push_cast] def H159 : Nat → Hint
  | 0 => ⟨[1, 2, 3, 8, 11, 12, 13], [3, 8], []⟩
  | 1 => ⟨[], [1, 2, 3, 8, 11, 12, 13], []⟩
  | _ => ⟨[], [], []⟩
def F159_s1 (N : Nat) (args : List Val) (name : ByteArray) (sortq : Int) (s3 : Unit) (i1 : Nat) (x2 : Entry) : Option (Sum (Unit) (Val)) :=
  iteO (x2.entryName.toList == name.toList)
  (iteO (x2.entryVal.valSort == sortq)
    (bindO (F172 N x2.entryArgs args) fun r4 =>
      iteO r4
      (some (.inr x2.entryVal))
      (some (.inl ())))
    (some (.inl ())))
  (some (.inl ()))
def F159_f1 (sortq : Int) (s3 : Unit) : Option (Val) :=
  some (⟨sortq, 0, [], [], []⟩ : Val)
def F159 (N : Nat) (m : List Entry) (name : ByteArray) (args : List Val) (sortq : Int) : Option (Val) :=
  foldN (S := Unit) (F159_s1 N args name sortq) (F159_f1 sortq) N m 0 ()
@[push_cast] def ar159 : Rs ((List Entry) × ByteArray × (List Val) × Int) := rsC (rL 7 Entry.cells Entry.cells_inj) (rsC rS (rsC (rL 5 Val.cells Val.cells_inj) (rsO (rI .i64))))
@[push_cast] def v159 (r : Val) : AV := .agg (Val.cells r)
@[push_cast] def sh159 : Shp := .one (.agg [none, none, some 1, some 1, some 1])
noncomputable def t159 (N : Nat) : List AV → Option AV := TL ar159.e fun x => bindO (F159 N x.1 x.2.1 x.2.2.1 x.2.2.2) fun r => some (v159 r)
/-! ## 173: quantale/quantaleref03.number -/
@[push_cast] def H173 : Nat → Hint
  | _ => ⟨[], [], []⟩
def F173 (n : Int) : Option (Val × Bool) :=
  bindO (F181 n) fun r1 =>
  some ((⟨1, n, [], [], []⟩ : Val), r1)
@[push_cast] def ar173 : Rs Int := rsO (rI .i64)
@[push_cast] def v173 (r : Val × Bool) : AV := .tuple [.agg (Val.cells r.1), .bool r.2]
@[push_cast] def sh173 : Shp := .tup [.agg [none, none, some 1, some 1, some 1], .leaf none]
noncomputable def t173 : List AV → Option AV := TL ar173.e fun x => bindO (F173 x) fun r => some (v173 r)
/-! ## 174: quantale/quantaleref03.scaled -/
@[push_cast] def H174 : Nat → Hint
  | _ => ⟨[], [], []⟩
def F174 (c : Int) (n : Int) : Option (Val × Bool) :=
  iteO (n == 0)
  (bindO (F173 (IntKind.i64.wrap (c * n))) fun r4 =>
    some (r4.1, r4.2))
  (iteO (c == 0)
    (bindO (F173 (IntKind.i64.wrap (c * n))) fun r3 =>
      some (r3.1, r3.2))
    (iteO (decide (c < 0))
      (iteO (decide ((IntKind.i64.wrap (0 - c)) = 0))
        (none)
        (iteO (decide ((IntKind.i64.wrap (0 - n)) > (IntKind.i64.wrap ((1152921504606846976 : Int).tdiv (IntKind.i64.wrap (0 - c))))))
          (some ((⟨1, 0, [], [], []⟩ : Val), false))
          (iteO (decide ((IntKind.i64.wrap (0 - n)) < (IntKind.i64.wrap (0 - (IntKind.i64.wrap ((1152921504606846976 : Int).tdiv (IntKind.i64.wrap (0 - c))))))))
            (some ((⟨1, 0, [], [], []⟩ : Val), false))
            (bindO (F173 (IntKind.i64.wrap ((IntKind.i64.wrap (0 - c)) * (IntKind.i64.wrap (0 - n))))) fun r1 =>
              some (r1.1, r1.2)))))
      (iteO (decide (c = 0))
        (none)
        (iteO (decide (n > (IntKind.i64.wrap ((1152921504606846976 : Int).tdiv c))))
          (some ((⟨1, 0, [], [], []⟩ : Val), false))
          (iteO (decide (n < (IntKind.i64.wrap (0 - (IntKind.i64.wrap ((1152921504606846976 : Int).tdiv c))))))
            (some ((⟨1, 0, [], [], []⟩ : Val), false))
            (bindO (F173 (IntKind.i64.wrap (c * n))) fun r2 =>
              some (r2.1, r2.2)))))))
@[push_cast] def ar174 : Rs (Int × Int) := rsC (rI .i64) (rsO (rI .i64))
@[push_cast] def v174 (r : Val × Bool) : AV := .tuple [.agg (Val.cells r.1), .bool r.2]
@[push_cast] def sh174 : Shp := .tup [.agg [none, none, some 1, some 1, some 1], .leaf none]
noncomputable def t174 : List AV → Option AV := TL ar174.e fun x => bindO (F174 x.1 x.2) fun r => some (v174 r)
@[push_cast] theorem t173_1 (z1 : Int) : t173 [.int .i64 z1] = bindO (F173 z1) fun r => some (v173 r) :=
  TL_hit ar173.inj z1 (by simp only [push_cast] <;> rfl)
/-! ## 184: quantale/quantaleref03.has -/
@[push_cast] def H184 : Nat → Hint
  | 0 => ⟨[1, 7, 8, 9], [], []⟩
  | 1 => ⟨[], [1, 7, 8, 9], []⟩
  | _ => ⟨[], [], []⟩
def F184_s1 (n : Int) (s3 : Unit) (i1 : Nat) (x2 : Int) : Option (Sum (Unit) (Bool)) :=
  iteO (x2 == n)
  (some (.inr true))
  (some (.inl ()))
def F184_f1  (s3 : Unit) : Option (Bool) :=
  some false
def F184 (N : Nat) (l : List Int) (n : Int) : Option (Bool) :=
  foldN (S := Unit) (F184_s1 n) (F184_f1) N l 0 ()
@[push_cast] def ar184 : Rs ((List Int) × Int) := rsC (rL 1 (cI .i64) (cI_inj .i64)) (rsO (rI .i64))
@[push_cast] def v184 (r : Bool) : AV := .bool r
@[push_cast] def sh184 : Shp := .one (.leaf none)
noncomputable def t184 (N : Nat) : List AV → Option AV := TL ar184.e fun x => bindO (F184 N x.1 x.2) fun r => some (v184 r)
/-! ## 185: quantale/quantaleref03.insert -/
@[push_cast] def H185 : Nat → Hint
  | 0 => ⟨[1, 5, 6, 12, 13, 14], [1, 5, 6], []⟩
  | 1 => ⟨[], [1, 5, 6, 12, 13, 14], []⟩
  | _ => ⟨[], [], []⟩
def F185_s1 (n : Int) (s4 : (List Int) × Bool) (i2 : Nat) (x3 : Int) : Option (Sum ((List Int) × Bool) (List Int)) :=
  iteO s4.2
  (iteO (fits (s4.1.length + 1) 8)
    (some (.inl (s4.1 ++ ([x3]), s4.2)))
    (none))
  (iteO (decide (n < x3))
    (iteO (fits (s4.1.length + 1) 8)
      (iteO (fits (s4.1.length + 1 + 1) 8)
        (some (.inl ((s4.1 ++ ([n])) ++ ([x3]), true)))
        (none))
      (none))
    (iteO (fits (s4.1.length + 1) 8)
      (some (.inl (s4.1 ++ ([x3]), s4.2)))
      (none)))
def F185_f1 (n : Int) (s4 : (List Int) × Bool) : Option (List Int) :=
  iteO s4.2
  (some s4.1)
  (iteO (fits (s4.1.length + 1) 8)
    (some (s4.1 ++ ([n])))
    (none))
def F185 (N : Nat) (l : List Int) (n : Int) : Option (List Int) :=
  bindO (F184 N l n) fun r1 =>
  foldN (S := (List Int) × Bool) (F185_s1 n) (F185_f1 n) N l 0 ([], r1)
@[push_cast] def ar185 : Rs ((List Int) × Int) := rsC (rL 1 (cI .i64) (cI_inj .i64)) (rsO (rI .i64))
@[push_cast] def v185 (r : List Int) : AV := .sl false 1 (List.map (cI .i64) r)
@[push_cast] def sh185 : Shp := .one (.leaf (some 1))
noncomputable def t185 (N : Nat) : List AV → Option AV := TL ar185.e fun x => bindO (F185 N x.1 x.2) fun r => some (v185 r)
@[push_cast] theorem t184_1 {N : Nat} (z1 : List Int) (z2 : Int) : t184 N [.sl false 1 (List.map (cI .i64) z1), .int .i64 z2] = bindO (F184 N z1 z2) fun r => some (v184 r) :=
  TL_hit ar184.inj (z1, z2) (by simp only [push_cast] <;> rfl)
/-! ## 175: quantale/quantaleref03.combine -/
@[push_cast] def H175 : Nat → Hint
  | 0 => ⟨[0, 2, 7, 13, 14, 15], [0, 2, 7], []⟩
  | 1 => ⟨[], [0, 2, 7, 13, 14, 15], []⟩
  | 2 => ⟨[7, 46, 47, 48], [7], [.frz 7]⟩
  | 3 => ⟨[], [7, 46, 47, 48], []⟩
  | _ => ⟨[], [], []⟩
def F175_s1 (N : Nat) (b : List Int) (op : Int) (s3 : List Int) (i1 : Nat) (x2 : Int) : Option (Sum (List Int) (List Int)) :=
  bindO (F184 N b x2) fun r4 =>
  iteO (op == 11)
  (iteO (fits (s3.length + 1) 8)
    (some (.inl (s3 ++ ([x2]))))
    (none))
  (iteO (op == 12)
    (iteO r4
      (iteO (fits (s3.length + 1) 8)
        (some (.inl (s3 ++ ([x2]))))
        (none))
      (iteO (op == 13)
        (iteO (fits (s3.length + 1) 8)
          (some (.inl (s3 ++ ([x2]))))
          (none))
        (some (.inl s3))))
    (iteO (op == 13)
      (iteO r4
        (some (.inl s3))
        (iteO (fits (s3.length + 1) 8)
          (some (.inl (s3 ++ ([x2]))))
          (none)))
      (some (.inl s3))))
def F175_s3 (N : Nat) (s10 : List Int) (i8 : Nat) (x9 : Int) : Option (Sum (List Int) (List Int)) :=
  bindO (F185 N s10 x9) fun r11 =>
  some (.inl r11)
def F175_f3  (s10 : List Int) : Option (List Int) :=
  some s10
def F175_f1 (N : Nat) (b : List Int) (op : Int) (s3 : List Int) : Option (List Int) :=
  iteO (op == 11)
  (foldN (S := List Int) (F175_s3 N) (F175_f3) N b 0 s3)
  (some s3)
def F175 (N : Nat) (op : Int) (a : List Int) (b : List Int) : Option (List Int) :=
  foldN (S := List Int) (F175_s1 N b op) (F175_f1 N b op) N a 0 ([])
@[push_cast] def ar175 : Rs (Int × (List Int) × (List Int)) := rsC (rI .i64) (rsC (rL 1 (cI .i64) (cI_inj .i64)) (rsO (rL 1 (cI .i64) (cI_inj .i64))))
@[push_cast] def v175 (r : List Int) : AV := .sl false 1 (List.map (cI .i64) r)
@[push_cast] def sh175 : Shp := .one (.leaf (some 1))
noncomputable def t175 (N : Nat) : List AV → Option AV := TL ar175.e fun x => bindO (F175 N x.1 x.2.1 x.2.2) fun r => some (v175 r)
@[push_cast] theorem t185_1 {N : Nat} (z1 : List Int) (z2 : Int) : t185 N [.sl false 1 (List.map (cI .i64) z1), .int .i64 z2] = bindO (F185 N z1 z2) fun r => some (v185 r) :=
  TL_hit ar185.inj (z1, z2) (by simp only [push_cast] <;> rfl)
/-! ## 176: quantale/quantaleref03.at -/
@[push_cast] def H176 : Nat → Hint
  | 0 => ⟨[1, 2, 8, 9, 10], [], []⟩
  | 1 => ⟨[], [1, 2, 8, 9, 10], []⟩
  | _ => ⟨[], [], []⟩
def F176_s1 (i : Int) (v : Val) (s3 : Unit) (i1 : Nat) (x2 : Int) : Option (Sum (Unit) (Int)) :=
  iteO (x2 == i)
  (bindO (atO v.valTo (i1 : Int)) fun x4 =>
    some (.inr x4))
  (some (.inl ()))
def F176_f1  (s3 : Unit) : Option (Int) :=
  some 0
def F176 (N : Nat) (v : Val) (i : Int) : Option (Int) :=
  foldN (S := Unit) (F176_s1 i v) (F176_f1) N v.valAt 0 ()
@[push_cast] def ar176 : Rs (Val × Int) := rsC rVal (rsO (rI .i64))
@[push_cast] def v176 (r : Int) : AV := .int .i64 r
@[push_cast] def sh176 : Shp := .one (.leaf none)
noncomputable def t176 (N : Nat) : List AV → Option AV := TL ar176.e fun x => bindO (F176 N x.1 x.2) fun r => some (v176 r)
/-! ## 177: quantale/quantaleref03.stored -/
@[push_cast] def H177 : Nat → Hint
  | 0 => ⟨[1, 2, 3, 6, 7, 19, 20, 21], [6, 7], [.ownS 2 3 1, .ownS 2 4 1]⟩
  | 1 => ⟨[], [1, 2, 3, 6, 7, 19, 20, 21], []⟩
  | _ => ⟨[], [], []⟩
def F177_s3 (N : Nat) (i : Int) (v : Val) (x : Int) (s10 : (List Int) × (List Int)) (i8 : Nat) (x9 : Int) : Option (Sum ((List Int) × (List Int)) (Val)) :=
  bindO (F176 N v x9) fun r11 =>
  iteO (x9 == i)
  (iteO (x == 0)
    (some (.inl (s10.1, s10.2)))
    (iteO (fits (s10.1.length + 1) 8)
      (iteO (fits (s10.2.length + 1) 8)
        (some (.inl (s10.1 ++ ([x9]), s10.2 ++ ([x]))))
        (none))
      (none)))
  (iteO (r11 == 0)
    (some (.inl (s10.1, s10.2)))
    (iteO (fits (s10.1.length + 1) 8)
      (iteO (fits (s10.2.length + 1) 8)
        (some (.inl (s10.1 ++ ([x9]), s10.2 ++ ([r11]))))
        (none))
      (none)))
def F177_f3 (v : Val) (s10 : (List Int) × (List Int)) : Option (Val) :=
  some (⟨5, v.valNum, [], s10.1, s10.2⟩ : Val)
def F177 (N : Nat) (v : Val) (i : Int) (x : Int) : Option (Val) :=
  bindO (F185 N v.valAt i) fun r1 =>
  foldN (S := (List Int) × (List Int)) (F177_s3 N i v x) (F177_f3 v) N r1 0 ([], [])
@[push_cast] def ar177 : Rs (Val × Int × Int) := rsC rVal (rsC (rI .i64) (rsO (rI .i64)))
@[push_cast] def v177 (r : Val) : AV := .agg (Val.cells r)
@[push_cast] def sh177 : Shp := .one (.agg [none, none, some 1, some 1, some 1])
noncomputable def t177 (N : Nat) : List AV → Option AV := TL ar177.e fun x => bindO (F177 N x.1 x.2.1 x.2.2) fun r => some (v177 r)
@[push_cast] theorem t176_1 {N : Nat} (z1 : Int) (z2 : Int) (z3 : List Int) (z4 : List Int) (z5 : List Int) (z6 : Int) : t176 N [.agg [.int .i64 z1, .int .i64 z2, .sl false 1 (List.map (cI .i64) z3), .sl false 1 (List.map (cI .i64) z4), .sl false 1 (List.map (cI .i64) z5)], .int .i64 z6] = bindO (F176 N (⟨z1, z2, z3, z4, z5⟩ : Val) z6) fun r => some (v176 r) :=
  TL_hit ar176.inj ((⟨z1, z2, z3, z4, z5⟩ : Val), z6) (by simp only [push_cast] <;> rfl)
/-! ## 186: quantale/quantaleref03.truth -/
@[push_cast] def H186 : Nat → Hint
  | _ => ⟨[], [], []⟩
def F186 (b : Bool) : Option (Val) :=
  iteO b
  (some (⟨2, 1, [], [], []⟩ : Val))
  (some (⟨2, 0, [], [], []⟩ : Val))
@[push_cast] def ar186 : Rs Bool := rsO rB
@[push_cast] def v186 (r : Val) : AV := .agg (Val.cells r)
@[push_cast] def sh186 : Shp := .one (.agg [none, none, some 1, some 1, some 1])
noncomputable def t186 : List AV → Option AV := TL ar186.e fun x => bindO (F186 x) fun r => some (v186 r)
/-! ## 178: quantale/quantaleref03.decide -/
@[push_cast] def H178 : Nat → Hint
  | 0 => ⟨[], [4], []⟩
  | 1 => ⟨[1, 4, 127, 128, 129], [4], []⟩
  | 2 => ⟨[], [1, 4, 127, 128, 129], []⟩
  | _ => ⟨[], [], []⟩
def F178_s1 (N : Nat) (v : List Val) (s36 : Unit) (i34 : Nat) (x35 : Int) : Option (Sum (Unit) (Val)) :=
  bindO (atO v 1) fun x37 =>
  bindO (F184 N x37.valSet x35) fun r38 =>
  iteO r38
  (some (.inl ()))
  (bindO (F186 false) fun r39 =>
    some (.inr r39))
def F178_f1  (s36 : Unit) : Option (Val) :=
  bindO (F186 true) fun r40 =>
  some r40
def F178 (N : Nat) (op : Int) (v : List Val) : Option (Val) :=
  iteO (op == 30)
  (bindO (F186 true) fun r1 =>
    some r1)
  (iteO (op == 32)
    (bindO (atO v 0) fun x2 =>
      bindO (F186 (x2.valNum == 0)) fun r3 =>
      some r3)
    (iteO (op == 33)
      (bindO (atO v 0) fun x4 =>
        iteO (x4.valNum == 1)
        (bindO (atO v 1) fun x5 =>
          bindO (F186 (x5.valNum == 1)) fun r6 =>
          some r6)
        (bindO (F186 false) fun r7 =>
          some r7))
      (iteO (op == 34)
        (bindO (atO v 0) fun x8 =>
          iteO (x8.valNum == 1)
          (bindO (F186 true) fun r11 =>
            some r11)
          (bindO (atO v 1) fun x9 =>
            bindO (F186 (x9.valNum == 1)) fun r10 =>
            some r10))
        (iteO (op == 35)
          (bindO (atO v 0) fun x12 =>
            iteO (x12.valNum == 0)
            (bindO (F186 true) fun r15 =>
              some r15)
            (bindO (atO v 1) fun x13 =>
              bindO (F186 (x13.valNum == 1)) fun r14 =>
              some r14))
          (iteO (op == 36)
            (bindO (atO v 0) fun x16 =>
              bindO (atO v 1) fun x17 =>
              bindO (F186 (x16.valNum == x17.valNum)) fun r18 =>
              some r18)
            (iteO (op == 37)
              (bindO (atO v 0) fun x19 =>
                bindO (atO v 1) fun x20 =>
                bindO (F183 N x19 x20) fun r21 =>
                bindO (F186 r21) fun r22 =>
                some r22)
              (iteO (op == 38)
                (bindO (atO v 0) fun x23 =>
                  bindO (atO v 1) fun x24 =>
                  bindO (F186 (decide (x23.valNum ≤ x24.valNum))) fun r25 =>
                  some r25)
                (iteO (op == 39)
                  (bindO (atO v 0) fun x26 =>
                    bindO (atO v 1) fun x27 =>
                    bindO (F186 (decide (x26.valNum < x27.valNum))) fun r28 =>
                    some r28)
                  (iteO (op == 40)
                    (bindO (atO v 1) fun x29 =>
                      bindO (atO v 0) fun x30 =>
                      bindO (F184 N x29.valSet x30.valNum) fun r31 =>
                      bindO (F186 r31) fun r32 =>
                      some r32)
                    (iteO (op == 41)
                      (bindO (atO v 0) fun x33 =>
                        foldN (S := Unit) (F178_s1 N v) (F178_f1) N x33.valSet 0 ())
                      (bindO (F186 false) fun r41 =>
                        some r41)))))))))))
@[push_cast] def ar178 : Rs (Int × (List Val)) := rsC (rI .i64) (rsO (rL 5 Val.cells Val.cells_inj))
@[push_cast] def v178 (r : Val) : AV := .agg (Val.cells r)
@[push_cast] def sh178 : Shp := .one (.agg [none, none, some 1, some 1, some 1])
noncomputable def t178 (N : Nat) : List AV → Option AV := TL ar178.e fun x => bindO (F178 N x.1 x.2) fun r => some (v178 r)
@[push_cast] theorem t186_1 (z1 : Bool) : t186 [.bool z1] = bindO (F186 z1) fun r => some (v186 r) :=
  TL_hit ar186.inj z1 (by simp only [push_cast] <;> rfl)
/-! ## 160: quantale/quantaleref03.apply -/
@[push_cast] def H160 : Nat → Hint
  | 0 => ⟨[], [1, 2, 4], []⟩
  | _ => ⟨[], [], []⟩
@[push_cast] def ali160 : Nat → List (Nat × Nat)
  | 22 => [(104, 4)]
  | 27 => [(136, 4)]
  | _ => []
def F160 (N : Nat) (n : Node) (v : List Val) : Option (Val × Bool) :=
  iteO (n.op == 2)
  (bindO (F173 n.num) fun r1 =>
    some (r1.1, r1.2))
  (iteO (n.op == 4)
    (bindO (atO v 0) fun x2 =>
      bindO (atO v 1) fun x3 =>
      bindO (F173 (IntKind.i64.wrap (x2.valNum + x3.valNum))) fun r4 =>
      some (r4.1, r4.2))
    (iteO (n.op == 5)
      (bindO (atO v 0) fun x5 =>
        bindO (atO v 1) fun x6 =>
        bindO (F173 (IntKind.i64.wrap (x5.valNum - x6.valNum))) fun r7 =>
        some (r7.1, r7.2))
      (iteO (n.op == 6)
        (bindO (atO v 0) fun x8 =>
          bindO (F173 (IntKind.i64.wrap (0 - x8.valNum))) fun r9 =>
          some (r9.1, r9.2))
        (iteO (n.op == 7)
          (bindO (atO v 0) fun x10 =>
            bindO (F174 n.num x10.valNum) fun r11 =>
            some (r11.1, r11.2))
          (iteO (n.op == 8)
            (bindO (atO v 0) fun x12 =>
              iteO (x12.valNum == 1)
              (bindO (atO v 1) fun x13 =>
                some (x13, true))
              (bindO (atO v 2) fun x14 =>
                some (x14, true)))
            (iteO (n.op == 10)
              (bindO (atO v 0) fun x15 =>
                some ((⟨4, 0, [x15.valNum], [], []⟩ : Val), true))
              (iteO (n.op == 11)
                (bindO (atO v 0) fun x16 =>
                  bindO (atO v 1) fun x17 =>
                  bindO (F175 N n.op x16.valSet x17.valSet) fun r18 =>
                  some ((⟨4, 0, r18, [], []⟩ : Val), decide ((r18.length : Int) ≤ 200)))
                (iteO (n.op == 12)
                  (bindO (atO v 0) fun x19 =>
                    bindO (atO v 1) fun x20 =>
                    bindO (F175 N n.op x19.valSet x20.valSet) fun r21 =>
                    some ((⟨4, 0, r21, [], []⟩ : Val), decide ((r21.length : Int) ≤ 200)))
                  (iteO (n.op == 13)
                    (bindO (atO v 0) fun x22 =>
                      bindO (atO v 1) fun x23 =>
                      bindO (F175 N n.op x22.valSet x23.valSet) fun r24 =>
                      some ((⟨4, 0, r24, [], []⟩ : Val), decide ((r24.length : Int) ≤ 200)))
                    (iteO (n.op == 14)
                      (bindO (atO v 0) fun x25 =>
                        bindO (atO v 1) fun x26 =>
                        bindO (F176 N x25 x26.valNum) fun r27 =>
                        bindO (F173 r27) fun r28 =>
                        some (r28.1, r28.2))
                      (iteO (n.op == 15)
                        (bindO (atO v 0) fun x29 =>
                          bindO (atO v 1) fun x30 =>
                          bindO (atO v 2) fun x31 =>
                          bindO (F177 N x29 x30.valNum x31.valNum) fun r32 =>
                          some (r32, decide ((r32.valAt.length : Int) ≤ 200)))
                        (iteO (n.op == 16)
                          (bindO (atO v 0) fun x33 =>
                            bindO (F173 x33.valNum) fun r34 =>
                            some (r34.1, r34.2))
                          (iteO (n.op == 9)
                            (some ((⟨4, 0, [], [], []⟩ : Val), true))
                            (bindO (F178 N n.op v) fun r35 =>
                              some (r35, true)))))))))))))))
@[push_cast] def ar160 : Rs (Node × (List Val)) := rsC rNode (rsO (rL 5 Val.cells Val.cells_inj))
@[push_cast] def v160 (r : Val × Bool) : AV := .tuple [.agg (Val.cells r.1), .bool r.2]
@[push_cast] def sh160 : Shp := .tup [.agg [none, none, some 1, some 1, some 1], .leaf none]
noncomputable def t160 (N : Nat) : List AV → Option AV := TL ar160.e fun x => bindO (F160 N x.1 x.2) fun r => some (v160 r)
@[push_cast] theorem t174_1 (z1 : Int) (z2 : Int) : t174 [.int .i64 z1, .int .i64 z2] = bindO (F174 z1 z2) fun r => some (v174 r) :=
  TL_hit ar174.inj (z1, z2) (by simp only [push_cast] <;> rfl)
@[push_cast] theorem t175_1 {N : Nat} (z1 : Int) (z2 : List Int) (z3 : List Int) : t175 N [.int .i64 z1, .sl false 1 (List.map (cI .i64) z2), .sl false 1 (List.map (cI .i64) z3)] = bindO (F175 N z1 z2 z3) fun r => some (v175 r) :=
  TL_hit ar175.inj (z1, z2, z3) (by simp only [push_cast] <;> rfl)
@[push_cast] theorem t177_1 {N : Nat} (z1 : Int) (z2 : Int) (z3 : List Int) (z4 : List Int) (z5 : List Int) (z6 : Int) (z7 : Int) : t177 N [.agg [.int .i64 z1, .int .i64 z2, .sl false 1 (List.map (cI .i64) z3), .sl false 1 (List.map (cI .i64) z4), .sl false 1 (List.map (cI .i64) z5)], .int .i64 z6, .int .i64 z7] = bindO (F177 N (⟨z1, z2, z3, z4, z5⟩ : Val) z6 z7) fun r => some (v177 r) :=
  TL_hit ar177.inj ((⟨z1, z2, z3, z4, z5⟩ : Val), z6, z7) (by simp only [push_cast] <;> rfl)
@[push_cast] theorem t178_1 {N : Nat} (z1 : Int) (z2 : List Val) : t178 N [.int .i64 z1, .sl false 5 (List.map Val.cells z2)] = bindO (F178 N z1 z2) fun r => some (v178 r) :=
  TL_hit ar178.inj (z1, z2) (by simp only [push_cast] <;> rfl)
/-! ## 127: quantale/quantaleref03.eval -/
@[push_cast] def H127 : Nat → Hint
  | 0 => ⟨[1, 2, 4, 6, 7, 13, 14, 15], [1, 2, 4, 6, 7], []⟩
  | 1 => ⟨[], [1, 2, 4, 6, 7, 13, 14, 15], []⟩
  | _ => ⟨[], [], []⟩
def F127_s1 (self127 : Node → (List Entry) → Option (Val × Bool)) (m : List Entry) (s3 : (List Val) × Bool) (i1 : Nat) (x2 : Node) : Option (Sum ((List Val) × Bool) (Val × Bool)) :=
  bindO (self127 x2 m) fun r4 =>
  iteO s3.2
  (iteO (fits (s3.1.length + 1) 88)
    (some (.inl (s3.1 ++ ([r4.1]), r4.2)))
    (none))
  (iteO (fits (s3.1.length + 1) 88)
    (some (.inl (s3.1 ++ ([r4.1]), false)))
    (none))
def F127_f1 (N : Nat) (m : List Entry) (n : Node) (s3 : (List Val) × Bool) : Option (Val × Bool) :=
  iteO s3.2
  (iteO (n.op == 1)
    (bindO (F159 N m n.name s3.1 n.sortf) fun r8 =>
      some (r8, true))
    (iteO (n.op == 3)
      (bindO (F159 N m n.name s3.1 n.sortf) fun r6 =>
        some (r6, true))
      (bindO (F160 N n s3.1) fun r7 =>
        some (r7.1, r7.2))))
  (bindO (F28 N n) fun r5 =>
    some ((⟨r5, 0, [], [], []⟩ : Val), false))
def F127b (self127 : Node → (List Entry) → Option (Val × Bool)) (N : Nat) (n : Node) (m : List Entry) : Option (Val × Bool) :=
  foldN (S := (List Val) × Bool) (F127_s1 self127 m) (F127_f1 N m n) N n.kids 0 ([], true)
def F127 : Nat → Node → (List Entry) → Option (Val × Bool)
  | 0 => fun _ _ => none
  | N + 1 => fun n m => F127b (F127 N) N n m
@[push_cast] def ar127 : Rs (Node × (List Entry)) := rsC rNode (rsO (rL 7 Entry.cells Entry.cells_inj))
@[push_cast] def v127 (r : Val × Bool) : AV := .tuple [.agg (Val.cells r.1), .bool r.2]
@[push_cast] def sh127 : Shp := .tup [.agg [none, none, some 1, some 1, some 1], .leaf none]
noncomputable def t127 (N : Nat) : List AV → Option AV := TL ar127.e fun x => bindO (F127 N x.1 x.2) fun r => some (v127 r)
noncomputable def ts127 (self127 : Node → (List Entry) → Option (Val × Bool)) : List AV → Option AV := TL ar127.e fun x => bindO (self127 x.1 x.2) fun r => some (v127 r)
@[push_cast] theorem t127_1 (self127 : Node → (List Entry) → Option (Val × Bool)) (z1 : Int) (z2 : Int) (z3 : ByteArray) (z4 : Int) (z5 : List Node) (z6 : List Entry) : ts127 self127 [.agg [.int .i64 z1, .int .i64 z2, .str z3, .int .i64 z4, .sl false 5 (List.map Node.cells z5)], .sl false 7 (List.map Entry.cells z6)] = bindO (self127 (⟨z1, z2, z3, z4, z5⟩ : Node) z6) fun r => some (v127 r) :=
  TL_hit ar127.inj ((⟨z1, z2, z3, z4, z5⟩ : Node), z6) (by simp only [push_cast] <;> rfl)
@[push_cast] theorem t159_1 {N : Nat} (z1 : List Entry) (z2 : ByteArray) (z3 : List Val) (z4 : Int) : t159 N [.sl false 7 (List.map Entry.cells z1), .str z2, .sl false 5 (List.map Val.cells z3), .int .i64 z4] = bindO (F159 N z1 z2 z3 z4) fun r => some (v159 r) :=
  TL_hit ar159.inj (z1, z2, z3, z4) (by simp only [push_cast] <;> rfl)
@[push_cast] theorem t160_1 {N : Nat} (z1 : Int) (z2 : Int) (z3 : ByteArray) (z4 : Int) (z5 : List Node) (z6 : List Val) : t160 N [.agg [.int .i64 z1, .int .i64 z2, .str z3, .int .i64 z4, .sl false 5 (List.map Node.cells z5)], .sl false 5 (List.map Val.cells z6)] = bindO (F160 N (⟨z1, z2, z3, z4, z5⟩ : Node) z6) fun r => some (v160 r) :=
  TL_hit ar160.inj ((⟨z1, z2, z3, z4, z5⟩ : Node), z6) (by simp only [push_cast] <;> rfl)
/-! ## 87: quantale/quantaleref03.valued -/
@[push_cast] def H87 : Nat → Hint
  | _ => ⟨[], [], []⟩
def F87 (N : Nat) (n : Node) (m : List Entry) (sortq : Int) : Option (Val × Int) :=
  bindO (F15 N n sortq) fun r1 =>
  iteO (r1 == 0)
  (bindO (F43 N n) fun r2 =>
    iteO r2
    (some ((⟨0, 0, [], [], []⟩ : Val), 3))
    (bindO (F126 N m) fun r3 =>
      iteO r3
      (bindO (F127 N n m) fun r4 =>
        iteO r4.2
        (some (r4.1, 0))
        (some ((⟨0, 0, [], [], []⟩ : Val), 2)))
      (some ((⟨0, 0, [], [], []⟩ : Val), 3))))
  (some ((⟨0, 0, [], [], []⟩ : Val), r1))
@[push_cast] def ar87 : Rs (Node × (List Entry) × Int) := rsC rNode (rsC (rL 7 Entry.cells Entry.cells_inj) (rsO (rI .i64)))
@[push_cast] def v87 (r : Val × Int) : AV := .tuple [.agg (Val.cells r.1), .int .i64 r.2]
@[push_cast] def sh87 : Shp := .tup [.agg [none, none, some 1, some 1, some 1], .leaf none]
noncomputable def t87 (N : Nat) : List AV → Option AV := TL ar87.e fun x => bindO (F87 N x.1 x.2.1 x.2.2) fun r => some (v87 r)
@[push_cast] theorem t15_1 {N : Nat} (z1 : Int) (z2 : Int) (z3 : ByteArray) (z4 : Int) (z5 : List Node) (z6 : Int) : t15 N [.agg [.int .i64 z1, .int .i64 z2, .str z3, .int .i64 z4, .sl false 5 (List.map Node.cells z5)], .int .i64 z6] = bindO (F15 N (⟨z1, z2, z3, z4, z5⟩ : Node) z6) fun r => some (v15 r) :=
  TL_hit ar15.inj ((⟨z1, z2, z3, z4, z5⟩ : Node), z6) (by simp only [push_cast] <;> rfl)
@[push_cast] theorem t43_2 {N : Nat} (z1 : Int) (z2 : Int) (z3 : ByteArray) (z4 : Int) (z5 : List Node) : t43 N [.agg [.int .i64 z1, .int .i64 z2, .str z3, .int .i64 z4, .sl false 5 (List.map Node.cells z5)]] = bindO (F43 N (⟨z1, z2, z3, z4, z5⟩ : Node)) fun r => some (v43 r) :=
  TL_hit ar43.inj (⟨z1, z2, z3, z4, z5⟩ : Node) (by simp only [push_cast] <;> rfl)
@[push_cast] theorem t126_1 {N : Nat} (z1 : List Entry) : t126 N [.sl false 7 (List.map Entry.cells z1)] = bindO (F126 N z1) fun r => some (v126 r) :=
  TL_hit ar126.inj z1 (by simp only [push_cast] <;> rfl)
@[push_cast] theorem t127_2 {N : Nat} (z1 : Int) (z2 : Int) (z3 : ByteArray) (z4 : Int) (z5 : List Node) (z6 : List Entry) : t127 N [.agg [.int .i64 z1, .int .i64 z2, .str z3, .int .i64 z4, .sl false 5 (List.map Node.cells z5)], .sl false 7 (List.map Entry.cells z6)] = bindO (F127 N (⟨z1, z2, z3, z4, z5⟩ : Node) z6) fun r => some (v127 r) :=
  TL_hit ar127.inj ((⟨z1, z2, z3, z4, z5⟩ : Node), z6) (by simp only [push_cast] <;> rfl)
/-! ## 30: quantale/quantaleref03.Value -/
@[push_cast] def H30 : Nat → Hint
  | _ => ⟨[], [], []⟩
def F30 (N : Nat) (n : Node) (m : List Entry) : Option (Val × Int) :=
  bindO (F87 N n m 0) fun r1 =>
  some (r1.1, r1.2)
@[push_cast] def ar30 : Rs (Node × (List Entry)) := rsC rNode (rsO (rL 7 Entry.cells Entry.cells_inj))
@[push_cast] def v30 (r : Val × Int) : AV := .tuple [.agg (Val.cells r.1), .int .i64 r.2]
@[push_cast] def sh30 : Shp := .tup [.agg [none, none, some 1, some 1, some 1], .leaf none]
noncomputable def t30 (N : Nat) : List AV → Option AV := TL ar30.e fun x => bindO (F30 N x.1 x.2) fun r => some (v30 r)
@[push_cast] theorem t87_1 {N : Nat} (z1 : Int) (z2 : Int) (z3 : ByteArray) (z4 : Int) (z5 : List Node) (z6 : List Entry) (z7 : Int) : t87 N [.agg [.int .i64 z1, .int .i64 z2, .str z3, .int .i64 z4, .sl false 5 (List.map Node.cells z5)], .sl false 7 (List.map Entry.cells z6), .int .i64 z7] = bindO (F87 N (⟨z1, z2, z3, z4, z5⟩ : Node) z6 z7) fun r => some (v87 r) :=
  TL_hit ar87.inj ((⟨z1, z2, z3, z4, z5⟩ : Node), z6, z7) (by simp only [push_cast] <;> rfl)
/-! ## 31: quantale/quantalelaw04.calm -/
@[push_cast] def H31 : Nat → Hint
  | _ => ⟨[], [], []⟩
def F31 (n : Int) : Option (Bool) :=
  iteO (decide (n ≥ (-1000000000)))
  (some (decide (n ≤ 1000000000)))
  (some false)
@[push_cast] def ar31 : Rs Int := rsO (rI .i64)
@[push_cast] def v31 (r : Bool) : AV := .bool r
@[push_cast] def sh31 : Shp := .one (.leaf none)
noncomputable def t31 : List AV → Option AV := TL ar31.e fun x => bindO (F31 x) fun r => some (v31 r)
/-! ## 6: quantale/quantalelaw04.LinearValues -/
@[push_cast] def H6 : Nat → Hint
  | 0 => ⟨[1, 5, 7, 9, 49, 50, 51], [5, 7, 9], []⟩
  | 1 => ⟨[], [1, 5, 7, 9, 49, 50, 51], []⟩
  | _ => ⟨[], [], []⟩
def F6_s1 (N : Nat) (m : List Entry) (r4 : Lin × Int) (s8 : Int) (i6 : Nat) (x7 : Mono) : Option (Sum (Int) (Bool)) :=
  bindO (F30 N x7.monoAtom m) fun r9 =>
  iteO (r9.2 == 0)
  (bindO (F31 r9.1.valNum) fun r10 =>
    iteO r10
    (bindO (F31 x7.monoCoef) fun r11 =>
      iteO r11
      (bindO (F31 r4.1.linConst) fun r12 =>
        iteO r12
        (some (.inl (IntKind.i64.wrap (s8 + (IntKind.i64.wrap (x7.monoCoef * r9.1.valNum))))))
        (some (.inr true)))
      (some (.inr true)))
    (some (.inr true)))
  (some (.inr true))
def F6_f1 (r4 : Lin × Int) (r5 : Val × Int) (s8 : Int) : Option (Bool) :=
  iteO (decide ((r4.1.linMonos.length : Int) > 8))
  (some true)
  (some (s8 == r5.1.valNum))
def F6 (N : Nat) (n : Node) (m : List Entry) : Option (Bool) :=
  bindO (F26 N) fun r1 =>
  iteO r1
  (bindO (F27 N n) fun r2 =>
    iteO (decide (r2 > 200))
    (some true)
    (iteO (decide ((m.length : Int) > 60))
      (some true)
      (bindO (F28 N n) fun r3 =>
        iteO (r3 == 1)
        (bindO (F29 N n) fun r4 =>
          bindO (F30 N n m) fun r5 =>
          iteO (r4.2 == 0)
          (iteO (r5.2 == 0)
            (foldN (S := Int) (F6_s1 N m r4) (F6_f1 r4 r5) N r4.1.linMonos 0 r4.1.linConst)
            (some true))
          (some true))
        (some true))))
  (some false)
@[push_cast] def ar6 : Rs (Node × (List Entry)) := rsC rNode (rsO (rL 7 Entry.cells Entry.cells_inj))
@[push_cast] def v6 (r : Bool) : AV := .bool r
@[push_cast] def sh6 : Shp := .one (.leaf none)
noncomputable def t6 (N : Nat) : List AV → Option AV := TL ar6.e fun x => bindO (F6 N x.1 x.2) fun r => some (v6 r)
@[push_cast] theorem t26_1 {N : Nat}  : t26 N [] = bindO (F26 N) fun r => some (v26 r) :=
  TL_hit ar26.inj () (by simp only [push_cast] <;> rfl)
@[push_cast] theorem t30_1 {N : Nat} (z1 : Int) (z2 : Int) (z3 : ByteArray) (z4 : Int) (z5 : List Node) (z6 : List Entry) : t30 N [.agg [.int .i64 z1, .int .i64 z2, .str z3, .int .i64 z4, .sl false 5 (List.map Node.cells z5)], .sl false 7 (List.map Entry.cells z6)] = bindO (F30 N (⟨z1, z2, z3, z4, z5⟩ : Node) z6) fun r => some (v30 r) :=
  TL_hit ar30.inj ((⟨z1, z2, z3, z4, z5⟩ : Node), z6) (by simp only [push_cast] <;> rfl)
@[push_cast] theorem t31_1 (z1 : Int) : t31 [.int .i64 z1] = bindO (F31 z1) fun r => some (v31 r) :=
  TL_hit ar31.inj z1 (by simp only [push_cast] <;> rfl)
/-! ## 62: quantale/linear.Atom -/
@[push_cast] def H62 : Nat → Hint
  | 0 => ⟨[], [1], []⟩
  | _ => ⟨[], [], []⟩
def F62 (N : Nat) (n : Node) : Option (Bool) :=
  iteO (n.op == 2)
  (some false)
  (iteO (n.op == 4)
    (some false)
    (iteO (n.op == 5)
      (some false)
      (iteO (n.op == 6)
        (some false)
        (iteO (n.op == 7)
          (some false)
          (bindO (F14 N n 0) fun r1 =>
            iteO (r1 == 0)
            (bindO (F36 N n) fun r2 =>
              iteO (r2 == 1)
              (some true)
              (bindO (F36 N n) fun r3 =>
                some (r3 == 3)))
            (some false))))))
@[push_cast] def ar62 : Rs Node := rsO rNode
@[push_cast] def v62 (r : Bool) : AV := .bool r
@[push_cast] def sh62 : Shp := .one (.leaf none)
noncomputable def t62 (N : Nat) : List AV → Option AV := TL ar62.e fun x => bindO (F62 N x) fun r => some (v62 r)
/-! ## 64: quantale/linear.Valid -/
@[push_cast] def H64 : Nat → Hint
  | 0 => ⟨[1, 6, 7, 8], [1], []⟩
  | 1 => ⟨[], [1, 6, 7, 8], []⟩
  | _ => ⟨[], [], []⟩
def F64_s1 (N : Nat) (f : Lin) (s3 : Unit) (i1 : Nat) (x2 : Mono) : Option (Sum (Unit) (Bool)) :=
  iteO (x2.monoCoef == 0)
  (some (.inr false))
  (bindO (F112 x2.monoCoef) fun r4 =>
    iteO r4
    (bindO (F62 N x2.monoAtom) fun r5 =>
      iteO r5
      (iteO (decide ((i1 : Int) > 0))
        (bindO (atO f.linMonos (IntKind.i64.wrap ((i1 : Int) - 1))) fun x6 =>
          bindO (F18 N x6.monoAtom x2.monoAtom) fun r7 =>
          iteO (decide (r7 ≥ 0))
          (some (.inr false))
          (some (.inl ())))
        (some (.inl ())))
      (some (.inr false)))
    (some (.inr false)))
def F64_f1 (f : Lin) (s3 : Unit) : Option (Bool) :=
  bindO (F112 f.linConst) fun r8 =>
  some r8
def F64 (N : Nat) (f : Lin) : Option (Bool) :=
  foldN (S := Unit) (F64_s1 N f) (F64_f1 f) N f.linMonos 0 ()
@[push_cast] def ar64 : Rs Lin := rsO rLin
@[push_cast] def v64 (r : Bool) : AV := .bool r
@[push_cast] def sh64 : Shp := .one (.leaf none)
noncomputable def t64 (N : Nat) : List AV → Option AV := TL ar64.e fun x => bindO (F64 N x) fun r => some (v64 r)
@[push_cast] theorem t62_1 {N : Nat} (z1 : Int) (z2 : Int) (z3 : ByteArray) (z4 : Int) (z5 : List Node) : t62 N [.agg [.int .i64 z1, .int .i64 z2, .str z3, .int .i64 z4, .sl false 5 (List.map Node.cells z5)]] = bindO (F62 N (⟨z1, z2, z3, z4, z5⟩ : Node)) fun r => some (v62 r) :=
  TL_hit ar62.inj (⟨z1, z2, z3, z4, z5⟩ : Node) (by simp only [push_cast] <;> rfl)
/-! ## 130: quantale/quantaleref04.fits -/
@[push_cast] def H130 : Nat → Hint
  | _ => ⟨[], [], []⟩
def F130 (n : Int) : Option (Bool) :=
  iteO (decide (n ≥ (-9007199254740992)))
  (some (decide (n ≤ 9007199254740992)))
  (some false)
@[push_cast] def ar130 : Rs Int := rsO (rI .i64)
@[push_cast] def v130 (r : Bool) : AV := .bool r
@[push_cast] def sh130 : Shp := .one (.leaf none)
noncomputable def t130 : List AV → Option AV := TL ar130.e fun x => bindO (F130 x) fun r => some (v130 r)
/-! ## 63: quantale/quantaleref04.Atom -/
@[push_cast] def H63 : Nat → Hint
  | 0 => ⟨[], [1], []⟩
  | _ => ⟨[], [], []⟩
def F63 (N : Nat) (n : Node) : Option (Bool) :=
  iteO (n.op == 2)
  (some false)
  (iteO (n.op == 4)
    (some false)
    (iteO (n.op == 5)
      (some false)
      (iteO (n.op == 6)
        (some false)
        (iteO (n.op == 7)
          (some false)
          (bindO (F28 N n) fun r1 =>
            bindO (F15 N n 0) fun r2 =>
            iteO (r2 == 0)
            (iteO (r1 == 1)
              (some true)
              (some (r1 == 3)))
            (some false))))))
@[push_cast] def ar63 : Rs Node := rsO rNode
@[push_cast] def v63 (r : Bool) : AV := .bool r
@[push_cast] def sh63 : Shp := .one (.leaf none)
noncomputable def t63 (N : Nat) : List AV → Option AV := TL ar63.e fun x => bindO (F63 N x) fun r => some (v63 r)
/-! ## 81: quantale/quantaleref01.sign -/
@[push_cast] def H81 : Nat → Hint
  | _ => ⟨[], [], []⟩
def F81 (a : Int) (b : Int) : Option (Int) :=
  iteO (decide (a < b))
  (some (-1))
  (iteO (decide (a > b))
    (some 1)
    (some 0))
@[push_cast] def ar81 : Rs (Int × Int) := rsC (rI .i64) (rsO (rI .i64))
@[push_cast] def v81 (r : Int) : AV := .int .i64 r
@[push_cast] def sh81 : Shp := .one (.leaf none)
noncomputable def t81 : List AV → Option AV := TL ar81.e fun x => bindO (F81 x.1 x.2) fun r => some (v81 r)
/-! ## 19: quantale/quantaleref01.Compare -/
@[push_cast] def H19 : Nat → Hint
  | 0 => ⟨[2, 3, 5, 6], [5], []⟩
  | 1 => ⟨[], [2, 3, 5, 6], []⟩
  | _ => ⟨[], [], []⟩
def F19_s1  (s3 : Unit) : Option (Sum (Unit) (Int)) :=
  some (.inr (-1))
def F19_s3 (self19 : Node → Node → Option (Int)) (a : Node) (b : Node) (s7 : Int × Int) : Option (Sum (Int × Int) (Int)) :=
  iteO (s7.1 == 0)
  (iteO (decide (s7.2 < (a.kids.length : Int)))
    (bindO (atO a.kids s7.2) fun x8 =>
      bindO (atO b.kids s7.2) fun x9 =>
      bindO (self19 x8 x9) fun r10 =>
      some (.inl (r10, IntKind.i64.wrap (s7.2 + 1))))
    (some (.inr s7.1)))
  (some (.inr s7.1))
def F19_s4 (r5 : Int) (s11 : Unit) : Option (Sum (Unit) (Int)) :=
  some (.inr r5)
def F19_s2  (s4 : Unit) : Option (Sum (Unit) (Int)) :=
  some (.inr 1)
def F19_s5 (r2 : Int) (s12 : Unit) : Option (Sum (Unit) (Int)) :=
  some (.inr r2)
def F19_s6 (r1 : Int) (s13 : Unit) : Option (Sum (Unit) (Int)) :=
  some (.inr r1)
def F19b (self19 : Node → Node → Option (Int)) (N : Nat) (a : Node) (b : Node) : Option (Int) :=
  bindO (F81 a.op b.op) fun r1 =>
  iteO (r1 == 0)
  (bindO (F81 a.sortf b.sortf) fun r2 =>
    iteO (r2 == 0)
    (iteO (Op.bytesLess a.name.toList b.name.toList)
      (whileN (S := Unit) (F19_s1) N ())
      (iteO (Op.bytesLess a.name.toList b.name.toList || a.name.toList == b.name.toList)
        (bindO (F81 a.num b.num) fun r5 =>
          iteO (r5 == 0)
          (bindO (F81 (a.kids.length : Int) (b.kids.length : Int)) fun r6 =>
            whileN (S := Int × Int) (F19_s3 self19 a b) N (r6, 0))
          (whileN (S := Unit) (F19_s4 r5) N ()))
        (whileN (S := Unit) (F19_s2) N ())))
    (whileN (S := Unit) (F19_s5 r2) N ()))
  (whileN (S := Unit) (F19_s6 r1) N ())
def F19 : Nat → Node → Node → Option (Int)
  | 0 => fun _ _ => none
  | N + 1 => fun a b => F19b (F19 N) N a b
@[push_cast] def ar19 : Rs (Node × Node) := rsC rNode (rsO rNode)
@[push_cast] def v19 (r : Int) : AV := .int .i64 r
@[push_cast] def sh19 : Shp := .one (.leaf none)
noncomputable def t19 (N : Nat) : List AV → Option AV := TL ar19.e fun x => bindO (F19 N x.1 x.2) fun r => some (v19 r)
noncomputable def ts19 (self19 : Node → Node → Option (Int)) : List AV → Option AV := TL ar19.e fun x => bindO (self19 x.1 x.2) fun r => some (v19 r)
@[push_cast] theorem t81_1 (z1 : Int) (z2 : Int) : t81 [.int .i64 z1, .int .i64 z2] = bindO (F81 z1 z2) fun r => some (v81 r) :=
  TL_hit ar81.inj (z1, z2) (by simp only [push_cast] <;> rfl)
@[push_cast] theorem t19_1 (self19 : Node → Node → Option (Int)) (z1 : Int) (z2 : Int) (z3 : ByteArray) (z4 : Int) (z5 : List Node) (z6 : Int) (z7 : Int) (z8 : ByteArray) (z9 : Int) (z10 : List Node) : ts19 self19 [.agg [.int .i64 z1, .int .i64 z2, .str z3, .int .i64 z4, .sl false 5 (List.map Node.cells z5)], .agg [.int .i64 z6, .int .i64 z7, .str z8, .int .i64 z9, .sl false 5 (List.map Node.cells z10)]] = bindO (self19 (⟨z1, z2, z3, z4, z5⟩ : Node) (⟨z6, z7, z8, z9, z10⟩ : Node)) fun r => some (v19 r) :=
  TL_hit ar19.inj ((⟨z1, z2, z3, z4, z5⟩ : Node), (⟨z6, z7, z8, z9, z10⟩ : Node)) (by simp only [push_cast] <;> rfl)
/-! ## 89: quantale/quantaleref04.Valid -/
@[push_cast] def H89 : Nat → Hint
  | 0 => ⟨[1, 6, 7, 8], [1], []⟩
  | 1 => ⟨[], [1, 6, 7, 8], []⟩
  | _ => ⟨[], [], []⟩
def F89_s1 (N : Nat) (f : Lin) (s3 : Unit) (i1 : Nat) (x2 : Mono) : Option (Sum (Unit) (Bool)) :=
  iteO (x2.monoCoef == 0)
  (some (.inr false))
  (bindO (F130 x2.monoCoef) fun r4 =>
    iteO r4
    (bindO (F63 N x2.monoAtom) fun r5 =>
      iteO r5
      (iteO (decide ((i1 : Int) > 0))
        (bindO (atO f.linMonos (IntKind.i64.wrap ((i1 : Int) - 1))) fun x6 =>
          bindO (F19 N x6.monoAtom x2.monoAtom) fun r7 =>
          iteO (decide (r7 ≥ 0))
          (some (.inr false))
          (some (.inl ())))
        (some (.inl ())))
      (some (.inr false)))
    (some (.inr false)))
def F89_f1 (f : Lin) (s3 : Unit) : Option (Bool) :=
  bindO (F130 f.linConst) fun r8 =>
  some r8
def F89 (N : Nat) (f : Lin) : Option (Bool) :=
  foldN (S := Unit) (F89_s1 N f) (F89_f1 f) N f.linMonos 0 ()
@[push_cast] def ar89 : Rs Lin := rsO rLin
@[push_cast] def v89 (r : Bool) : AV := .bool r
@[push_cast] def sh89 : Shp := .one (.leaf none)
noncomputable def t89 (N : Nat) : List AV → Option AV := TL ar89.e fun x => bindO (F89 N x) fun r => some (v89 r)
@[push_cast] theorem t130_1 (z1 : Int) : t130 [.int .i64 z1] = bindO (F130 z1) fun r => some (v130 r) :=
  TL_hit ar130.inj z1 (by simp only [push_cast] <;> rfl)
@[push_cast] theorem t63_1 {N : Nat} (z1 : Int) (z2 : Int) (z3 : ByteArray) (z4 : Int) (z5 : List Node) : t63 N [.agg [.int .i64 z1, .int .i64 z2, .str z3, .int .i64 z4, .sl false 5 (List.map Node.cells z5)]] = bindO (F63 N (⟨z1, z2, z3, z4, z5⟩ : Node)) fun r => some (v63 r) :=
  TL_hit ar63.inj (⟨z1, z2, z3, z4, z5⟩ : Node) (by simp only [push_cast] <;> rfl)
@[push_cast] theorem t19_2 {N : Nat} (z1 : Int) (z2 : Int) (z3 : ByteArray) (z4 : Int) (z5 : List Node) (z6 : Int) (z7 : Int) (z8 : ByteArray) (z9 : Int) (z10 : List Node) : t19 N [.agg [.int .i64 z1, .int .i64 z2, .str z3, .int .i64 z4, .sl false 5 (List.map Node.cells z5)], .agg [.int .i64 z6, .int .i64 z7, .str z8, .int .i64 z9, .sl false 5 (List.map Node.cells z10)]] = bindO (F19 N (⟨z1, z2, z3, z4, z5⟩ : Node) (⟨z6, z7, z8, z9, z10⟩ : Node)) fun r => some (v19 r) :=
  TL_hit ar19.inj ((⟨z1, z2, z3, z4, z5⟩ : Node), (⟨z6, z7, z8, z9, z10⟩ : Node)) (by simp only [push_cast] <;> rfl)
end Go.Abs.Try
