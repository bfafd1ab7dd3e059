import Derived.Test.YtjjajifecniidaaSqW2
import Derived.Test.YtjjajifecniidaaSqCl
namespace Go.Abs.Try
open Go.RowKit
set_option linter.unusedSimpArgs false
set_option linter.unusedVariables false
set_option maxRecDepth 100000
set_option maxHeartbeats 4000000
def cmpS (a b : ByteArray) : Int := Lib.compareBytes a.data.toList b.data.toList
def F79 (a b : ByteArray) : Option Int := some (cmpS a b)
def a79 (x : ByteArray × ByteArray) : List AV := [.str x.1, .str x.2]
def v79 (r : Int) : AV := .int .i64 r
theorem i79 (x y : ByteArray × ByteArray) (h : nzs (a79 x) = nzs (a79 y)) : x = y := by
  simp only [nzs, a79, List.map_cons, List.map_nil, nzV_agg, nzV_int, nzV_bool, nzV_str, nzV_sl, nzL_sl, List.cons.injEq, AV.agg.injEq, AV.int.injEq, AV.bool.injEq, AV.str.injEq, true_and, and_true, or_true] at h
  first | exact h | (obtain ⟨x1, x2⟩ := x; simp_all [Prod.ext_iff]) | simp_all [Prod.ext_iff]
theorem w79 (x : ByteArray × ByteArray) : wks (a79 x) = true := by
  simp only [wks, a79, wkV, wkL, List.all_cons, List.all_nil, Bool.not_false, Bool.and_self, Bool.and_true]
theorem d79 (x : ByteArray × ByteArray) : allData (a79 x) = true := by
  simp only [a79, push_cast]
def sh79 : Shp := .one (.leaf none)
noncomputable def t79 : List AV → Option AV := TL a79 fun x => bindO (F79 x.1 x.2) fun r => some (v79 r)
@[push_cast] theorem v79_eq (r : Int) : v79 r = .int .i64 r := rfl
def F162 (x y c : Int) : Option (Int × Int) := iteO (decide (0 ≤ x ∧ 0 ≤ y ∧ 0 ≤ c ∧ c ≤ 1)) (some ((x + y + c) % 18446744073709551616, (x + y + c) / 18446744073709551616)) none
def a162 (x : Int × Int × Int) : List AV := [.int .u64 x.1, .int .u64 x.2.1, .int .u64 x.2.2]
def v162 (r : Int × Int) : AV := .tuple [.int .u64 r.1, .int .u64 r.2]
theorem i162 (x y : Int × Int × Int) (h : nzs (a162 x) = nzs (a162 y)) : x = y := by
  simp only [nzs, a162, List.map_cons, List.map_nil, nzV_agg, nzV_int, nzV_bool, nzV_str, nzV_sl, nzL_sl, List.cons.injEq, AV.agg.injEq, AV.int.injEq, AV.bool.injEq, AV.str.injEq, true_and, and_true, or_true] at h
  first | exact h | (obtain ⟨x1, x2⟩ := x; simp_all [Prod.ext_iff]) | simp_all [Prod.ext_iff]
theorem w162 (x : Int × Int × Int) : wks (a162 x) = true := by
  simp only [wks, a162, wkV, wkL, List.all_cons, List.all_nil, Bool.not_false, Bool.and_self, Bool.and_true]
theorem d162 (x : Int × Int × Int) : allData (a162 x) = true := by
  simp only [a162, push_cast]
def sh162 : Shp := .tup [.leaf none, .leaf none]
noncomputable def t162 : List AV → Option AV := TL a162 fun x => bindO (F162 x.1 x.2.1 x.2.2) fun r => some (v162 r)
@[push_cast] theorem v162_eq (r : Int × Int) : v162 r = .tuple [.int .u64 r.1, .int .u64 r.2] := rfl
/-! ## 84: quantale/quantaleref01.Two -/
def H84 : Nat → Hint := fun _ => ⟨[], [], []⟩
def F84 (op : Int) (a : Node) (b : Node) : Option (Node) :=
  some (⟨op, 0, (⟨#[]⟩ : ByteArray), 0, [a, b]⟩ : Node)
def a84 (x : Int × Node × Node) : List AV := [.int .i64 x.1, .agg (Node.cells x.2.1), .agg (Node.cells x.2.2)]
def v84 (r : Node) : AV := .agg (Node.cells r)
theorem i84 (x y : Int × Node × Node) (h : nzs (a84 x) = nzs (a84 y)) : x = y := by
  simp only [nzs, a84, List.map_cons, List.map_nil, nzV_agg, nzV_int, nzV_bool, nzV_str, nzV_sl, nzL_sl, List.cons.injEq, AV.agg.injEq, AV.int.injEq, AV.bool.injEq, AV.str.injEq, true_and, and_true, or_true, Node.nz_iff] at h
  first | exact h | (obtain ⟨x1, x2⟩ := x; simp_all [Prod.ext_iff]) | simp_all [Prod.ext_iff]
theorem w84 (x : Int × Node × Node) : wks (a84 x) = true := by
  simp only [wks, a84, wkV, wkL, Node.wk, List.all_cons, List.all_nil, Bool.not_false, Bool.and_self, Bool.and_true]
theorem d84 (x : Int × Node × Node) : allData (a84 x) = true := by
  simp only [a84, push_cast]
def sh84 : Shp := .one (.agg [none, none, none, none, some 5])
noncomputable def t84 : List AV → Option AV := TL a84 fun x => bindO (F84 x.1 x.2.1 x.2.2) fun r => some (v84 r)
@[push_cast] theorem v84_eq (r : Node) : v84 r = .agg (Node.cells r) := rfl
/-! ## 37: quantale/logic.Size -/
def H37 : Nat → Hint := fun i => [⟨[], [3], []⟩, ⟨[], [3], []⟩].getD (i - 0) ⟨[], [], []⟩
@[push_cast] theorem H37_0 : H37 0 = ⟨[], [3], []⟩ := rfl
@[push_cast] theorem H37_1 : H37 1 = ⟨[], [3], []⟩ := rfl
def F37_s1  (s3 : Int) (x2 : Node) : Option (Sum (Int) (Int)) :=
  some (.inl (IntKind.i64.wrap (s3 + 1)))
def F37_f1  (s3 : Int) : Option (Int) :=
  some s3
def F37 (n : Node) : Option (Int) :=
  bindO (walkO n) fun l1 =>
  foldO (S := Int) (F37_s1) (F37_f1) l1 0
def a37 (x : Node) : List AV := [.agg (Node.cells x)]
def v37 (r : Int) : AV := .int .i64 r
theorem i37 (x y : Node) (h : nzs (a37 x) = nzs (a37 y)) : x = y := by
  simp only [nzs, a37, List.map_cons, List.map_nil, nzV_agg, nzV_int, nzV_bool, nzV_str, nzV_sl, nzL_sl, List.cons.injEq, AV.agg.injEq, AV.int.injEq, AV.bool.injEq, AV.str.injEq, true_and, and_true, or_true, Node.nz_iff] at h
  first | exact h | (obtain ⟨x1, x2⟩ := x; simp_all [Prod.ext_iff]) | simp_all [Prod.ext_iff]
theorem w37 (x : Node) : wks (a37 x) = true := by
  simp only [wks, a37, wkV, wkL, Node.wk, List.all_cons, List.all_nil, Bool.not_false, Bool.and_self, Bool.and_true]
theorem d37 (x : Node) : allData (a37 x) = true := by
  simp only [a37, push_cast]
def sh37 : Shp := .one (.leaf none)
noncomputable def t37 : List AV → Option AV := TL a37 fun x => bindO (F37 x) fun r => some (v37 r)
@[push_cast] theorem v37_eq (r : Int) : v37 r = .int .i64 r := rfl
/-! ## 38: quantale/logic.Levels -/
def H38 : Nat → Hint := fun i => [⟨[3, 7, 8, 9], [3], []⟩, ⟨[], [3, 7, 8, 9], []⟩].getD (i - 0) ⟨[], [], []⟩
@[push_cast] theorem H38_0 : H38 0 = ⟨[3, 7, 8, 9], [3], []⟩ := rfl
@[push_cast] theorem H38_1 : H38 1 = ⟨[], [3, 7, 8, 9], []⟩ := rfl
def F38_s1 (self38 : Node → Option (Int)) (s3 : Int) (i1 : Nat) (x2 : Node) : Option (Sum (Int) (Int)) :=
  bindO (self38 x2) fun r4 =>
  some (.inl (max s3 r4))
def F38_f1  (s3 : Int) : Option (Int) :=
  some (IntKind.i64.wrap (s3 + 1))
def F38b (self38 : Node → Option (Int)) (N : Nat) (n : Node) : Option (Int) :=
  foldN (S := Int) (F38_s1 self38) (F38_f1) N n.kids 0 0
def F38 : Nat → Node → Option (Int)
  | 0 => fun _ => none
  | N + 1 => fun n => F38b (F38 N) N n
def a38 (x : Node) : List AV := [.agg (Node.cells x)]
def v38 (r : Int) : AV := .int .i64 r
theorem i38 (x y : Node) (h : nzs (a38 x) = nzs (a38 y)) : x = y := by
  simp only [nzs, a38, List.map_cons, List.map_nil, nzV_agg, nzV_int, nzV_bool, nzV_str, nzV_sl, nzL_sl, List.cons.injEq, AV.agg.injEq, AV.int.injEq, AV.bool.injEq, AV.str.injEq, true_and, and_true, or_true, Node.nz_iff] at h
  first | exact h | (obtain ⟨x1, x2⟩ := x; simp_all [Prod.ext_iff]) | simp_all [Prod.ext_iff]
theorem w38 (x : Node) : wks (a38 x) = true := by
  simp only [wks, a38, wkV, wkL, Node.wk, List.all_cons, List.all_nil, Bool.not_false, Bool.and_self, Bool.and_true]
theorem d38 (x : Node) : allData (a38 x) = true := by
  simp only [a38, push_cast]
def sh38 : Shp := .one (.leaf none)
noncomputable def t38 (N : Nat) : List AV → Option AV := TL a38 fun x => bindO (F38 N x) fun r => some (v38 r)
@[push_cast] theorem v38_eq (r : Int) : v38 r = .int .i64 r := rfl
noncomputable def ts38 (self38 : Node → Option (Int)) : List AV → Option AV := TL a38 fun x => bindO (self38 x) fun r => some (v38 r)
@[push_cast] theorem t38_1 (self38 : Node → Option (Int)) (z1 : Int) (z2 : Int) (z3 : ByteArray) (z4 : Int) (z5 : List Node) : ts38 self38 [.agg [.int .i64 z1, .int .i64 z2, .str z3, .int .i64 z4, .sl false 5 (List.map Node.cells z5)]] = bindO (self38 (⟨z1, z2, z3, z4, z5⟩ : Node)) fun r => some (v38 r) :=
  TL_hit i38 (⟨z1, z2, z3, z4, z5⟩ : Node) (by first | (simp only [a38, push_cast]; done) | (simp only [a38, push_cast]; rfl))
/-! ## 70: quantale/logic.within -/
def H70 : Nat → Hint := fun _ => ⟨[], [], []⟩
def F70 (N : Nat) (n : Node) : Option (Bool) :=
  bindO (F37 n) fun r1 =>
  iteO (decide (r1 ≤ 4000))
  (bindO (F38 N n) fun r2 =>
    some (decide (r2 ≤ 100)))
  (some false)
def a70 (x : Node) : List AV := [.agg (Node.cells x)]
def v70 (r : Bool) : AV := .bool r
theorem i70 (x y : Node) (h : nzs (a70 x) = nzs (a70 y)) : x = y := by
  simp only [nzs, a70, List.map_cons, List.map_nil, nzV_agg, nzV_int, nzV_bool, nzV_str, nzV_sl, nzL_sl, List.cons.injEq, AV.agg.injEq, AV.int.injEq, AV.bool.injEq, AV.str.injEq, true_and, and_true, or_true, Node.nz_iff] at h
  first | exact h | (obtain ⟨x1, x2⟩ := x; simp_all [Prod.ext_iff]) | simp_all [Prod.ext_iff]
theorem w70 (x : Node) : wks (a70 x) = true := by
  simp only [wks, a70, wkV, wkL, Node.wk, List.all_cons, List.all_nil, Bool.not_false, Bool.and_self, Bool.and_true]
theorem d70 (x : Node) : allData (a70 x) = true := by
  simp only [a70, push_cast]
def sh70 : Shp := .one (.leaf none)
noncomputable def t70 (N : Nat) : List AV → Option AV := TL a70 fun x => bindO (F70 N x) fun r => some (v70 r)
@[push_cast] theorem v70_eq (r : Bool) : v70 r = .bool r := rfl
@[push_cast] theorem t37_1 (z1 : Int) (z2 : Int) (z3 : ByteArray) (z4 : Int) (z5 : List Node) : t37 [.agg [.int .i64 z1, .int .i64 z2, .str z3, .int .i64 z4, .sl false 5 (List.map Node.cells z5)]] = bindO (F37 (⟨z1, z2, z3, z4, z5⟩ : Node)) fun r => some (v37 r) :=
  TL_hit i37 (⟨z1, z2, z3, z4, z5⟩ : Node) (by first | (simp only [a37, push_cast]; done) | (simp only [a37, push_cast]; rfl))
@[push_cast] theorem t38_2 {N : Nat} (z1 : Int) (z2 : Int) (z3 : ByteArray) (z4 : Int) (z5 : List Node) : t38 N [.agg [.int .i64 z1, .int .i64 z2, .str z3, .int .i64 z4, .sl false 5 (List.map Node.cells z5)]] = bindO (F38 N (⟨z1, z2, z3, z4, z5⟩ : Node)) fun r => some (v38 r) :=
  TL_hit i38 (⟨z1, z2, z3, z4, z5⟩ : Node) (by first | (simp only [a38, push_cast]; done) | (simp only [a38, push_cast]; rfl))
/-! ## 73: quantale/logic.letter -/
def H73 : Nat → Hint := fun _ => ⟨[], [], []⟩
def F73 (c : Int) : Option (Bool) :=
  iteO (decide (c ≥ 97))
  (iteO (decide (c ≤ 122))
    (some true)
    (iteO (decide (c ≥ 65))
      (some (decide (c ≤ 90)))
      (some false)))
  (iteO (decide (c ≥ 65))
    (some (decide (c ≤ 90)))
    (some false))
def a73 (x : Int) : List AV := [.int .u8 x]
def v73 (r : Bool) : AV := .bool r
theorem i73 (x y : Int) (h : nzs (a73 x) = nzs (a73 y)) : x = y := by
  simp only [nzs, a73, List.map_cons, List.map_nil, nzV_agg, nzV_int, nzV_bool, nzV_str, nzV_sl, nzL_sl, List.cons.injEq, AV.agg.injEq, AV.int.injEq, AV.bool.injEq, AV.str.injEq, true_and, and_true, or_true] at h
  first | exact h | (obtain ⟨x1, x2⟩ := x; simp_all [Prod.ext_iff]) | simp_all [Prod.ext_iff]
theorem w73 (x : Int) : wks (a73 x) = true := by
  simp only [wks, a73, wkV, wkL, List.all_cons, List.all_nil, Bool.not_false, Bool.and_self, Bool.and_true]
theorem d73 (x : Int) : allData (a73 x) = true := by
  simp only [a73, push_cast]
def sh73 : Shp := .one (.leaf none)
noncomputable def t73 : List AV → Option AV := TL a73 fun x => bindO (F73 x) fun r => some (v73 r)
@[push_cast] theorem v73_eq (r : Bool) : v73 r = .bool r := rfl
/-! ## 74: quantale/logic.word -/
def H74 : Nat → Hint := fun i => [⟨[], [], []⟩].getD (i - 0) ⟨[], [], []⟩
@[push_cast] theorem H74_0 : H74 0 = ⟨[], [], []⟩ := rfl
def F74 (s : ByteArray) : Option (Bool) :=
  iteO (s.toList == (⟨#[116, 114, 117, 101]⟩ : ByteArray).toList)
  (some true)
  (iteO (s.toList == (⟨#[102, 97, 108, 115, 101]⟩ : ByteArray).toList)
    (some true)
    (iteO (s.toList == (⟨#[105, 110]⟩ : ByteArray).toList)
      (some true)
      (iteO (s.toList == (⟨#[115, 117, 98]⟩ : ByteArray).toList)
        (some true)
        (iteO (s.toList == (⟨#[101, 109, 112, 116, 121]⟩ : ByteArray).toList)
          (some true)
          (iteO (s.toList == (⟨#[115, 105, 110, 103]⟩ : ByteArray).toList)
            (some true)
            (iteO (s.toList == (⟨#[99, 117, 112]⟩ : ByteArray).toList)
              (some true)
              (iteO (s.toList == (⟨#[99, 97, 112]⟩ : ByteArray).toList)
                (some true)
                (iteO (s.toList == (⟨#[100, 105, 102, 102]⟩ : ByteArray).toList)
                  (some true)
                  (iteO (s.toList == (⟨#[115, 101, 108]⟩ : ByteArray).toList)
                    (some true)
                    (iteO (s.toList == (⟨#[115, 116, 111]⟩ : ByteArray).toList)
                      (some true)
                      (iteO (s.toList == (⟨#[118, 108, 101, 110]⟩ : ByteArray).toList)
                        (some true)
                        (iteO (s.toList == (⟨#[105, 116, 101]⟩ : ByteArray).toList)
                          (some true)
                          (some false)))))))))))))
def a74 (x : ByteArray) : List AV := [.str x]
def v74 (r : Bool) : AV := .bool r
theorem i74 (x y : ByteArray) (h : nzs (a74 x) = nzs (a74 y)) : x = y := by
  simp only [nzs, a74, List.map_cons, List.map_nil, nzV_agg, nzV_int, nzV_bool, nzV_str, nzV_sl, nzL_sl, List.cons.injEq, AV.agg.injEq, AV.int.injEq, AV.bool.injEq, AV.str.injEq, true_and, and_true, or_true] at h
  first | exact h | (obtain ⟨x1, x2⟩ := x; simp_all [Prod.ext_iff]) | simp_all [Prod.ext_iff]
theorem w74 (x : ByteArray) : wks (a74 x) = true := by
  simp only [wks, a74, wkV, wkL, List.all_cons, List.all_nil, Bool.not_false, Bool.and_self, Bool.and_true]
theorem d74 (x : ByteArray) : allData (a74 x) = true := by
  simp only [a74, push_cast]
def sh74 : Shp := .one (.leaf none)
noncomputable def t74 : List AV → Option AV := TL a74 fun x => bindO (F74 x) fun r => some (v74 r)
@[push_cast] theorem v74_eq (r : Bool) : v74 r = .bool r := rfl
/-! ## 16: quantale/logic.Name -/
def H16 : Nat → Hint := fun i => [⟨[0, 24, 25], [], []⟩, ⟨[], [0, 24, 25], []⟩].getD (i - 0) ⟨[], [], []⟩
@[push_cast] theorem H16_0 : H16 0 = ⟨[0, 24, 25], [], []⟩ := rfl
@[push_cast] theorem H16_1 : H16 1 = ⟨[], [0, 24, 25], []⟩ := rfl
def F16_s1 (s : ByteArray) (s5 : Unit) (i3 : Nat) (x4 : Nat) : Option (Sum (Unit) (Bool)) :=
  bindO (F73 (bt s (i3 : Int))) fun r6 =>
  iteO r6
  (some (.inl ()))
  (iteO (decide ((bt s (i3 : Int)) < 48))
    (iteO ((bt s (i3 : Int)) == 46)
      (some (.inl ()))
      (some (.inr false)))
    (iteO (decide ((bt s (i3 : Int)) > 57))
      (iteO ((bt s (i3 : Int)) == 46)
        (some (.inl ()))
        (some (.inr false)))
      (some (.inl ()))))
def F16_f1  (s5 : Unit) : Option (Bool) :=
  some true
def F16 (N : Nat) (s : ByteArray) : Option (Bool) :=
  iteO (decide ((s.size : Int) < 1))
  (some false)
  (iteO (decide ((s.size : Int) > 24))
    (some false)
    (iteO (inB 0 s.size)
      (bindO (F73 (bt s 0)) fun r1 =>
        iteO r1
        (bindO (F74 s) fun r2 =>
          iteO r2
          (some false)
          (foldN (S := Unit) (F16_s1 s) (F16_f1) N (List.range s.size) 0 ()))
        (some false))
      (none)))
def a16 (x : ByteArray) : List AV := [.str x]
def v16 (r : Bool) : AV := .bool r
theorem i16 (x y : ByteArray) (h : nzs (a16 x) = nzs (a16 y)) : x = y := by
  simp only [nzs, a16, List.map_cons, List.map_nil, nzV_agg, nzV_int, nzV_bool, nzV_str, nzV_sl, nzL_sl, List.cons.injEq, AV.agg.injEq, AV.int.injEq, AV.bool.injEq, AV.str.injEq, true_and, and_true, or_true] at h
  first | exact h | (obtain ⟨x1, x2⟩ := x; simp_all [Prod.ext_iff]) | simp_all [Prod.ext_iff]
theorem w16 (x : ByteArray) : wks (a16 x) = true := by
  simp only [wks, a16, wkV, wkL, List.all_cons, List.all_nil, Bool.not_false, Bool.and_self, Bool.and_true]
theorem d16 (x : ByteArray) : allData (a16 x) = true := by
  simp only [a16, push_cast]
def sh16 : Shp := .one (.leaf none)
noncomputable def t16 (N : Nat) : List AV → Option AV := TL a16 fun x => bindO (F16 N x) fun r => some (v16 r)
@[push_cast] theorem v16_eq (r : Bool) : v16 r = .bool r := rfl
@[push_cast] theorem t73_1 (z1 : Int) : t73 [.int .u8 z1] = bindO (F73 z1) fun r => some (v73 r) :=
  TL_hit i73 z1 (by first | (simp only [a73, push_cast]; done) | (simp only [a73, push_cast]; rfl))
@[push_cast] theorem t74_1 (z1 : ByteArray) : t74 [.str z1] = bindO (F74 z1) fun r => some (v74 r) :=
  TL_hit i74 z1 (by first | (simp only [a74, push_cast]; done) | (simp only [a74, push_cast]; rfl))
/-! ## 116: quantale/logic.fields -/
def H116 : Nat → Hint := fun i => [⟨[], [1], []⟩].getD (i - 0) ⟨[], [], []⟩
@[push_cast] theorem H116_0 : H116 0 = ⟨[], [1], []⟩ := rfl
def F116 (N : Nat) (n : Node) : Option (Bool) :=
  iteO (n.op == 1)
  (bindO (F16 N n.name) fun r2 =>
    iteO r2
    (iteO (decide (n.sortf < 1))
      (some false)
      (iteO (decide (n.sortf > 5))
        (some false)
        (iteO (n.op == 2)
          (iteO (decide (n.num ≥ (-1000000000000)))
            (some (decide (n.num ≤ 1000000000000)))
            (some false))
          (iteO (n.op == 7)
            (iteO (decide (n.num ≥ (-1000000000000)))
              (some (decide (n.num ≤ 1000000000000)))
              (some false))
            (iteO (n.op == 42)
              (iteO (decide (n.num ≥ 0))
                (some (decide (n.num < 200)))
                (some false))
              (some (n.num == 0)))))))
    (some false))
  (bindO (F16 N n.name) fun r1 =>
    iteO ((n.op == 3) == r1)
    (iteO (n.op == 3)
      (iteO (decide (n.sortf < 1))
        (some false)
        (iteO (decide (n.sortf > 5))
          (some false)
          (iteO (n.op == 2)
            (iteO (decide (n.num ≥ (-1000000000000)))
              (some (decide (n.num ≤ 1000000000000)))
              (some false))
            (iteO (n.op == 7)
              (iteO (decide (n.num ≥ (-1000000000000)))
                (some (decide (n.num ≤ 1000000000000)))
                (some false))
              (iteO (n.op == 42)
                (iteO (decide (n.num ≥ 0))
                  (some (decide (n.num < 200)))
                  (some false))
                (some (n.num == 0)))))))
      (iteO (n.name.toList == (⟨#[]⟩ : ByteArray).toList)
        (iteO (n.sortf == 0)
          (iteO (n.op == 2)
            (iteO (decide (n.num ≥ (-1000000000000)))
              (some (decide (n.num ≤ 1000000000000)))
              (some false))
            (iteO (n.op == 7)
              (iteO (decide (n.num ≥ (-1000000000000)))
                (some (decide (n.num ≤ 1000000000000)))
                (some false))
              (iteO (n.op == 42)
                (iteO (decide (n.num ≥ 0))
                  (some (decide (n.num < 200)))
                  (some false))
                (some (n.num == 0)))))
          (some false))
        (some false)))
    (some false))
def a116 (x : Node) : List AV := [.agg (Node.cells x)]
def v116 (r : Bool) : AV := .bool r
theorem i116 (x y : Node) (h : nzs (a116 x) = nzs (a116 y)) : x = y := by
  simp only [nzs, a116, List.map_cons, List.map_nil, nzV_agg, nzV_int, nzV_bool, nzV_str, nzV_sl, nzL_sl, List.cons.injEq, AV.agg.injEq, AV.int.injEq, AV.bool.injEq, AV.str.injEq, true_and, and_true, or_true, Node.nz_iff] at h
  first | exact h | (obtain ⟨x1, x2⟩ := x; simp_all [Prod.ext_iff]) | simp_all [Prod.ext_iff]
theorem w116 (x : Node) : wks (a116 x) = true := by
  simp only [wks, a116, wkV, wkL, Node.wk, List.all_cons, List.all_nil, Bool.not_false, Bool.and_self, Bool.and_true]
theorem d116 (x : Node) : allData (a116 x) = true := by
  simp only [a116, push_cast]
def sh116 : Shp := .one (.leaf none)
noncomputable def t116 (N : Nat) : List AV → Option AV := TL a116 fun x => bindO (F116 N x) fun r => some (v116 r)
@[push_cast] theorem v116_eq (r : Bool) : v116 r = .bool r := rfl
@[push_cast] theorem t16_1 {N : Nat} (z1 : ByteArray) : t16 N [.str z1] = bindO (F16 N z1) fun r => some (v16 r) :=
  TL_hit i16 z1 (by first | (simp only [a16, push_cast]; done) | (simp only [a16, push_cast]; rfl))
/-! ## 36: quantale/logic.Sort -/
def H36 : Nat → Hint := fun i => [⟨[1], [1], []⟩, ⟨[], [1], []⟩, ⟨[], [1], []⟩].getD (i - 0) ⟨[], [], []⟩
@[push_cast] theorem H36_0 : H36 0 = ⟨[1], [1], []⟩ := rfl
@[push_cast] theorem H36_1 : H36 1 = ⟨[], [1], []⟩ := rfl
@[push_cast] theorem H36_2 : H36 2 = ⟨[], [1], []⟩ := rfl
def F36_s1  (s1 : Int × Int × ByteArray × Int × (List Node)) : Option (Sum (Int × Int × ByteArray × Int × (List Node)) (Int)) :=
  iteO (s1.1 == 8)
  (iteO (decide ((s1.2.2.2.2.length : Int) < 2))
    (some (.inr 0))
    (bindO (atO s1.2.2.2.2 1) fun x2 =>
      some (.inl (x2.op, x2.sortf, x2.name, x2.num, x2.kids))))
  (iteO (s1.1 == 1)
    (some (.inr s1.2.1))
    (iteO (s1.1 == 3)
      (some (.inr s1.2.1))
      (iteO (s1.1 == 2)
        (some (.inr 1))
        (iteO (s1.1 == 4)
          (some (.inr 1))
          (iteO (s1.1 == 5)
            (some (.inr 1))
            (iteO (s1.1 == 6)
              (some (.inr 1))
              (iteO (s1.1 == 7)
                (some (.inr 1))
                (iteO (s1.1 == 14)
                  (some (.inr 1))
                  (iteO (s1.1 == 16)
                    (some (.inr 1))
                    (iteO (s1.1 == 9)
                      (some (.inr 4))
                      (iteO (s1.1 == 10)
                        (some (.inr 4))
                        (iteO (s1.1 == 11)
                          (some (.inr 4))
                          (iteO (s1.1 == 12)
                            (some (.inr 4))
                            (iteO (s1.1 == 13)
                              (some (.inr 4))
                              (iteO (s1.1 == 15)
                                (some (.inr 5))
                                (iteO (decide (s1.1 ≥ 30))
                                  (iteO (decide (s1.1 ≤ 42))
                                    (some (.inr 2))
                                    (some (.inr 0)))
                                  (some (.inr 0))))))))))))))))))
def F36 (N : Nat) (n : Node) : Option (Int) :=
  whileN (S := Int × Int × ByteArray × Int × (List Node)) (F36_s1) N (n.op, n.sortf, n.name, n.num, n.kids)
def a36 (x : Node) : List AV := [.agg (Node.cells x)]
def v36 (r : Int) : AV := .int .i64 r
theorem i36 (x y : Node) (h : nzs (a36 x) = nzs (a36 y)) : x = y := by
  simp only [nzs, a36, List.map_cons, List.map_nil, nzV_agg, nzV_int, nzV_bool, nzV_str, nzV_sl, nzL_sl, List.cons.injEq, AV.agg.injEq, AV.int.injEq, AV.bool.injEq, AV.str.injEq, true_and, and_true, or_true, Node.nz_iff] at h
  first | exact h | (obtain ⟨x1, x2⟩ := x; simp_all [Prod.ext_iff]) | simp_all [Prod.ext_iff]
theorem w36 (x : Node) : wks (a36 x) = true := by
  simp only [wks, a36, wkV, wkL, Node.wk, List.all_cons, List.all_nil, Bool.not_false, Bool.and_self, Bool.and_true]
theorem d36 (x : Node) : allData (a36 x) = true := by
  simp only [a36, push_cast]
def sh36 : Shp := .one (.leaf none)
noncomputable def t36 (N : Nat) : List AV → Option AV := TL a36 fun x => bindO (F36 N x) fun r => some (v36 r)
@[push_cast] theorem v36_eq (r : Int) : v36 r = .int .i64 r := rfl
/-! ## 153: quantale/logic.takes -/
def H153 : Nat → Hint := fun i => [⟨[], [], []⟩].getD (i - 0) ⟨[], [], []⟩
@[push_cast] theorem H153_0 : H153 0 = ⟨[], [], []⟩ := rfl
def F153 (op : Int) : Option ((List Int) × Bool) :=
  iteO (op == 2)
  (some ([], true))
  (iteO (op == 9)
    (some ([], true))
    (iteO (op == 30)
      (some ([], true))
      (iteO (op == 31)
        (some ([], true))
        (iteO (op == 1)
          (some ([], true))
          (iteO (op == 4)
            (some ([1, 1], true))
            (iteO (op == 5)
              (some ([1, 1], true))
              (iteO (op == 38)
                (some ([1, 1], true))
                (iteO (op == 39)
                  (some ([1, 1], true))
                  (iteO (op == 6)
                    (some ([1], true))
                    (iteO (op == 7)
                      (some ([1], true))
                      (iteO (op == 10)
                        (some ([1], true))
                        (iteO (op == 11)
                          (some ([4, 4], true))
                          (iteO (op == 12)
                            (some ([4, 4], true))
                            (iteO (op == 13)
                              (some ([4, 4], true))
                              (iteO (op == 41)
                                (some ([4, 4], true))
                                (iteO (op == 40)
                                  (some ([1, 4], true))
                                  (iteO (op == 14)
                                    (some ([5, 1], true))
                                    (iteO (op == 15)
                                      (some ([5, 1, 1], true))
                                      (iteO (op == 16)
                                        (some ([5], true))
                                        (iteO (op == 32)
                                          (some ([2], true))
                                          (iteO (op == 33)
                                            (some ([2, 2], true))
                                            (iteO (op == 34)
                                              (some ([2, 2], true))
                                              (iteO (op == 35)
                                                (some ([2, 2], true))
                                                (iteO (op == 36)
                                                  (some ([2, 2], true))
                                                  (some ([], false))))))))))))))))))))))))))
def a153 (x : Int) : List AV := [.int .i64 x]
def v153 (r : (List Int) × Bool) : AV := .tuple [.sl false 1 (List.map (cI .i64) r.1), .bool r.2]
theorem i153 (x y : Int) (h : nzs (a153 x) = nzs (a153 y)) : x = y := by
  simp only [nzs, a153, List.map_cons, List.map_nil, nzV_agg, nzV_int, nzV_bool, nzV_str, nzV_sl, nzL_sl, List.cons.injEq, AV.agg.injEq, AV.int.injEq, AV.bool.injEq, AV.str.injEq, true_and, and_true, or_true] at h
  first | exact h | (obtain ⟨x1, x2⟩ := x; simp_all [Prod.ext_iff]) | simp_all [Prod.ext_iff]
theorem w153 (x : Int) : wks (a153 x) = true := by
  simp only [wks, a153, wkV, wkL, List.all_cons, List.all_nil, Bool.not_false, Bool.and_self, Bool.and_true]
theorem d153 (x : Int) : allData (a153 x) = true := by
  simp only [a153, push_cast]
def sh153 : Shp := .tup [.leaf (some 1), .leaf none]
noncomputable def t153 : List AV → Option AV := TL a153 fun x => bindO (F153 x) fun r => some (v153 r)
@[push_cast] theorem v153_eq (r : (List Int) × Bool) : v153 r = .tuple [.sl false 1 (List.map (cI .i64) r.1), .bool r.2] := rfl
/-! ## 154: slices.Equal[[]int,int] -/
def H154 : Nat → Hint := fun i => [⟨[0, 1, 12, 13], [], []⟩, ⟨[], [0, 1, 12, 13], []⟩].getD (i - 0) ⟨[], [], []⟩
@[push_cast] theorem H154_0 : H154 0 = ⟨[0, 1, 12, 13], [], []⟩ := rfl
@[push_cast] theorem H154_1 : H154 1 = ⟨[], [0, 1, 12, 13], []⟩ := rfl
def F154_s1 (s2q : List Int) (s3 : Unit) (i1 : Nat) (x2 : Int) : Option (Sum (Unit) (Bool)) :=
  bindO (atO s2q (i1 : Int)) fun x4 =>
  iteO (x2 == x4)
  (some (.inl ()))
  (some (.inr false))
def F154_f1  (s3 : Unit) : Option (Bool) :=
  some true
def F154 (N : Nat) (s1q : List Int) (s2q : List Int) : Option (Bool) :=
  iteO ((s1q.length : Int) == (s2q.length : Int))
  (foldN (S := Unit) (F154_s1 s2q) (F154_f1) N s1q 0 ())
  (some false)
def a154 (x : (List Int) × (List Int)) : List AV := [.sl false 1 (List.map (cI .i64) x.1), .sl false 1 (List.map (cI .i64) x.2)]
def v154 (r : Bool) : AV := .bool r
theorem i154 (x y : (List Int) × (List Int)) (h : nzs (a154 x) = nzs (a154 y)) : x = y := by
  simp only [nzs, a154, List.map_cons, List.map_nil, nzV_agg, nzV_int, nzV_bool, nzV_str, nzV_sl, nzL_sl, List.cons.injEq, AV.agg.injEq, AV.int.injEq, AV.bool.injEq, AV.str.injEq, true_and, and_true, or_true, map_inj_iff (cI_inj .i64)] at h
  first | exact h | (obtain ⟨x1, x2⟩ := x; simp_all [Prod.ext_iff]) | simp_all [Prod.ext_iff]
theorem w154 (x : (List Int) × (List Int)) : wks (a154 x) = true := by
  simp only [wks, a154, wkV, wkL, List.all_cons, List.all_nil, Bool.not_false, Bool.and_self, Bool.and_true]
theorem d154 (x : (List Int) × (List Int)) : allData (a154 x) = true := by
  simp only [a154, push_cast]
def sh154 : Shp := .one (.leaf none)
noncomputable def t154 (N : Nat) : List AV → Option AV := TL a154 fun x => bindO (F154 N x.1 x.2) fun r => some (v154 r)
@[push_cast] theorem v154_eq (r : Bool) : v154 r = .bool r := rfl
/-! ## 117: quantale/logic.shape -/
def H117 : Nat → Hint := fun i => [⟨[1, 3, 14, 15, 16], [1, 3], []⟩, ⟨[], [1, 3, 14, 15, 16], []⟩, ⟨[], [], []⟩].getD (i - 0) ⟨[], [], []⟩
@[push_cast] theorem H117_0 : H117 0 = ⟨[1, 3, 14, 15, 16], [1, 3], []⟩ := rfl
@[push_cast] theorem H117_1 : H117 1 = ⟨[], [1, 3, 14, 15, 16], []⟩ := rfl
@[push_cast] theorem H117_2 : H117 2 = ⟨[], [], []⟩ := rfl
def H155 : Nat → Hint := fun _ => ⟨[], [], []⟩
def F117_s1 (N : Nat) (s3 : List Int) (i1 : Nat) (x2 : Node) : Option (Sum (List Int) (Bool)) :=
  bindO (F36 N x2) fun r4 =>
  bindO (atO s3 (i1 : Int)) fun x5 =>
  some (.inl (s3.set i1 r4))
def F117_f1 (N : Nat) (n : Node) (s3 : List Int) : Option (Bool) :=
  bindO (F153 n.op) fun r6 =>
  iteO r6.2
  (bindO (F154 N s3 r6.1) fun r7 =>
    some r7)
  (iteO (n.op == 8)
    (iteO (((s3.length : Int)) == 3)
      (bindO (atO s3 0) fun x8 =>
        iteO (x8 == 2)
        (bindO (atO s3 1) fun x9 =>
          bindO (atO s3 2) fun x10 =>
          iteO (x9 == x10)
          (iteO (x9 == 1)
            (some true)
            (some (decide (x9 ≥ 3))))
          (some false))
        (some false))
      (some false))
    (iteO (n.op == 37)
      (iteO (((s3.length : Int)) == 2)
        (bindO (atO s3 0) fun x11 =>
          bindO (atO s3 1) fun x12 =>
          iteO (x11 == x12)
          (iteO (x11 == 1)
            (some true)
            (some (decide (x11 ≥ 3))))
          (some false))
        (some false))
      (iteO (n.op == 3)
        (some (decide (((s3.length : Int)) ≤ 8)))
        (iteO (n.op == 42)
          (iteO (decide (((s3.length : Int)) ≥ 1))
            (some (decide (((s3.length : Int)) ≤ 40)))
            (some false))
          (some false)))))
def F117 (N : Nat) (n : Node) : Option (Bool) :=
  iteO (decide (0 ≤ (n.kids.length : Int) ∧ (n.kids.length : Int) ≤ (n.kids.length : Int) ∧ (n.kids.length : Int) * 8 ≤ 140737488355328 ∧ (n.kids.length : Int) ≤ 9223372036854775807))
  (foldN (S := List Int) (F117_s1 N) (F117_f1 N n) N n.kids 0 (List.replicate n.kids.length 0))
  (none)
def a117 (x : Node) : List AV := [.agg (Node.cells x)]
def v117 (r : Bool) : AV := .bool r
theorem i117 (x y : Node) (h : nzs (a117 x) = nzs (a117 y)) : x = y := by
  simp only [nzs, a117, List.map_cons, List.map_nil, nzV_agg, nzV_int, nzV_bool, nzV_str, nzV_sl, nzL_sl, List.cons.injEq, AV.agg.injEq, AV.int.injEq, AV.bool.injEq, AV.str.injEq, true_and, and_true, or_true, Node.nz_iff] at h
  first | exact h | (obtain ⟨x1, x2⟩ := x; simp_all [Prod.ext_iff]) | simp_all [Prod.ext_iff]
theorem w117 (x : Node) : wks (a117 x) = true := by
  simp only [wks, a117, wkV, wkL, Node.wk, List.all_cons, List.all_nil, Bool.not_false, Bool.and_self, Bool.and_true]
theorem d117 (x : Node) : allData (a117 x) = true := by
  simp only [a117, push_cast]
def sh117 : Shp := .one (.leaf none)
noncomputable def t117 (N : Nat) : List AV → Option AV := TL a117 fun x => bindO (F117 N x) fun r => some (v117 r)
@[push_cast] theorem v117_eq (r : Bool) : v117 r = .bool r := rfl
@[push_cast] theorem t36_1 {N : Nat} (z1 : Int) (z2 : Int) (z3 : ByteArray) (z4 : Int) (z5 : List Node) : t36 N [.agg [.int .i64 z1, .int .i64 z2, .str z3, .int .i64 z4, .sl false 5 (List.map Node.cells z5)]] = bindO (F36 N (⟨z1, z2, z3, z4, z5⟩ : Node)) fun r => some (v36 r) :=
  TL_hit i36 (⟨z1, z2, z3, z4, z5⟩ : Node) (by first | (simp only [a36, push_cast]; done) | (simp only [a36, push_cast]; rfl))
@[push_cast] theorem t153_1 (z1 : Int) : t153 [.int .i64 z1] = bindO (F153 z1) fun r => some (v153 r) :=
  TL_hit i153 z1 (by first | (simp only [a153, push_cast]; done) | (simp only [a153, push_cast]; rfl))
@[push_cast] theorem t154_1 {N : Nat} (z1 : List Int) (z2 : List Int) : t154 N [.sl false 1 (List.map (cI .i64) z1), .sl false 1 (List.map (cI .i64) z2)] = bindO (F154 N z1 z2) fun r => some (v154 r) :=
  TL_hit i154 (z1, z2) (by first | (simp only [a154, push_cast]; done) | (simp only [a154, push_cast]; rfl))
/-! ## 71: quantale/logic.sorted -/
def H71 : Nat → Hint := fun i => [⟨[], [2], []⟩, ⟨[], [2], []⟩].getD (i - 0) ⟨[], [], []⟩
@[push_cast] theorem H71_0 : H71 0 = ⟨[], [2], []⟩ := rfl
@[push_cast] theorem H71_1 : H71 1 = ⟨[], [2], []⟩ := rfl
def F71_s1 (N : Nat) (s3 : Unit) (x2 : Node) : Option (Sum (Unit) (Bool)) :=
  bindO (F116 N x2) fun r4 =>
  iteO r4
  (bindO (F117 N x2) fun r5 =>
    iteO r5
    (some (.inl ()))
    (some (.inr false)))
  (some (.inr false))
def F71_f1  (s3 : Unit) : Option (Bool) :=
  some true
def F71 (N : Nat) (n : Node) : Option (Bool) :=
  bindO (walkO n) fun l1 =>
  foldO (S := Unit) (F71_s1 N) (F71_f1) l1 ()
def a71 (x : Node) : List AV := [.agg (Node.cells x)]
def v71 (r : Bool) : AV := .bool r
theorem i71 (x y : Node) (h : nzs (a71 x) = nzs (a71 y)) : x = y := by
  simp only [nzs, a71, List.map_cons, List.map_nil, nzV_agg, nzV_int, nzV_bool, nzV_str, nzV_sl, nzL_sl, List.cons.injEq, AV.agg.injEq, AV.int.injEq, AV.bool.injEq, AV.str.injEq, true_and, and_true, or_true, Node.nz_iff] at h
  first | exact h | (obtain ⟨x1, x2⟩ := x; simp_all [Prod.ext_iff]) | simp_all [Prod.ext_iff]
theorem w71 (x : Node) : wks (a71 x) = true := by
  simp only [wks, a71, wkV, wkL, Node.wk, List.all_cons, List.all_nil, Bool.not_false, Bool.and_self, Bool.and_true]
theorem d71 (x : Node) : allData (a71 x) = true := by
  simp only [a71, push_cast]
def sh71 : Shp := .one (.leaf none)
noncomputable def t71 (N : Nat) : List AV → Option AV := TL a71 fun x => bindO (F71 N x) fun r => some (v71 r)
@[push_cast] theorem v71_eq (r : Bool) : v71 r = .bool r := rfl
@[push_cast] theorem t116_1 {N : Nat} (z1 : Int) (z2 : Int) (z3 : ByteArray) (z4 : Int) (z5 : List Node) : t116 N [.agg [.int .i64 z1, .int .i64 z2, .str z3, .int .i64 z4, .sl false 5 (List.map Node.cells z5)]] = bindO (F116 N (⟨z1, z2, z3, z4, z5⟩ : Node)) fun r => some (v116 r) :=
  TL_hit i116 (⟨z1, z2, z3, z4, z5⟩ : Node) (by first | (simp only [a116, push_cast]; done) | (simp only [a116, push_cast]; rfl))
@[push_cast] theorem t117_1 {N : Nat} (z1 : Int) (z2 : Int) (z3 : ByteArray) (z4 : Int) (z5 : List Node) : t117 N [.agg [.int .i64 z1, .int .i64 z2, .str z3, .int .i64 z4, .sl false 5 (List.map Node.cells z5)]] = bindO (F117 N (⟨z1, z2, z3, z4, z5⟩ : Node)) fun r => some (v117 r) :=
  TL_hit i117 (⟨z1, z2, z3, z4, z5⟩ : Node) (by first | (simp only [a117, push_cast]; done) | (simp only [a117, push_cast]; rfl))
/-! ## 40: quantale/logic.Uniform -/
def H40 : Nat → Hint := fun i => [⟨[], [2], []⟩, ⟨[], [2, 3], []⟩].getD (i - 0) ⟨[], [], []⟩
@[push_cast] theorem H40_0 : H40 0 = ⟨[], [2], []⟩ := rfl
@[push_cast] theorem H40_1 : H40 1 = ⟨[], [2, 3], []⟩ := rfl
def F40_s1  (s3 : ByteArray → Option Int) (x2 : Node) : Option (Sum (ByteArray → Option Int) (Bool)) :=
  iteO (x2.op == 3)
  (optO (s3 x2.name) (fun m4 =>
    iteO ((x2.kids.length : Int) == 0)
      (iteO (m4 == (-4611686018427387904))
        (iteO (x2.op == 1)
          (some (.inr false))
          (some (.inl (putM s3 x2.name (-4611686018427387904)))))
        (some (.inr false)))
      (iteO (x2.op == 1)
        (iteO (m4 == (-4611686018427387904))
          (some (.inr false))
          (optO (s3 x2.name) (fun m5 =>
            iteO (m5 == x2.sortf)
              (some (.inl (putM s3 x2.name x2.sortf)))
              (some (.inr false)))
            (some (.inl (putM s3 x2.name x2.sortf)))))
        (some (.inl s3))))
    (iteO ((x2.kids.length : Int) == 0)
      (iteO (x2.op == 1)
        (optO ((putM s3 x2.name (-4611686018427387904)) x2.name) (fun m6 =>
          iteO (m6 == x2.sortf)
            (some (.inl (putM (putM s3 x2.name (-4611686018427387904)) x2.name x2.sortf)))
            (some (.inr false)))
          (some (.inl (putM (putM s3 x2.name (-4611686018427387904)) x2.name x2.sortf))))
        (some (.inl (putM s3 x2.name (-4611686018427387904)))))
      (iteO (x2.op == 1)
        (optO (s3 x2.name) (fun m7 =>
          iteO (m7 == x2.sortf)
            (some (.inl (putM s3 x2.name x2.sortf)))
            (some (.inr false)))
          (some (.inl (putM s3 x2.name x2.sortf))))
        (some (.inl s3)))))
  (optO (s3 x2.name) (fun m8 =>
    iteO (x2.op == 1)
      (iteO (m8 == (-4611686018427387904))
        (some (.inr false))
        (optO (s3 x2.name) (fun m9 =>
          iteO (m9 == x2.sortf)
            (some (.inl (putM s3 x2.name x2.sortf)))
            (some (.inr false)))
          (some (.inl (putM s3 x2.name x2.sortf)))))
      (some (.inl s3)))
    (iteO (x2.op == 1)
      (optO (s3 x2.name) (fun m10 =>
        iteO (m10 == x2.sortf)
          (some (.inl (putM s3 x2.name x2.sortf)))
          (some (.inr false)))
        (some (.inl (putM s3 x2.name x2.sortf))))
      (some (.inl s3))))
def F40_f1  (s3 : ByteArray → Option Int) : Option (Bool) :=
  some true
def F40 (n : Node) : Option (Bool) :=
  bindO (walkO n) fun l1 =>
  foldO (S := ByteArray → Option Int) (F40_s1) (F40_f1) l1 (fun _ => none)
def a40 (x : Node) : List AV := [.agg (Node.cells x)]
def v40 (r : Bool) : AV := .bool r
theorem i40 (x y : Node) (h : nzs (a40 x) = nzs (a40 y)) : x = y := by
  simp only [nzs, a40, List.map_cons, List.map_nil, nzV_agg, nzV_int, nzV_bool, nzV_str, nzV_sl, nzL_sl, List.cons.injEq, AV.agg.injEq, AV.int.injEq, AV.bool.injEq, AV.str.injEq, true_and, and_true, or_true, Node.nz_iff] at h
  first | exact h | (obtain ⟨x1, x2⟩ := x; simp_all [Prod.ext_iff]) | simp_all [Prod.ext_iff]
theorem w40 (x : Node) : wks (a40 x) = true := by
  simp only [wks, a40, wkV, wkL, Node.wk, List.all_cons, List.all_nil, Bool.not_false, Bool.and_self, Bool.and_true]
theorem d40 (x : Node) : allData (a40 x) = true := by
  simp only [a40, push_cast]
def sh40 : Shp := .one (.leaf none)
noncomputable def t40 : List AV → Option AV := TL a40 fun x => bindO (F40 x) fun r => some (v40 r)
@[push_cast] theorem v40_eq (r : Bool) : v40 r = .bool r := rfl
theorem mk98 {E : Env} {fr : Fr} {σ : Store} {t : Nat} (hty : E.ty = tys) : run (aOp E fr σ t (.makeMap 98 none)) = newObj σ (.map .string (mS (evI .i64) fun _ => none)) (.map σ.length) := by
  rw [r_makeMap, hty, ← mS_empty (evI .i64)]
  simp only [push_cast, ty98, ty9]
  rfl
/-! ## 14: quantale/logic.Check -/
def H14 : Nat → Hint := fun i => [⟨[], [], []⟩].getD (i - 0) ⟨[], [], []⟩
@[push_cast] theorem H14_0 : H14 0 = ⟨[], [], []⟩ := rfl
def F14 (N : Nat) (n : Node) (sortq : Int) : Option (Int) :=
  iteO (decide (sortq < 0))
  (some 1)
  (iteO (decide (sortq > 5))
    (some 1)
    (bindO (F70 N n) fun r1 =>
      iteO r1
      (bindO (F71 N n) fun r2 =>
        iteO r2
        (bindO (F40 n) fun r3 =>
          iteO r3
          (iteO (sortq == 0)
            (some 0)
            (bindO (F36 N n) fun r4 =>
              iteO (r4 == sortq)
              (some 0)
              (some 10)))
          (some 3))
        (some 3))
      (some 2)))
def a14 (x : Node × Int) : List AV := [.agg (Node.cells x.1), .int .i64 x.2]
def v14 (r : Int) : AV := .int .i64 r
theorem i14 (x y : Node × Int) (h : nzs (a14 x) = nzs (a14 y)) : x = y := by
  simp only [nzs, a14, List.map_cons, List.map_nil, nzV_agg, nzV_int, nzV_bool, nzV_str, nzV_sl, nzL_sl, List.cons.injEq, AV.agg.injEq, AV.int.injEq, AV.bool.injEq, AV.str.injEq, true_and, and_true, or_true, Node.nz_iff] at h
  first | exact h | (obtain ⟨x1, x2⟩ := x; simp_all [Prod.ext_iff]) | simp_all [Prod.ext_iff]
theorem w14 (x : Node × Int) : wks (a14 x) = true := by
  simp only [wks, a14, wkV, wkL, Node.wk, List.all_cons, List.all_nil, Bool.not_false, Bool.and_self, Bool.and_true]
theorem d14 (x : Node × Int) : allData (a14 x) = true := by
  simp only [a14, push_cast]
def sh14 : Shp := .one (.leaf none)
noncomputable def t14 (N : Nat) : List AV → Option AV := TL a14 fun x => bindO (F14 N x.1 x.2) fun r => some (v14 r)
@[push_cast] theorem v14_eq (r : Int) : v14 r = .int .i64 r := rfl
@[push_cast] theorem t70_1 {N : Nat} (z1 : Int) (z2 : Int) (z3 : ByteArray) (z4 : Int) (z5 : List Node) : t70 N [.agg [.int .i64 z1, .int .i64 z2, .str z3, .int .i64 z4, .sl false 5 (List.map Node.cells z5)]] = bindO (F70 N (⟨z1, z2, z3, z4, z5⟩ : Node)) fun r => some (v70 r) :=
  TL_hit i70 (⟨z1, z2, z3, z4, z5⟩ : Node) (by first | (simp only [a70, push_cast]; done) | (simp only [a70, push_cast]; rfl))
@[push_cast] theorem t71_1 {N : Nat} (z1 : Int) (z2 : Int) (z3 : ByteArray) (z4 : Int) (z5 : List Node) : t71 N [.agg [.int .i64 z1, .int .i64 z2, .str z3, .int .i64 z4, .sl false 5 (List.map Node.cells z5)]] = bindO (F71 N (⟨z1, z2, z3, z4, z5⟩ : Node)) fun r => some (v71 r) :=
  TL_hit i71 (⟨z1, z2, z3, z4, z5⟩ : Node) (by first | (simp only [a71, push_cast]; done) | (simp only [a71, push_cast]; rfl))
@[push_cast] theorem t40_1 (z1 : Int) (z2 : Int) (z3 : ByteArray) (z4 : Int) (z5 : List Node) : t40 [.agg [.int .i64 z1, .int .i64 z2, .str z3, .int .i64 z4, .sl false 5 (List.map Node.cells z5)]] = bindO (F40 (⟨z1, z2, z3, z4, z5⟩ : Node)) fun r => some (v40 r) :=
  TL_hit i40 (⟨z1, z2, z3, z4, z5⟩ : Node) (by first | (simp only [a40, push_cast]; done) | (simp only [a40, push_cast]; rfl))
/-! ## 112: quantale/linear.fits -/
def H112 : Nat → Hint := fun _ => ⟨[], [], []⟩
def F112 (x : Int) : Option (Bool) :=
  iteO (decide (x ≥ (-9007199254740992)))
  (some (decide (x ≤ 9007199254740992)))
  (some false)
def a112 (x : Int) : List AV := [.int .i64 x]
def v112 (r : Bool) : AV := .bool r
theorem i112 (x y : Int) (h : nzs (a112 x) = nzs (a112 y)) : x = y := by
  simp only [nzs, a112, List.map_cons, List.map_nil, nzV_agg, nzV_int, nzV_bool, nzV_str, nzV_sl, nzL_sl, List.cons.injEq, AV.agg.injEq, AV.int.injEq, AV.bool.injEq, AV.str.injEq, true_and, and_true, or_true] at h
  first | exact h | (obtain ⟨x1, x2⟩ := x; simp_all [Prod.ext_iff]) | simp_all [Prod.ext_iff]
theorem w112 (x : Int) : wks (a112 x) = true := by
  simp only [wks, a112, wkV, wkL, List.all_cons, List.all_nil, Bool.not_false, Bool.and_self, Bool.and_true]
theorem d112 (x : Int) : allData (a112 x) = true := by
  simp only [a112, push_cast]
def sh112 : Shp := .one (.leaf none)
noncomputable def t112 : List AV → Option AV := TL a112 fun x => bindO (F112 x) fun r => some (v112 r)
@[push_cast] theorem v112_eq (r : Bool) : v112 r = .bool r := rfl
/-! ## 161: math/bits.Mul64 -/
def H161 : Nat → Hint := fun _ => ⟨[], [], []⟩
def F161 (x : Int) (y : Int) : Option (Int × Int) :=
  some (IntKind.u64.wrap ((IntKind.u64.wrap ((IntKind.u64.wrap ((x.fdiv (2 ^ (min (32 : Int).toNat (IntKind.u64).bits))) * (y.fdiv (2 ^ (min (32 : Int).toNat (IntKind.u64).bits))))) + ((IntKind.u64.wrap ((IntKind.u64.wrap ((x.fdiv (2 ^ (min (32 : Int).toNat (IntKind.u64).bits))) * (IntKind.u64.wrap ((BitVec.ofInt (IntKind.u64).bits y &&& BitVec.ofInt (IntKind.u64).bits 4294967295).toNat)))) + ((IntKind.u64.wrap ((IntKind.u64.wrap ((BitVec.ofInt (IntKind.u64).bits x &&& BitVec.ofInt (IntKind.u64).bits 4294967295).toNat)) * (IntKind.u64.wrap ((BitVec.ofInt (IntKind.u64).bits y &&& BitVec.ofInt (IntKind.u64).bits 4294967295).toNat)))).fdiv (2 ^ (min (32 : Int).toNat (IntKind.u64).bits))))).fdiv (2 ^ (min (32 : Int).toNat (IntKind.u64).bits))))) + ((IntKind.u64.wrap ((IntKind.u64.wrap ((BitVec.ofInt (IntKind.u64).bits (IntKind.u64.wrap ((IntKind.u64.wrap ((x.fdiv (2 ^ (min (32 : Int).toNat (IntKind.u64).bits))) * (IntKind.u64.wrap ((BitVec.ofInt (IntKind.u64).bits y &&& BitVec.ofInt (IntKind.u64).bits 4294967295).toNat)))) + ((IntKind.u64.wrap ((IntKind.u64.wrap ((BitVec.ofInt (IntKind.u64).bits x &&& BitVec.ofInt (IntKind.u64).bits 4294967295).toNat)) * (IntKind.u64.wrap ((BitVec.ofInt (IntKind.u64).bits y &&& BitVec.ofInt (IntKind.u64).bits 4294967295).toNat)))).fdiv (2 ^ (min (32 : Int).toNat (IntKind.u64).bits))))) &&& BitVec.ofInt (IntKind.u64).bits 4294967295).toNat)) + (IntKind.u64.wrap ((IntKind.u64.wrap ((BitVec.ofInt (IntKind.u64).bits x &&& BitVec.ofInt (IntKind.u64).bits 4294967295).toNat)) * (y.fdiv (2 ^ (min (32 : Int).toNat (IntKind.u64).bits))))))).fdiv (2 ^ (min (32 : Int).toNat (IntKind.u64).bits)))), IntKind.u64.wrap (x * y))
def a161 (x : Int × Int) : List AV := [.int .u64 x.1, .int .u64 x.2]
def v161 (r : Int × Int) : AV := .tuple [.int .u64 r.1, .int .u64 r.2]
theorem i161 (x y : Int × Int) (h : nzs (a161 x) = nzs (a161 y)) : x = y := by
  simp only [nzs, a161, List.map_cons, List.map_nil, nzV_agg, nzV_int, nzV_bool, nzV_str, nzV_sl, nzL_sl, List.cons.injEq, AV.agg.injEq, AV.int.injEq, AV.bool.injEq, AV.str.injEq, true_and, and_true, or_true] at h
  first | exact h | (obtain ⟨x1, x2⟩ := x; simp_all [Prod.ext_iff]) | simp_all [Prod.ext_iff]
theorem w161 (x : Int × Int) : wks (a161 x) = true := by
  simp only [wks, a161, wkV, wkL, List.all_cons, List.all_nil, Bool.not_false, Bool.and_self, Bool.and_true]
theorem d161 (x : Int × Int) : allData (a161 x) = true := by
  simp only [a161, push_cast]
def sh161 : Shp := .tup [.leaf none, .leaf none]
noncomputable def t161 : List AV → Option AV := TL a161 fun x => bindO (F161 x.1 x.2) fun r => some (v161 r)
@[push_cast] theorem v161_eq (r : Int × Int) : v161 r = .tuple [.int .u64 r.1, .int .u64 r.2] := rfl
/-! ## 128: (quantale/linear.sum).plus -/
def H128 : Nat → Hint := fun _ => ⟨[], [], []⟩
def F128 (s : LinearSum) (a : Int) (b : Int) : Option (LinearSum) :=
  bindO (F161 (IntKind.u64.wrap (a)) (IntKind.u64.wrap (b))) fun r1 =>
  iteO (decide (a < 0))
  (iteO (decide (b < 0))
    (bindO (F162 s.linearSumLo r1.2 0) fun r2 =>
      bindO (F162 (IntKind.u64.wrap (s.linearSumHi)) (IntKind.u64.wrap ((IntKind.u64.wrap (r1.1 - (IntKind.u64.wrap (b)))) - (IntKind.u64.wrap (a)))) r2.2) fun r3 =>
      some (⟨IntKind.i64.wrap (r3.1), r2.1⟩ : LinearSum))
    (bindO (F162 s.linearSumLo r1.2 0) fun r4 =>
      bindO (F162 (IntKind.u64.wrap (s.linearSumHi)) (IntKind.u64.wrap (r1.1 - (IntKind.u64.wrap (b)))) r4.2) fun r5 =>
      some (⟨IntKind.i64.wrap (r5.1), r4.1⟩ : LinearSum)))
  (iteO (decide (b < 0))
    (bindO (F162 s.linearSumLo r1.2 0) fun r6 =>
      bindO (F162 (IntKind.u64.wrap (s.linearSumHi)) (IntKind.u64.wrap (r1.1 - (IntKind.u64.wrap (a)))) r6.2) fun r7 =>
      some (⟨IntKind.i64.wrap (r7.1), r6.1⟩ : LinearSum))
    (bindO (F162 s.linearSumLo r1.2 0) fun r8 =>
      bindO (F162 (IntKind.u64.wrap (s.linearSumHi)) r1.1 r8.2) fun r9 =>
      some (⟨IntKind.i64.wrap (r9.1), r8.1⟩ : LinearSum)))
def a128 (x : LinearSum × Int × Int) : List AV := [.agg (LinearSum.cells x.1), .int .i64 x.2.1, .int .i64 x.2.2]
def v128 (r : LinearSum) : AV := .agg (LinearSum.cells r)
theorem i128 (x y : LinearSum × Int × Int) (h : nzs (a128 x) = nzs (a128 y)) : x = y := by
  simp only [nzs, a128, List.map_cons, List.map_nil, nzV_agg, nzV_int, nzV_bool, nzV_str, nzV_sl, nzL_sl, List.cons.injEq, AV.agg.injEq, AV.int.injEq, AV.bool.injEq, AV.str.injEq, true_and, and_true, or_true, LinearSum.nz_iff] at h
  first | exact h | (obtain ⟨x1, x2⟩ := x; simp_all [Prod.ext_iff]) | simp_all [Prod.ext_iff]
theorem w128 (x : LinearSum × Int × Int) : wks (a128 x) = true := by
  simp only [wks, a128, wkV, wkL, LinearSum.wk, List.all_cons, List.all_nil, Bool.not_false, Bool.and_self, Bool.and_true]
theorem d128 (x : LinearSum × Int × Int) : allData (a128 x) = true := by
  simp only [a128, push_cast]
def sh128 : Shp := .one (.agg [none, none])
noncomputable def t128 : List AV → Option AV := TL a128 fun x => bindO (F128 x.1 x.2.1 x.2.2) fun r => some (v128 r)
@[push_cast] theorem v128_eq (r : LinearSum) : v128 r = .agg (LinearSum.cells r) := rfl
@[push_cast] theorem t161_1 (z1 : Int) (z2 : Int) : t161 [.int .u64 z1, .int .u64 z2] = bindO (F161 z1 z2) fun r => some (v161 r) :=
  TL_hit i161 (z1, z2) (by first | (simp only [a161, push_cast]; done) | (simp only [a161, push_cast]; rfl))
@[push_cast] theorem t162_1 (z1 : Int) (z2 : Int) (z3 : Int) : t162 [.int .u64 z1, .int .u64 z2, .int .u64 z3] = bindO (F162 z1 z2 z3) fun r => some (v162 r) :=
  TL_hit i162 (z1, z2, z3) (by first | (simp only [a162, push_cast]; done) | (simp only [a162, push_cast]; rfl))
/-! ## 129: (quantale/linear.sum).number -/
def H129 : Nat → Hint := fun _ => ⟨[], [], []⟩
def F129 (s : LinearSum) : Option (Int × Bool) :=
  iteO (decide ((IntKind.i64.wrap (s.linearSumLo)) < 0))
  (iteO (s.linearSumHi == (-1))
    (iteO (decide ((IntKind.i64.wrap (s.linearSumLo)) ≥ 0))
      (iteO (s.linearSumHi == 0)
        (bindO (F112 (IntKind.i64.wrap (s.linearSumLo))) fun r1 =>
          some (IntKind.i64.wrap (s.linearSumLo), r1))
        (some (0, false)))
      (bindO (F112 (IntKind.i64.wrap (s.linearSumLo))) fun r2 =>
        some (IntKind.i64.wrap (s.linearSumLo), r2)))
    (some (0, false)))
  (iteO (decide ((IntKind.i64.wrap (s.linearSumLo)) ≥ 0))
    (iteO (s.linearSumHi == 0)
      (bindO (F112 (IntKind.i64.wrap (s.linearSumLo))) fun r3 =>
        some (IntKind.i64.wrap (s.linearSumLo), r3))
      (some (0, false)))
    (bindO (F112 (IntKind.i64.wrap (s.linearSumLo))) fun r4 =>
      some (IntKind.i64.wrap (s.linearSumLo), r4)))
def a129 (x : LinearSum) : List AV := [.agg (LinearSum.cells x)]
def v129 (r : Int × Bool) : AV := .tuple [.int .i64 r.1, .bool r.2]
theorem i129 (x y : LinearSum) (h : nzs (a129 x) = nzs (a129 y)) : x = y := by
  simp only [nzs, a129, List.map_cons, List.map_nil, nzV_agg, nzV_int, nzV_bool, nzV_str, nzV_sl, nzL_sl, List.cons.injEq, AV.agg.injEq, AV.int.injEq, AV.bool.injEq, AV.str.injEq, true_and, and_true, or_true, LinearSum.nz_iff] at h
  first | exact h | (obtain ⟨x1, x2⟩ := x; simp_all [Prod.ext_iff]) | simp_all [Prod.ext_iff]
theorem w129 (x : LinearSum) : wks (a129 x) = true := by
  simp only [wks, a129, wkV, wkL, LinearSum.wk, List.all_cons, List.all_nil, Bool.not_false, Bool.and_self, Bool.and_true]
theorem d129 (x : LinearSum) : allData (a129 x) = true := by
  simp only [a129, push_cast]
def sh129 : Shp := .tup [.leaf none, .leaf none]
noncomputable def t129 : List AV → Option AV := TL a129 fun x => bindO (F129 x) fun r => some (v129 r)
@[push_cast] theorem v129_eq (r : Int × Bool) : v129 r = .tuple [.int .i64 r.1, .bool r.2] := rfl
@[push_cast] theorem t112_1 (z1 : Int) : t112 [.int .i64 z1] = bindO (F112 z1) fun r => some (v112 r) :=
  TL_hit i112 z1 (by first | (simp only [a112, push_cast]; done) | (simp only [a112, push_cast]; rfl))
/-! ## 78: quantale/logic.order[int] -/
def H78 : Nat → Hint := fun _ => ⟨[], [], []⟩
def F78 (a : Int) (b : Int) : Option (Int) :=
  iteO (decide (a < b))
  (some (-1))
  (iteO (decide (a > b))
    (some 1)
    (some 0))
def a78 (x : Int × Int) : List AV := [.int .i64 x.1, .int .i64 x.2]
def v78 (r : Int) : AV := .int .i64 r
theorem i78 (x y : Int × Int) (h : nzs (a78 x) = nzs (a78 y)) : x = y := by
  simp only [nzs, a78, List.map_cons, List.map_nil, nzV_agg, nzV_int, nzV_bool, nzV_str, nzV_sl, nzL_sl, List.cons.injEq, AV.agg.injEq, AV.int.injEq, AV.bool.injEq, AV.str.injEq, true_and, and_true, or_true] at h
  first | exact h | (obtain ⟨x1, x2⟩ := x; simp_all [Prod.ext_iff]) | simp_all [Prod.ext_iff]
theorem w78 (x : Int × Int) : wks (a78 x) = true := by
  simp only [wks, a78, wkV, wkL, List.all_cons, List.all_nil, Bool.not_false, Bool.and_self, Bool.and_true]
theorem d78 (x : Int × Int) : allData (a78 x) = true := by
  simp only [a78, push_cast]
def sh78 : Shp := .one (.leaf none)
noncomputable def t78 : List AV → Option AV := TL a78 fun x => bindO (F78 x.1 x.2) fun r => some (v78 r)
@[push_cast] theorem v78_eq (r : Int) : v78 r = .int .i64 r := rfl
/-! ## 80: quantale/logic.order[int64] -/
def H80 : Nat → Hint := fun _ => ⟨[], [], []⟩
def F80 (a : Int) (b : Int) : Option (Int) :=
  iteO (decide (a < b))
  (some (-1))
  (iteO (decide (a > b))
    (some 1)
    (some 0))
def a80 (x : Int × Int) : List AV := [.int .i64 x.1, .int .i64 x.2]
def v80 (r : Int) : AV := .int .i64 r
theorem i80 (x y : Int × Int) (h : nzs (a80 x) = nzs (a80 y)) : x = y := by
  simp only [nzs, a80, List.map_cons, List.map_nil, nzV_agg, nzV_int, nzV_bool, nzV_str, nzV_sl, nzL_sl, List.cons.injEq, AV.agg.injEq, AV.int.injEq, AV.bool.injEq, AV.str.injEq, true_and, and_true, or_true] at h
  first | exact h | (obtain ⟨x1, x2⟩ := x; simp_all [Prod.ext_iff]) | simp_all [Prod.ext_iff]
theorem w80 (x : Int × Int) : wks (a80 x) = true := by
  simp only [wks, a80, wkV, wkL, List.all_cons, List.all_nil, Bool.not_false, Bool.and_self, Bool.and_true]
theorem d80 (x : Int × Int) : allData (a80 x) = true := by
  simp only [a80, push_cast]
def sh80 : Shp := .one (.leaf none)
noncomputable def t80 : List AV → Option AV := TL a80 fun x => bindO (F80 x.1 x.2) fun r => some (v80 r)
@[push_cast] theorem v80_eq (r : Int) : v80 r = .int .i64 r := rfl
/-! ## 18: quantale/logic.Compare -/
def H18 : Nat → Hint := fun i => [⟨[2, 3, 56, 57], [], []⟩, ⟨[], [2, 3, 56, 57], []⟩].getD (i - 0) ⟨[], [], []⟩
@[push_cast] theorem H18_0 : H18 0 = ⟨[2, 3, 56, 57], [], []⟩ := rfl
@[push_cast] theorem H18_1 : H18 1 = ⟨[], [2, 3, 56, 57], []⟩ := rfl
def F18_s1 (self18 : Node → Node → Option (Int)) (b : Node) (s8 : Unit) (i6 : Nat) (x7 : Node) : Option (Sum (Unit) (Int)) :=
  bindO (atO b.kids (i6 : Int)) fun x9 =>
  bindO (self18 x7 x9) fun r10 =>
  iteO (r10 == 0)
  (some (.inl ()))
  (some (.inr r10))
def F18_f1  (s8 : Unit) : Option (Int) :=
  some 0
def F18b (self18 : Node → Node → Option (Int)) (N : Nat) (a : Node) (b : Node) : Option (Int) :=
  bindO (F78 a.op b.op) fun r1 =>
  iteO (r1 == 0)
  (bindO (F78 a.sortf b.sortf) fun r2 =>
    iteO (r2 == 0)
    (bindO (F79 a.name b.name) fun r3 =>
      iteO (r3 == 0)
      (bindO (F80 a.num b.num) fun r4 =>
        iteO (r4 == 0)
        (bindO (F78 (a.kids.length : Int) (b.kids.length : Int)) fun r5 =>
          iteO (r5 == 0)
          (foldN (S := Unit) (F18_s1 self18 b) (F18_f1) N a.kids 0 ())
          (some r5))
        (some r4))
      (some r3))
    (some r2))
  (some r1)
def F18 : Nat → Node → Node → Option (Int)
  | 0 => fun _ _ => none
  | N + 1 => fun a b => F18b (F18 N) N a b
def a18 (x : Node × Node) : List AV := [.agg (Node.cells x.1), .agg (Node.cells x.2)]
def v18 (r : Int) : AV := .int .i64 r
theorem i18 (x y : Node × Node) (h : nzs (a18 x) = nzs (a18 y)) : x = y := by
  simp only [nzs, a18, List.map_cons, List.map_nil, nzV_agg, nzV_int, nzV_bool, nzV_str, nzV_sl, nzL_sl, List.cons.injEq, AV.agg.injEq, AV.int.injEq, AV.bool.injEq, AV.str.injEq, true_and, and_true, or_true, Node.nz_iff] at h
  first | exact h | (obtain ⟨x1, x2⟩ := x; simp_all [Prod.ext_iff]) | simp_all [Prod.ext_iff]
theorem w18 (x : Node × Node) : wks (a18 x) = true := by
  simp only [wks, a18, wkV, wkL, Node.wk, List.all_cons, List.all_nil, Bool.not_false, Bool.and_self, Bool.and_true]
theorem d18 (x : Node × Node) : allData (a18 x) = true := by
  simp only [a18, push_cast]
def sh18 : Shp := .one (.leaf none)
noncomputable def t18 (N : Nat) : List AV → Option AV := TL a18 fun x => bindO (F18 N x.1 x.2) fun r => some (v18 r)
@[push_cast] theorem v18_eq (r : Int) : v18 r = .int .i64 r := rfl
noncomputable def ts18 (self18 : Node → Node → Option (Int)) : List AV → Option AV := TL a18 fun x => bindO (self18 x.1 x.2) fun r => some (v18 r)
@[push_cast] theorem t78_1 (z1 : Int) (z2 : Int) : t78 [.int .i64 z1, .int .i64 z2] = bindO (F78 z1 z2) fun r => some (v78 r) :=
  TL_hit i78 (z1, z2) (by first | (simp only [a78, push_cast]; done) | (simp only [a78, push_cast]; rfl))
@[push_cast] theorem t79_1 (z1 : ByteArray) (z2 : ByteArray) : t79 [.str z1, .str z2] = bindO (F79 z1 z2) fun r => some (v79 r) :=
  TL_hit i79 (z1, z2) (by first | (simp only [a79, push_cast]; done) | (simp only [a79, push_cast]; rfl))
@[push_cast] theorem t80_1 (z1 : Int) (z2 : Int) : t80 [.int .i64 z1, .int .i64 z2] = bindO (F80 z1 z2) fun r => some (v80 r) :=
  TL_hit i80 (z1, z2) (by first | (simp only [a80, push_cast]; done) | (simp only [a80, push_cast]; rfl))
@[push_cast] theorem t18_1 (self18 : Node → Node → Option (Int)) (z1 : Int) (z2 : Int) (z3 : ByteArray) (z4 : Int) (z5 : List Node) (z6 : Int) (z7 : Int) (z8 : ByteArray) (z9 : Int) (z10 : List Node) : ts18 self18 [.agg [.int .i64 z1, .int .i64 z2, .str z3, .int .i64 z4, .sl false 5 (List.map Node.cells z5)], .agg [.int .i64 z6, .int .i64 z7, .str z8, .int .i64 z9, .sl false 5 (List.map Node.cells z10)]] = bindO (self18 (⟨z1, z2, z3, z4, z5⟩ : Node) (⟨z6, z7, z8, z9, z10⟩ : Node)) fun r => some (v18 r) :=
  TL_hit i18 ((⟨z1, z2, z3, z4, z5⟩ : Node), (⟨z6, z7, z8, z9, z10⟩ : Node)) (by first | (simp only [a18, push_cast]; done) | (simp only [a18, push_cast]; rfl))
/-! ## 88: quantale/linear.merge -/
def H88 : Nat → Hint := fun i => [⟨[2, 3, 4, 5, 8, 10, 11, 12], [2, 3, 4, 5, 8, 10], [.ownS 3 0 6]⟩, ⟨[], [2, 3, 4, 5, 8, 10, 11, 12], []⟩, ⟨[], [2, 3, 4, 5, 8, 10, 11, 12, 13], []⟩].getD (i - 0) ⟨[], [], []⟩
@[push_cast] theorem H88_0 : H88 0 = ⟨[2, 3, 4, 5, 8, 10, 11, 12], [2, 3, 4, 5, 8, 10], [.ownS 3 0 6]⟩ := rfl
@[push_cast] theorem H88_1 : H88 1 = ⟨[], [2, 3, 4, 5, 8, 10, 11, 12], []⟩ := rfl
@[push_cast] theorem H88_2 : H88 2 = ⟨[], [2, 3, 4, 5, 8, 10, 11, 12, 13], []⟩ := rfl
def F88_s1 (N : Nat) (a : Lin) (b : Lin) (p : Int) (q : Int) (s1 : (List Mono) × Int × Int) : Option (Sum ((List Mono) × Int × Int) (Lin × Bool)) :=
  iteO (decide (s1.2.1 < (a.linMonos.length : Int)))
  (iteO (s1.2.1 == (a.linMonos.length : Int))
    (bindO (atO b.linMonos s1.2.2) fun x21 =>
      bindO (F128 (⟨0, 0⟩ : LinearSum) q x21.monoCoef) fun r22 =>
      bindO (F129 r22) fun r23 =>
      iteO r23.2
      (iteO (r23.1 == 0)
        (some (.inl (s1.1, s1.2.1, IntKind.i64.wrap (s1.2.2 + 1))))
        (iteO (fits (s1.1.length + 1) 72)
          (some (.inl (s1.1 ++ ([(⟨r23.1, x21.monoAtom⟩ : Mono)]), s1.2.1, IntKind.i64.wrap (s1.2.2 + 1))))
          (none)))
      (some (.inr ((⟨[], 0⟩ : Lin), false))))
    (iteO (s1.2.2 == (b.linMonos.length : Int))
      (bindO (atO a.linMonos s1.2.1) fun x24 =>
        bindO (F128 (⟨0, 0⟩ : LinearSum) p x24.monoCoef) fun r25 =>
        bindO (F129 r25) fun r26 =>
        iteO r26.2
        (iteO (r26.1 == 0)
          (some (.inl (s1.1, IntKind.i64.wrap (s1.2.1 + 1), s1.2.2)))
          (iteO (fits (s1.1.length + 1) 72)
            (some (.inl (s1.1 ++ ([(⟨r26.1, x24.monoAtom⟩ : Mono)]), IntKind.i64.wrap (s1.2.1 + 1), s1.2.2)))
            (none)))
        (some (.inr ((⟨[], 0⟩ : Lin), false))))
      (bindO (atO a.linMonos s1.2.1) fun x27 =>
        bindO (atO b.linMonos s1.2.2) fun x28 =>
        bindO (F18 N x27.monoAtom x28.monoAtom) fun r29 =>
        iteO (decide (r29 ≤ 0))
        (bindO (F128 (⟨0, 0⟩ : LinearSum) p x27.monoCoef) fun r30 =>
          iteO (decide (r29 ≥ 0))
          (bindO (F128 r30 q x28.monoCoef) fun r31 =>
            bindO (F129 r31) fun r32 =>
            iteO r32.2
            (iteO (r32.1 == 0)
              (some (.inl (s1.1, IntKind.i64.wrap (s1.2.1 + 1), IntKind.i64.wrap (s1.2.2 + 1))))
              (iteO (fits (s1.1.length + 1) 72)
                (some (.inl (s1.1 ++ ([(⟨r32.1, x28.monoAtom⟩ : Mono)]), IntKind.i64.wrap (s1.2.1 + 1), IntKind.i64.wrap (s1.2.2 + 1))))
                (none)))
            (some (.inr ((⟨[], 0⟩ : Lin), false))))
          (bindO (F129 r30) fun r33 =>
            iteO r33.2
            (iteO (r33.1 == 0)
              (some (.inl (s1.1, IntKind.i64.wrap (s1.2.1 + 1), s1.2.2)))
              (iteO (fits (s1.1.length + 1) 72)
                (some (.inl (s1.1 ++ ([(⟨r33.1, x27.monoAtom⟩ : Mono)]), IntKind.i64.wrap (s1.2.1 + 1), s1.2.2)))
                (none)))
            (some (.inr ((⟨[], 0⟩ : Lin), false)))))
        (iteO (decide (r29 ≥ 0))
          (bindO (F128 (⟨0, 0⟩ : LinearSum) q x28.monoCoef) fun r34 =>
            bindO (F129 r34) fun r35 =>
            iteO r35.2
            (iteO (r35.1 == 0)
              (some (.inl (s1.1, s1.2.1, IntKind.i64.wrap (s1.2.2 + 1))))
              (iteO (fits (s1.1.length + 1) 72)
                (some (.inl (s1.1 ++ ([(⟨r35.1, x28.monoAtom⟩ : Mono)]), s1.2.1, IntKind.i64.wrap (s1.2.2 + 1))))
                (none)))
            (some (.inr ((⟨[], 0⟩ : Lin), false))))
          (bindO (F129 (⟨0, 0⟩ : LinearSum)) fun r36 =>
            iteO r36.2
            (iteO (r36.1 == 0)
              (some (.inl (s1.1, s1.2.1, s1.2.2)))
              (iteO (fits (s1.1.length + 1) 72)
                (some (.inl (s1.1 ++ ([(⟨r36.1, (⟨0, 0, (⟨#[]⟩ : ByteArray), 0, []⟩ : Node)⟩ : Mono)]), s1.2.1, s1.2.2)))
                (none)))
            (some (.inr ((⟨[], 0⟩ : Lin), false))))))))
  (iteO (decide (s1.2.2 < (b.linMonos.length : Int)))
    (iteO (s1.2.1 == (a.linMonos.length : Int))
      (bindO (atO b.linMonos s1.2.2) fun x2 =>
        bindO (F128 (⟨0, 0⟩ : LinearSum) q x2.monoCoef) fun r3 =>
        bindO (F129 r3) fun r4 =>
        iteO r4.2
        (iteO (r4.1 == 0)
          (some (.inl (s1.1, s1.2.1, IntKind.i64.wrap (s1.2.2 + 1))))
          (iteO (fits (s1.1.length + 1) 72)
            (some (.inl (s1.1 ++ ([(⟨r4.1, x2.monoAtom⟩ : Mono)]), s1.2.1, IntKind.i64.wrap (s1.2.2 + 1))))
            (none)))
        (some (.inr ((⟨[], 0⟩ : Lin), false))))
      (iteO (s1.2.2 == (b.linMonos.length : Int))
        (bindO (atO a.linMonos s1.2.1) fun x5 =>
          bindO (F128 (⟨0, 0⟩ : LinearSum) p x5.monoCoef) fun r6 =>
          bindO (F129 r6) fun r7 =>
          iteO r7.2
          (iteO (r7.1 == 0)
            (some (.inl (s1.1, IntKind.i64.wrap (s1.2.1 + 1), s1.2.2)))
            (iteO (fits (s1.1.length + 1) 72)
              (some (.inl (s1.1 ++ ([(⟨r7.1, x5.monoAtom⟩ : Mono)]), IntKind.i64.wrap (s1.2.1 + 1), s1.2.2)))
              (none)))
          (some (.inr ((⟨[], 0⟩ : Lin), false))))
        (bindO (atO a.linMonos s1.2.1) fun x8 =>
          bindO (atO b.linMonos s1.2.2) fun x9 =>
          bindO (F18 N x8.monoAtom x9.monoAtom) fun r10 =>
          iteO (decide (r10 ≤ 0))
          (bindO (F128 (⟨0, 0⟩ : LinearSum) p x8.monoCoef) fun r11 =>
            iteO (decide (r10 ≥ 0))
            (bindO (F128 r11 q x9.monoCoef) fun r12 =>
              bindO (F129 r12) fun r13 =>
              iteO r13.2
              (iteO (r13.1 == 0)
                (some (.inl (s1.1, IntKind.i64.wrap (s1.2.1 + 1), IntKind.i64.wrap (s1.2.2 + 1))))
                (iteO (fits (s1.1.length + 1) 72)
                  (some (.inl (s1.1 ++ ([(⟨r13.1, x9.monoAtom⟩ : Mono)]), IntKind.i64.wrap (s1.2.1 + 1), IntKind.i64.wrap (s1.2.2 + 1))))
                  (none)))
              (some (.inr ((⟨[], 0⟩ : Lin), false))))
            (bindO (F129 r11) fun r14 =>
              iteO r14.2
              (iteO (r14.1 == 0)
                (some (.inl (s1.1, IntKind.i64.wrap (s1.2.1 + 1), s1.2.2)))
                (iteO (fits (s1.1.length + 1) 72)
                  (some (.inl (s1.1 ++ ([(⟨r14.1, x8.monoAtom⟩ : Mono)]), IntKind.i64.wrap (s1.2.1 + 1), s1.2.2)))
                  (none)))
              (some (.inr ((⟨[], 0⟩ : Lin), false)))))
          (iteO (decide (r10 ≥ 0))
            (bindO (F128 (⟨0, 0⟩ : LinearSum) q x9.monoCoef) fun r15 =>
              bindO (F129 r15) fun r16 =>
              iteO r16.2
              (iteO (r16.1 == 0)
                (some (.inl (s1.1, s1.2.1, IntKind.i64.wrap (s1.2.2 + 1))))
                (iteO (fits (s1.1.length + 1) 72)
                  (some (.inl (s1.1 ++ ([(⟨r16.1, x9.monoAtom⟩ : Mono)]), s1.2.1, IntKind.i64.wrap (s1.2.2 + 1))))
                  (none)))
              (some (.inr ((⟨[], 0⟩ : Lin), false))))
            (bindO (F129 (⟨0, 0⟩ : LinearSum)) fun r17 =>
              iteO r17.2
              (iteO (r17.1 == 0)
                (some (.inl (s1.1, s1.2.1, s1.2.2)))
                (iteO (fits (s1.1.length + 1) 72)
                  (some (.inl (s1.1 ++ ([(⟨r17.1, (⟨0, 0, (⟨#[]⟩ : ByteArray), 0, []⟩ : Node)⟩ : Mono)]), s1.2.1, s1.2.2)))
                  (none)))
              (some (.inr ((⟨[], 0⟩ : Lin), false))))))))
    (bindO (F128 (⟨0, 0⟩ : LinearSum) p a.linConst) fun r18 =>
      bindO (F128 r18 q b.linConst) fun r19 =>
      bindO (F129 r19) fun r20 =>
      some (.inr ((⟨s1.1, r20.1⟩ : Lin), r20.2))))
def F88 (N : Nat) (a : Lin) (b : Lin) (p : Int) (q : Int) : Option (Lin × Bool) :=
  whileN (S := (List Mono) × Int × Int) (F88_s1 N a b p q) N ([], 0, 0)
def a88 (x : Lin × Lin × Int × Int) : List AV := [.agg (Lin.cells x.1), .agg (Lin.cells x.2.1), .int .i64 x.2.2.1, .int .i64 x.2.2.2]
def v88 (r : Lin × Bool) : AV := .tuple [.agg (Lin.cells r.1), .bool r.2]
theorem i88 (x y : Lin × Lin × Int × Int) (h : nzs (a88 x) = nzs (a88 y)) : x = y := by
  simp only [nzs, a88, List.map_cons, List.map_nil, nzV_agg, nzV_int, nzV_bool, nzV_str, nzV_sl, nzL_sl, List.cons.injEq, AV.agg.injEq, AV.int.injEq, AV.bool.injEq, AV.str.injEq, true_and, and_true, or_true, Lin.nz_iff] at h
  first | exact h | (obtain ⟨x1, x2⟩ := x; simp_all [Prod.ext_iff]) | simp_all [Prod.ext_iff]
theorem w88 (x : Lin × Lin × Int × Int) : wks (a88 x) = true := by
  simp only [wks, a88, wkV, wkL, Lin.wk, List.all_cons, List.all_nil, Bool.not_false, Bool.and_self, Bool.and_true]
theorem d88 (x : Lin × Lin × Int × Int) : allData (a88 x) = true := by
  simp only [a88, push_cast]
def sh88 : Shp := .tup [.agg [some 6, none], .leaf none]
noncomputable def t88 (N : Nat) : List AV → Option AV := TL a88 fun x => bindO (F88 N x.1 x.2.1 x.2.2.1 x.2.2.2) fun r => some (v88 r)
@[push_cast] theorem v88_eq (r : Lin × Bool) : v88 r = .tuple [.agg (Lin.cells r.1), .bool r.2] := rfl
@[push_cast] theorem t128_1 (z1 : Int) (z2 : Int) (z3 : Int) (z4 : Int) : t128 [.agg [.int .i64 z1, .int .u64 z2], .int .i64 z3, .int .i64 z4] = bindO (F128 (⟨z1, z2⟩ : LinearSum) z3 z4) fun r => some (v128 r) :=
  TL_hit i128 ((⟨z1, z2⟩ : LinearSum), z3, z4) (by first | (simp only [a128, push_cast]; done) | (simp only [a128, push_cast]; rfl))
@[push_cast] theorem t129_1 (z1 : Int) (z2 : Int) : t129 [.agg [.int .i64 z1, .int .u64 z2]] = bindO (F129 (⟨z1, z2⟩ : LinearSum)) fun r => some (v129 r) :=
  TL_hit i129 (⟨z1, z2⟩ : LinearSum) (by first | (simp only [a129, push_cast]; done) | (simp only [a129, push_cast]; rfl))
@[push_cast] theorem t18_2 {N : Nat} (z1 : Int) (z2 : Int) (z3 : ByteArray) (z4 : Int) (z5 : List Node) (z6 : Int) (z7 : Int) (z8 : ByteArray) (z9 : Int) (z10 : List Node) : t18 N [.agg [.int .i64 z1, .int .i64 z2, .str z3, .int .i64 z4, .sl false 5 (List.map Node.cells z5)], .agg [.int .i64 z6, .int .i64 z7, .str z8, .int .i64 z9, .sl false 5 (List.map Node.cells z10)]] = bindO (F18 N (⟨z1, z2, z3, z4, z5⟩ : Node) (⟨z6, z7, z8, z9, z10⟩ : Node)) fun r => some (v18 r) :=
  TL_hit i18 ((⟨z1, z2, z3, z4, z5⟩ : Node), (⟨z6, z7, z8, z9, z10⟩ : Node)) (by first | (simp only [a18, push_cast]; done) | (simp only [a18, push_cast]; rfl))
/-! ## 85: quantale/linear.form -/
def H85 : Nat → Hint := fun i => [⟨[], [1, 2], []⟩].getD (i - 0) ⟨[], [], []⟩
@[push_cast] theorem H85_0 : H85 0 = ⟨[], [1, 2], []⟩ := rfl
def H124 : Nat → Hint := fun _ => ⟨[], [], []⟩
def F85b (self85 : Node → Option (Lin × Bool)) (N : Nat) (n : Node) : Option (Lin × Bool) :=
  iteO (n.op == 2)
  (bindO (F112 n.num) fun r1 =>
    some ((⟨[], n.num⟩ : Lin), r1))
  (iteO (n.op == 6)
    (bindO (atO n.kids 0) fun x2 =>
      bindO (self85 x2) fun r3 =>
      iteO r3.2
      (bindO (F88 N r3.1 (⟨[], 0⟩ : Lin) (-1) 0) fun r4 =>
        some (r4.1, r4.2))
      (some ((⟨[], 0⟩ : Lin), false)))
    (iteO (n.op == 7)
      (bindO (atO n.kids 0) fun x5 =>
        bindO (self85 x5) fun r6 =>
        iteO r6.2
        (bindO (F88 N r6.1 (⟨[], 0⟩ : Lin) n.num 0) fun r7 =>
          some (r7.1, r7.2))
        (some ((⟨[], 0⟩ : Lin), false)))
      (iteO (n.op == 4)
        (bindO (atO n.kids 0) fun x8 =>
          bindO (self85 x8) fun r9 =>
          bindO (atO n.kids 1) fun x10 =>
          bindO (self85 x10) fun r11 =>
          iteO r9.2
          (iteO r11.2
            (iteO (n.op == 5)
              (bindO (F88 N r9.1 r11.1 1 (-1)) fun r12 =>
                some (r12.1, r12.2))
              (bindO (F88 N r9.1 r11.1 1 1) fun r13 =>
                some (r13.1, r13.2)))
            (some ((⟨[], 0⟩ : Lin), false)))
          (some ((⟨[], 0⟩ : Lin), false)))
        (iteO (n.op == 5)
          (bindO (atO n.kids 0) fun x14 =>
            bindO (self85 x14) fun r15 =>
            bindO (atO n.kids 1) fun x16 =>
            bindO (self85 x16) fun r17 =>
            iteO r15.2
            (iteO r17.2
              (bindO (F88 N r15.1 r17.1 1 (-1)) fun r18 =>
                some (r18.1, r18.2))
              (some ((⟨[], 0⟩ : Lin), false)))
            (some ((⟨[], 0⟩ : Lin), false)))
          (some ((⟨[(⟨1, n⟩ : Mono)], 0⟩ : Lin), true))))))
def F85 : Nat → Node → Option (Lin × Bool)
  | 0 => fun _ => none
  | N + 1 => fun n => F85b (F85 N) N n
def a85 (x : Node) : List AV := [.agg (Node.cells x)]
def v85 (r : Lin × Bool) : AV := .tuple [.agg (Lin.cells r.1), .bool r.2]
theorem i85 (x y : Node) (h : nzs (a85 x) = nzs (a85 y)) : x = y := by
  simp only [nzs, a85, List.map_cons, List.map_nil, nzV_agg, nzV_int, nzV_bool, nzV_str, nzV_sl, nzL_sl, List.cons.injEq, AV.agg.injEq, AV.int.injEq, AV.bool.injEq, AV.str.injEq, true_and, and_true, or_true, Node.nz_iff] at h
  first | exact h | (obtain ⟨x1, x2⟩ := x; simp_all [Prod.ext_iff]) | simp_all [Prod.ext_iff]
theorem w85 (x : Node) : wks (a85 x) = true := by
  simp only [wks, a85, wkV, wkL, Node.wk, List.all_cons, List.all_nil, Bool.not_false, Bool.and_self, Bool.and_true]
theorem d85 (x : Node) : allData (a85 x) = true := by
  simp only [a85, push_cast]
def sh85 : Shp := .tup [.agg [some 6, none], .leaf none]
noncomputable def t85 (N : Nat) : List AV → Option AV := TL a85 fun x => bindO (F85 N x) fun r => some (v85 r)
@[push_cast] theorem v85_eq (r : Lin × Bool) : v85 r = .tuple [.agg (Lin.cells r.1), .bool r.2] := rfl
noncomputable def ts85 (self85 : Node → Option (Lin × Bool)) : List AV → Option AV := TL a85 fun x => bindO (self85 x) fun r => some (v85 r)
@[push_cast] theorem t85_1 (self85 : Node → Option (Lin × Bool)) (z1 : Int) (z2 : Int) (z3 : ByteArray) (z4 : Int) (z5 : List Node) : ts85 self85 [.agg [.int .i64 z1, .int .i64 z2, .str z3, .int .i64 z4, .sl false 5 (List.map Node.cells z5)]] = bindO (self85 (⟨z1, z2, z3, z4, z5⟩ : Node)) fun r => some (v85 r) :=
  TL_hit i85 (⟨z1, z2, z3, z4, z5⟩ : Node) (by first | (simp only [a85, push_cast]; done) | (simp only [a85, push_cast]; rfl))
@[push_cast] theorem t88_1 {N : Nat} (z1 : List Mono) (z2 : Int) (z4 : Int) (z5 : Int) (z6 : Int) : t88 N [.agg [.sl false 6 (List.map Mono.cells z1), .int .i64 z2], .agg [.sl true 6 [], .int .i64 z4], .int .i64 z5, .int .i64 z6] = bindO (F88 N (⟨z1, z2⟩ : Lin) (⟨[], z4⟩ : Lin) z5 z6) fun r => some (v88 r) :=
  TL_hit i88 ((⟨z1, z2⟩ : Lin), (⟨[], z4⟩ : Lin), z5, z6) (by first | (simp only [a88, push_cast]; done) | (simp only [a88, push_cast]; rfl))
@[push_cast] theorem t88_2 {N : Nat} (z1 : List Mono) (z2 : Int) (z4 : Int) (z5 : Int) (z6 : Int) : t88 N [.agg [.sl false 6 (List.map Mono.cells z1), .int .i64 z2], .agg [.sl false 6 [], .int .i64 z4], .int .i64 z5, .int .i64 z6] = bindO (F88 N (⟨z1, z2⟩ : Lin) (⟨[], z4⟩ : Lin) z5 z6) fun r => some (v88 r) :=
  TL_hit i88 ((⟨z1, z2⟩ : Lin), (⟨[], z4⟩ : Lin), z5, z6) (by first | (simp only [a88, push_cast]; done) | (simp only [a88, push_cast]; rfl))
@[push_cast] theorem t88_3 {N : Nat} (z1 : List Mono) (z2 : Int) (z3 : List Mono) (z4 : Int) (z5 : Int) (z6 : Int) : t88 N [.agg [.sl false 6 (List.map Mono.cells z1), .int .i64 z2], .agg [.sl false 6 (List.map Mono.cells z3), .int .i64 z4], .int .i64 z5, .int .i64 z6] = bindO (F88 N (⟨z1, z2⟩ : Lin) (⟨z3, z4⟩ : Lin) z5 z6) fun r => some (v88 r) :=
  TL_hit i88 ((⟨z1, z2⟩ : Lin), (⟨z3, z4⟩ : Lin), z5, z6) (by first | (simp only [a88, push_cast]; done) | (simp only [a88, push_cast]; rfl))
/-! ## 82: quantale/logic.copied -/
def H82 : Nat → Hint := fun i => [⟨[1, 2, 10, 11, 12], [1, 2], []⟩, ⟨[], [1, 2, 10, 11, 12], []⟩].getD (i - 0) ⟨[], [], []⟩
@[push_cast] theorem H82_0 : H82 0 = ⟨[1, 2, 10, 11, 12], [1, 2], []⟩ := rfl
@[push_cast] theorem H82_1 : H82 1 = ⟨[], [1, 2, 10, 11, 12], []⟩ := rfl
def F82_s1 (self82 : Node → Option (Node)) (s3 : List Node) (i1 : Nat) (x2 : Nat) : Option (Sum (List Node) (Node)) :=
  bindO (atO s3 (i1 : Int)) fun x4 =>
  bindO (self82 x4) fun r5 =>
  some (.inl (s3.set i1 r5))
def F82_f1 (n : Node) (s3 : List Node) : Option (Node) :=
  some (⟨n.op, n.sortf, n.name, n.num, s3⟩ : Node)
def F82b (self82 : Node → Option (Node)) (N : Nat) (n : Node) : Option (Node) :=
  iteO (fits (n.kids.length) 64)
  (foldN (S := List Node) (F82_s1 self82) (F82_f1 n) N (List.range ((n.kids.length : Int)).toNat) 0 n.kids)
  (none)
def F82 : Nat → Node → Option (Node)
  | 0 => fun _ => none
  | N + 1 => fun n => F82b (F82 N) N n
def a82 (x : Node) : List AV := [.agg (Node.cells x)]
def v82 (r : Node) : AV := .agg (Node.cells r)
theorem i82 (x y : Node) (h : nzs (a82 x) = nzs (a82 y)) : x = y := by
  simp only [nzs, a82, List.map_cons, List.map_nil, nzV_agg, nzV_int, nzV_bool, nzV_str, nzV_sl, nzL_sl, List.cons.injEq, AV.agg.injEq, AV.int.injEq, AV.bool.injEq, AV.str.injEq, true_and, and_true, or_true, Node.nz_iff] at h
  first | exact h | (obtain ⟨x1, x2⟩ := x; simp_all [Prod.ext_iff]) | simp_all [Prod.ext_iff]
theorem w82 (x : Node) : wks (a82 x) = true := by
  simp only [wks, a82, wkV, wkL, Node.wk, List.all_cons, List.all_nil, Bool.not_false, Bool.and_self, Bool.and_true]
theorem d82 (x : Node) : allData (a82 x) = true := by
  simp only [a82, push_cast]
def sh82 : Shp := .one (.agg [none, none, none, none, some 5])
noncomputable def t82 (N : Nat) : List AV → Option AV := TL a82 fun x => bindO (F82 N x) fun r => some (v82 r)
@[push_cast] theorem v82_eq (r : Node) : v82 r = .agg (Node.cells r) := rfl
noncomputable def ts82 (self82 : Node → Option (Node)) : List AV → Option AV := TL a82 fun x => bindO (self82 x) fun r => some (v82 r)
@[push_cast] theorem t82_1 (self82 : Node → Option (Node)) (z1 : Int) (z2 : Int) (z3 : ByteArray) (z4 : Int) (z5 : List Node) : ts82 self82 [.agg [.int .i64 z1, .int .i64 z2, .str z3, .int .i64 z4, .sl false 5 (List.map Node.cells z5)]] = bindO (self82 (⟨z1, z2, z3, z4, z5⟩ : Node)) fun r => some (v82 r) :=
  TL_hit i82 (⟨z1, z2, z3, z4, z5⟩ : Node) (by first | (simp only [a82, push_cast]; done) | (simp only [a82, push_cast]; rfl))
/-! ## 22: quantale/logic.SubstAll -/
def H22 : Nat → Hint := fun i => [⟨[1, 2, 3, 6, 18, 19], [1, 2, 3, 6], []⟩, ⟨[], [1, 2, 3, 6, 18, 19], []⟩, ⟨[1, 2, 3, 6, 8, 40, 41, 42], [3, 6, 8], []⟩, ⟨[], [1, 2, 3, 6, 8, 40, 41, 42], []⟩].getD (i - 0) ⟨[], [], []⟩
@[push_cast] theorem H22_0 : H22 0 = ⟨[1, 2, 3, 6, 18, 19], [1, 2, 3, 6], []⟩ := rfl
@[push_cast] theorem H22_1 : H22 1 = ⟨[], [1, 2, 3, 6, 18, 19], []⟩ := rfl
@[push_cast] theorem H22_2 : H22 2 = ⟨[1, 2, 3, 6, 8, 40, 41, 42], [3, 6, 8], []⟩ := rfl
@[push_cast] theorem H22_3 : H22 3 = ⟨[], [1, 2, 3, 6, 8, 40, 41, 42], []⟩ := rfl
def F22_s1 (N : Nat) (n : Node) (names : List ByteArray) (withq : List Node) (s3 : Unit) (i1 : Nat) (x2 : Nat) : Option (Sum (Unit) (Node)) :=
  bindO (atO names (i1 : Int)) fun x4 =>
  iteO (x4.toList == n.name.toList)
  (bindO (atO withq (i1 : Int)) fun x5 =>
    bindO (F82 N x5) fun r6 =>
    some (.inr r6))
  (some (.inl ()))
def F22_s2 (self22 : Node → (List ByteArray) → (List Node) → Option (Node)) (names : List ByteArray) (withq : List Node) (s9 : List Node) (i7 : Nat) (x8 : Node) : Option (Sum (List Node) (Node)) :=
  bindO (self22 x8 names withq) fun r10 =>
  iteO (fits (s9.length + 1) 64)
  (some (.inl (s9 ++ ([r10]))))
  (none)
def F22_f2 (n : Node) (s9 : List Node) : Option (Node) :=
  some (⟨n.op, n.sortf, n.name, n.num, s9⟩ : Node)
def F22_f1 (self22 : Node → (List ByteArray) → (List Node) → Option (Node)) (N : Nat) (n : Node) (names : List ByteArray) (withq : List Node) (s3 : Unit) : Option (Node) :=
  iteO (decide (0 ≤ 0 ∧ 0 ≤ (n.kids.length : Int) ∧ (n.kids.length : Int) * 64 ≤ 140737488355328 ∧ (n.kids.length : Int) ≤ 9223372036854775807))
  (foldN (S := List Node) (F22_s2 self22 names withq) (F22_f2 n) N n.kids 0 ([]))
  (none)
def F22_s3 (self22 : Node → (List ByteArray) → (List Node) → Option (Node)) (names : List ByteArray) (withq : List Node) (s13 : List Node) (i11 : Nat) (x12 : Node) : Option (Sum (List Node) (Node)) :=
  bindO (self22 x12 names withq) fun r14 =>
  iteO (fits (s13.length + 1) 64)
  (some (.inl (s13 ++ ([r14]))))
  (none)
def F22_f3 (n : Node) (s13 : List Node) : Option (Node) :=
  some (⟨n.op, n.sortf, n.name, n.num, s13⟩ : Node)
def F22b (self22 : Node → (List ByteArray) → (List Node) → Option (Node)) (N : Nat) (n : Node) (names : List ByteArray) (withq : List Node) : Option (Node) :=
  iteO (n.op == 1)
  (foldN (S := Unit) (F22_s1 N n names withq) (F22_f1 self22 N n names withq) N (List.range (min (names.length : Int) (withq.length : Int)).toNat) 0 ())
  (iteO (decide (0 ≤ 0 ∧ 0 ≤ (n.kids.length : Int) ∧ (n.kids.length : Int) * 64 ≤ 140737488355328 ∧ (n.kids.length : Int) ≤ 9223372036854775807))
    (foldN (S := List Node) (F22_s3 self22 names withq) (F22_f3 n) N n.kids 0 ([]))
    (none))
def F22 : Nat → Node → (List ByteArray) → (List Node) → Option (Node)
  | 0 => fun _ _ _ => none
  | N + 1 => fun n names withq => F22b (F22 N) N n names withq
def a22 (x : Node × (List ByteArray) × (List Node)) : List AV := [.agg (Node.cells x.1), .sl false 1 (List.map cS x.2.1), .sl false 5 (List.map Node.cells x.2.2)]
def v22 (r : Node) : AV := .agg (Node.cells r)
theorem i22 (x y : Node × (List ByteArray) × (List Node)) (h : nzs (a22 x) = nzs (a22 y)) : x = y := by
  simp only [nzs, a22, List.map_cons, List.map_nil, nzV_agg, nzV_int, nzV_bool, nzV_str, nzV_sl, nzL_sl, List.cons.injEq, AV.agg.injEq, AV.int.injEq, AV.bool.injEq, AV.str.injEq, true_and, and_true, or_true, Node.nz_iff, map_inj_iff Node.cells_inj, map_inj_iff cS_inj] at h
  first | exact h | (obtain ⟨x1, x2⟩ := x; simp_all [Prod.ext_iff]) | simp_all [Prod.ext_iff]
theorem w22 (x : Node × (List ByteArray) × (List Node)) : wks (a22 x) = true := by
  simp only [wks, a22, wkV, wkL, Node.wk, List.all_cons, List.all_nil, Bool.not_false, Bool.and_self, Bool.and_true]
theorem d22 (x : Node × (List ByteArray) × (List Node)) : allData (a22 x) = true := by
  simp only [a22, push_cast]
def sh22 : Shp := .one (.agg [none, none, none, none, some 5])
noncomputable def t22 (N : Nat) : List AV → Option AV := TL a22 fun x => bindO (F22 N x.1 x.2.1 x.2.2) fun r => some (v22 r)
@[push_cast] theorem v22_eq (r : Node) : v22 r = .agg (Node.cells r) := rfl
noncomputable def ts22 (self22 : Node → (List ByteArray) → (List Node) → Option (Node)) : List AV → Option AV := TL a22 fun x => bindO (self22 x.1 x.2.1 x.2.2) fun r => some (v22 r)
@[push_cast] theorem t82_2 {N : Nat} (z1 : Int) (z2 : Int) (z3 : ByteArray) (z4 : Int) (z5 : List Node) : t82 N [.agg [.int .i64 z1, .int .i64 z2, .str z3, .int .i64 z4, .sl false 5 (List.map Node.cells z5)]] = bindO (F82 N (⟨z1, z2, z3, z4, z5⟩ : Node)) fun r => some (v82 r) :=
  TL_hit i82 (⟨z1, z2, z3, z4, z5⟩ : Node) (by first | (simp only [a82, push_cast]; done) | (simp only [a82, push_cast]; rfl))
@[push_cast] theorem t22_1 (self22 : Node → (List ByteArray) → (List Node) → Option (Node)) (z1 : Int) (z2 : Int) (z3 : ByteArray) (z4 : Int) (z5 : List Node) (z6 : List ByteArray) (z7 : List Node) : ts22 self22 [.agg [.int .i64 z1, .int .i64 z2, .str z3, .int .i64 z4, .sl false 5 (List.map Node.cells z5)], .sl false 1 (List.map cS z6), .sl false 5 (List.map Node.cells z7)] = bindO (self22 (⟨z1, z2, z3, z4, z5⟩ : Node) z6 z7) fun r => some (v22 r) :=
  TL_hit i22 ((⟨z1, z2, z3, z4, z5⟩ : Node), z6, z7) (by first | (simp only [a22, push_cast]; done) | (simp only [a22, push_cast]; rfl))
/-! ## 24: quantale/logic.Subst -/
def H24 : Nat → Hint := fun _ => ⟨[], [], []⟩
def F24 (N : Nat) (n : Node) (name : ByteArray) (withq : Node) : Option (Node) :=
  bindO (F22 N n ([name]) ([withq])) fun r1 =>
  some r1
def a24 (x : Node × ByteArray × Node) : List AV := [.agg (Node.cells x.1), .str x.2.1, .agg (Node.cells x.2.2)]
def v24 (r : Node) : AV := .agg (Node.cells r)
theorem i24 (x y : Node × ByteArray × Node) (h : nzs (a24 x) = nzs (a24 y)) : x = y := by
  simp only [nzs, a24, List.map_cons, List.map_nil, nzV_agg, nzV_int, nzV_bool, nzV_str, nzV_sl, nzL_sl, List.cons.injEq, AV.agg.injEq, AV.int.injEq, AV.bool.injEq, AV.str.injEq, true_and, and_true, or_true, Node.nz_iff] at h
  first | exact h | (obtain ⟨x1, x2⟩ := x; simp_all [Prod.ext_iff]) | simp_all [Prod.ext_iff]
theorem w24 (x : Node × ByteArray × Node) : wks (a24 x) = true := by
  simp only [wks, a24, wkV, wkL, Node.wk, List.all_cons, List.all_nil, Bool.not_false, Bool.and_self, Bool.and_true]
theorem d24 (x : Node × ByteArray × Node) : allData (a24 x) = true := by
  simp only [a24, push_cast]
def sh24 : Shp := .one (.agg [none, none, none, none, some 5])
noncomputable def t24 (N : Nat) : List AV → Option AV := TL a24 fun x => bindO (F24 N x.1 x.2.1 x.2.2) fun r => some (v24 r)
@[push_cast] theorem v24_eq (r : Node) : v24 r = .agg (Node.cells r) := rfl
@[push_cast] theorem t22_2 {N : Nat} (z1 : Int) (z2 : Int) (z3 : ByteArray) (z4 : Int) (z5 : List Node) (z7 : ByteArray) (z9 : Int) (z10 : Int) (z11 : ByteArray) (z12 : Int) (z13 : List Node) : t22 N [.agg [.int .i64 z1, .int .i64 z2, .str z3, .int .i64 z4, .sl false 5 (List.map Node.cells z5)], .sl true 1 [[.str z7]], .sl true 5 [[.int .i64 z9, .int .i64 z10, .str z11, .int .i64 z12, .sl false 5 (List.map Node.cells z13)]]] = bindO (F22 N (⟨z1, z2, z3, z4, z5⟩ : Node) ([z7]) ([(⟨z9, z10, z11, z12, z13⟩ : Node)])) fun r => some (v22 r) :=
  TL_hit i22 ((⟨z1, z2, z3, z4, z5⟩ : Node), [z7], [(⟨z9, z10, z11, z12, z13⟩ : Node)]) (by first | (simp only [a22, push_cast]; done) | (simp only [a22, push_cast]; rfl))
@[push_cast] theorem t22_3 {N : Nat} (z1 : Int) (z2 : Int) (z3 : ByteArray) (z4 : Int) (z5 : List Node) (z7 : ByteArray) (z9 : Int) (z10 : Int) (z11 : ByteArray) (z12 : Int) (z13 : List Node) : t22 N [.agg [.int .i64 z1, .int .i64 z2, .str z3, .int .i64 z4, .sl false 5 (List.map Node.cells z5)], .sl false 1 [[.str z7]], .sl false 5 [[.int .i64 z9, .int .i64 z10, .str z11, .int .i64 z12, .sl false 5 (List.map Node.cells z13)]]] = bindO (F22 N (⟨z1, z2, z3, z4, z5⟩ : Node) ([z7]) ([(⟨z9, z10, z11, z12, z13⟩ : Node)])) fun r => some (v22 r) :=
  TL_hit i22 ((⟨z1, z2, z3, z4, z5⟩ : Node), [z7], [(⟨z9, z10, z11, z12, z13⟩ : Node)]) (by first | (simp only [a22, push_cast]; done) | (simp only [a22, push_cast]; rfl))
/-! ## 86: quantale/linear.copied -/
def H86 : Nat → Hint := fun i => [⟨[1, 2, 10, 11, 12], [1, 2], []⟩, ⟨[], [1, 2, 10, 11, 12], []⟩].getD (i - 0) ⟨[], [], []⟩
@[push_cast] theorem H86_0 : H86 0 = ⟨[1, 2, 10, 11, 12], [1, 2], []⟩ := rfl
@[push_cast] theorem H86_1 : H86 1 = ⟨[], [1, 2, 10, 11, 12], []⟩ := rfl
def F86_s1 (N : Nat) (s3 : List Mono) (i1 : Nat) (x2 : Nat) : Option (Sum (List Mono) (Lin)) :=
  bindO (atO s3 (i1 : Int)) fun x4 =>
  bindO (F24 N x4.monoAtom (⟨#[]⟩ : ByteArray) (⟨0, 0, (⟨#[]⟩ : ByteArray), 0, []⟩ : Node)) fun r5 =>
  some (.inl (s3.set i1 (⟨x4.monoCoef, r5⟩ : Mono)))
def F86_f1 (f : Lin) (s3 : List Mono) : Option (Lin) :=
  some (⟨s3, f.linConst⟩ : Lin)
def F86 (N : Nat) (f : Lin) : Option (Lin) :=
  iteO (fits (f.linMonos.length) 72)
  (foldN (S := List Mono) (F86_s1 N) (F86_f1 f) N (List.range ((f.linMonos.length : Int)).toNat) 0 f.linMonos)
  (none)
def a86 (x : Lin) : List AV := [.agg (Lin.cells x)]
def v86 (r : Lin) : AV := .agg (Lin.cells r)
theorem i86 (x y : Lin) (h : nzs (a86 x) = nzs (a86 y)) : x = y := by
  simp only [nzs, a86, List.map_cons, List.map_nil, nzV_agg, nzV_int, nzV_bool, nzV_str, nzV_sl, nzL_sl, List.cons.injEq, AV.agg.injEq, AV.int.injEq, AV.bool.injEq, AV.str.injEq, true_and, and_true, or_true, Lin.nz_iff] at h
  first | exact h | (obtain ⟨x1, x2⟩ := x; simp_all [Prod.ext_iff]) | simp_all [Prod.ext_iff]
theorem w86 (x : Lin) : wks (a86 x) = true := by
  simp only [wks, a86, wkV, wkL, Lin.wk, List.all_cons, List.all_nil, Bool.not_false, Bool.and_self, Bool.and_true]
theorem d86 (x : Lin) : allData (a86 x) = true := by
  simp only [a86, push_cast]
def sh86 : Shp := .one (.agg [some 6, none])
noncomputable def t86 (N : Nat) : List AV → Option AV := TL a86 fun x => bindO (F86 N x) fun r => some (v86 r)
@[push_cast] theorem v86_eq (r : Lin) : v86 r = .agg (Lin.cells r) := rfl
@[push_cast] theorem t24_1 {N : Nat} (z1 : Int) (z2 : Int) (z3 : ByteArray) (z4 : Int) (z5 : List Node) (z6 : ByteArray) (z7 : Int) (z8 : Int) (z9 : ByteArray) (z10 : Int) : t24 N [.agg [.int .i64 z1, .int .i64 z2, .str z3, .int .i64 z4, .sl false 5 (List.map Node.cells z5)], .str z6, .agg [.int .i64 z7, .int .i64 z8, .str z9, .int .i64 z10, .sl true 5 []]] = bindO (F24 N (⟨z1, z2, z3, z4, z5⟩ : Node) z6 (⟨z7, z8, z9, z10, []⟩ : Node)) fun r => some (v24 r) :=
  TL_hit i24 ((⟨z1, z2, z3, z4, z5⟩ : Node), z6, (⟨z7, z8, z9, z10, []⟩ : Node)) (by first | (simp only [a24, push_cast]; done) | (simp only [a24, push_cast]; rfl))
@[push_cast] theorem t24_2 {N : Nat} (z1 : Int) (z2 : Int) (z3 : ByteArray) (z4 : Int) (z5 : List Node) (z6 : ByteArray) (z7 : Int) (z8 : Int) (z9 : ByteArray) (z10 : Int) : t24 N [.agg [.int .i64 z1, .int .i64 z2, .str z3, .int .i64 z4, .sl false 5 (List.map Node.cells z5)], .str z6, .agg [.int .i64 z7, .int .i64 z8, .str z9, .int .i64 z10, .sl false 5 []]] = bindO (F24 N (⟨z1, z2, z3, z4, z5⟩ : Node) z6 (⟨z7, z8, z9, z10, []⟩ : Node)) fun r => some (v24 r) :=
  TL_hit i24 ((⟨z1, z2, z3, z4, z5⟩ : Node), z6, (⟨z7, z8, z9, z10, []⟩ : Node)) (by first | (simp only [a24, push_cast]; done) | (simp only [a24, push_cast]; rfl))
/-! ## 29: quantale/linear.Of -/
def H29 : Nat → Hint := fun _ => ⟨[], [], []⟩
def F29 (N : Nat) (n : Node) : Option (Lin × Int) :=
  bindO (F14 N n 0) fun r1 =>
  iteO (r1 == 0)
  (bindO (F36 N n) fun r2 =>
    iteO (r2 == 1)
    (bindO (F85 N n) fun r5 =>
      iteO r5.2
      (bindO (F86 N r5.1) fun r6 =>
        some (r6, 0))
      (some ((⟨[], 0⟩ : Lin), 2)))
    (iteO (r2 == 3)
      (bindO (F85 N n) fun r3 =>
        iteO r3.2
        (bindO (F86 N r3.1) fun r4 =>
          some (r4, 0))
        (some ((⟨[], 0⟩ : Lin), 2)))
      (some ((⟨[], 0⟩ : Lin), 10))))
  (some ((⟨[], 0⟩ : Lin), r1))
def a29 (x : Node) : List AV := [.agg (Node.cells x)]
def v29 (r : Lin × Int) : AV := .tuple [.agg (Lin.cells r.1), .int .i64 r.2]
theorem i29 (x y : Node) (h : nzs (a29 x) = nzs (a29 y)) : x = y := by
  simp only [nzs, a29, List.map_cons, List.map_nil, nzV_agg, nzV_int, nzV_bool, nzV_str, nzV_sl, nzL_sl, List.cons.injEq, AV.agg.injEq, AV.int.injEq, AV.bool.injEq, AV.str.injEq, true_and, and_true, or_true, Node.nz_iff] at h
  first | exact h | (obtain ⟨x1, x2⟩ := x; simp_all [Prod.ext_iff]) | simp_all [Prod.ext_iff]
theorem w29 (x : Node) : wks (a29 x) = true := by
  simp only [wks, a29, wkV, wkL, Node.wk, List.all_cons, List.all_nil, Bool.not_false, Bool.and_self, Bool.and_true]
theorem d29 (x : Node) : allData (a29 x) = true := by
  simp only [a29, push_cast]
def sh29 : Shp := .tup [.agg [some 6, none], .leaf none]
noncomputable def t29 (N : Nat) : List AV → Option AV := TL a29 fun x => bindO (F29 N x) fun r => some (v29 r)
@[push_cast] theorem v29_eq (r : Lin × Int) : v29 r = .tuple [.agg (Lin.cells r.1), .int .i64 r.2] := rfl
@[push_cast] theorem t14_1 {N : Nat} (z1 : Int) (z2 : Int) (z3 : ByteArray) (z4 : Int) (z5 : List Node) (z6 : Int) : t14 N [.agg [.int .i64 z1, .int .i64 z2, .str z3, .int .i64 z4, .sl false 5 (List.map Node.cells z5)], .int .i64 z6] = bindO (F14 N (⟨z1, z2, z3, z4, z5⟩ : Node) z6) fun r => some (v14 r) :=
  TL_hit i14 ((⟨z1, z2, z3, z4, z5⟩ : Node), z6) (by first | (simp only [a14, push_cast]; done) | (simp only [a14, push_cast]; rfl))
@[push_cast] theorem t85_2 {N : Nat} (z1 : Int) (z2 : Int) (z3 : ByteArray) (z4 : Int) (z5 : List Node) : t85 N [.agg [.int .i64 z1, .int .i64 z2, .str z3, .int .i64 z4, .sl false 5 (List.map Node.cells z5)]] = bindO (F85 N (⟨z1, z2, z3, z4, z5⟩ : Node)) fun r => some (v85 r) :=
  TL_hit i85 (⟨z1, z2, z3, z4, z5⟩ : Node) (by first | (simp only [a85, push_cast]; done) | (simp only [a85, push_cast]; rfl))
@[push_cast] theorem t86_1 {N : Nat} (z1 : List Mono) (z2 : Int) : t86 N [.agg [.sl false 6 (List.map Mono.cells z1), .int .i64 z2]] = bindO (F86 N (⟨z1, z2⟩ : Lin)) fun r => some (v86 r) :=
  TL_hit i86 (⟨z1, z2⟩ : Lin) (by first | (simp only [a86, push_cast]; done) | (simp only [a86, push_cast]; rfl))
/-! ## 26: quantale/quantalelaw04.awake -/
def H26 : Nat → Hint := fun _ => ⟨[], [], []⟩
def F26 (N : Nat) : Option (Bool) :=
  bindO (F84 4 (⟨1, 1, (⟨#[120]⟩ : ByteArray), 0, []⟩ : Node) (⟨2, 0, (⟨#[]⟩ : ByteArray), 1, []⟩ : Node)) fun r1 =>
  bindO (F84 4 r1 (⟨1, 1, (⟨#[120]⟩ : ByteArray), 0, []⟩ : Node)) fun r2 =>
  bindO (F29 N r2) fun r3 =>
  iteO (r3.2 == 0)
  (iteO ((r3.1.linMonos.length : Int) == 1)
    (bindO (atO r3.1.linMonos 0) fun x4 =>
      iteO (x4.monoCoef == 2)
      (some (r3.1.linConst == 1))
      (some false))
    (some false))
  (some false)
def a26 (x : Unit) : List AV := []
def v26 (r : Bool) : AV := .bool r
theorem i26 (x y : Unit) (h : nzs (a26 x) = nzs (a26 y)) : x = y := rfl
theorem w26 (x : Unit) : wks (a26 x) = true := by
  simp only [wks, a26, wkV, wkL, List.all_cons, List.all_nil, Bool.not_false, Bool.and_self, Bool.and_true]
theorem d26 (x : Unit) : allData (a26 x) = true := by
  simp only [a26, push_cast]
def sh26 : Shp := .one (.leaf none)
noncomputable def t26 (N : Nat) : List AV → Option AV := TL a26 fun x => bindO (F26 N) fun r => some (v26 r)
@[push_cast] theorem v26_eq (r : Bool) : v26 r = .bool r := rfl
@[push_cast] theorem t84_1 (z1 : Int) (z2 : Int) (z3 : Int) (z4 : ByteArray) (z5 : Int) (z7 : Int) (z8 : Int) (z9 : ByteArray) (z10 : Int) : t84 [.int .i64 z1, .agg [.int .i64 z2, .int .i64 z3, .str z4, .int .i64 z5, .sl true 5 []], .agg [.int .i64 z7, .int .i64 z8, .str z9, .int .i64 z10, .sl true 5 []]] = bindO (F84 z1 (⟨z2, z3, z4, z5, []⟩ : Node) (⟨z7, z8, z9, z10, []⟩ : Node)) fun r => some (v84 r) :=
  TL_hit i84 (z1, (⟨z2, z3, z4, z5, []⟩ : Node), (⟨z7, z8, z9, z10, []⟩ : Node)) (by first | (simp only [a84, push_cast]; done) | (simp only [a84, push_cast]; rfl))
@[push_cast] theorem t84_2 (z1 : Int) (z2 : Int) (z3 : Int) (z4 : ByteArray) (z5 : Int) (z7 : Int) (z8 : Int) (z9 : ByteArray) (z10 : Int) : t84 [.int .i64 z1, .agg [.int .i64 z2, .int .i64 z3, .str z4, .int .i64 z5, .sl false 5 []], .agg [.int .i64 z7, .int .i64 z8, .str z9, .int .i64 z10, .sl false 5 []]] = bindO (F84 z1 (⟨z2, z3, z4, z5, []⟩ : Node) (⟨z7, z8, z9, z10, []⟩ : Node)) fun r => some (v84 r) :=
  TL_hit i84 (z1, (⟨z2, z3, z4, z5, []⟩ : Node), (⟨z7, z8, z9, z10, []⟩ : Node)) (by first | (simp only [a84, push_cast]; done) | (simp only [a84, push_cast]; rfl))
@[push_cast] theorem t84_3 (z1 : Int) (z2 : Int) (z3 : Int) (z4 : ByteArray) (z5 : Int) (z6 : List Node) (z7 : Int) (z8 : Int) (z9 : ByteArray) (z10 : Int) : t84 [.int .i64 z1, .agg [.int .i64 z2, .int .i64 z3, .str z4, .int .i64 z5, .sl false 5 (List.map Node.cells z6)], .agg [.int .i64 z7, .int .i64 z8, .str z9, .int .i64 z10, .sl true 5 []]] = bindO (F84 z1 (⟨z2, z3, z4, z5, z6⟩ : Node) (⟨z7, z8, z9, z10, []⟩ : Node)) fun r => some (v84 r) :=
  TL_hit i84 (z1, (⟨z2, z3, z4, z5, z6⟩ : Node), (⟨z7, z8, z9, z10, []⟩ : Node)) (by first | (simp only [a84, push_cast]; done) | (simp only [a84, push_cast]; rfl))
@[push_cast] theorem t84_4 (z1 : Int) (z2 : Int) (z3 : Int) (z4 : ByteArray) (z5 : Int) (z6 : List Node) (z7 : Int) (z8 : Int) (z9 : ByteArray) (z10 : Int) : t84 [.int .i64 z1, .agg [.int .i64 z2, .int .i64 z3, .str z4, .int .i64 z5, .sl false 5 (List.map Node.cells z6)], .agg [.int .i64 z7, .int .i64 z8, .str z9, .int .i64 z10, .sl false 5 []]] = bindO (F84 z1 (⟨z2, z3, z4, z5, z6⟩ : Node) (⟨z7, z8, z9, z10, []⟩ : Node)) fun r => some (v84 r) :=
  TL_hit i84 (z1, (⟨z2, z3, z4, z5, z6⟩ : Node), (⟨z7, z8, z9, z10, []⟩ : Node)) (by first | (simp only [a84, push_cast]; done) | (simp only [a84, push_cast]; rfl))
@[push_cast] theorem t29_1 {N : Nat} (z1 : Int) (z2 : Int) (z3 : ByteArray) (z4 : Int) (z5 : List Node) : t29 N [.agg [.int .i64 z1, .int .i64 z2, .str z3, .int .i64 z4, .sl false 5 (List.map Node.cells z5)]] = bindO (F29 N (⟨z1, z2, z3, z4, z5⟩ : Node)) fun r => some (v29 r) :=
  TL_hit i29 (⟨z1, z2, z3, z4, z5⟩ : Node) (by first | (simp only [a29, push_cast]; done) | (simp only [a29, push_cast]; rfl))
/-! ## 27: quantale/quantaleref01.Size -/
def H27 : Nat → Hint := fun i => [⟨[3, 7, 8, 9], [3], []⟩, ⟨[], [3, 7, 8, 9], []⟩].getD (i - 0) ⟨[], [], []⟩
@[push_cast] theorem H27_0 : H27 0 = ⟨[3, 7, 8, 9], [3], []⟩ := rfl
@[push_cast] theorem H27_1 : H27 1 = ⟨[], [3, 7, 8, 9], []⟩ := rfl
def F27_s1 (self27 : Node → Option (Int)) (s3 : Int) (i1 : Nat) (x2 : Node) : Option (Sum (Int) (Int)) :=
  bindO (self27 x2) fun r4 =>
  some (.inl (IntKind.i64.wrap (s3 + r4)))
def F27_f1  (s3 : Int) : Option (Int) :=
  some s3
def F27b (self27 : Node → Option (Int)) (N : Nat) (n : Node) : Option (Int) :=
  foldN (S := Int) (F27_s1 self27) (F27_f1) N n.kids 0 1
def F27 : Nat → Node → Option (Int)
  | 0 => fun _ => none
  | N + 1 => fun n => F27b (F27 N) N n
def a27 (x : Node) : List AV := [.agg (Node.cells x)]
def v27 (r : Int) : AV := .int .i64 r
theorem i27 (x y : Node) (h : nzs (a27 x) = nzs (a27 y)) : x = y := by
  simp only [nzs, a27, List.map_cons, List.map_nil, nzV_agg, nzV_int, nzV_bool, nzV_str, nzV_sl, nzL_sl, List.cons.injEq, AV.agg.injEq, AV.int.injEq, AV.bool.injEq, AV.str.injEq, true_and, and_true, or_true, Node.nz_iff] at h
  first | exact h | (obtain ⟨x1, x2⟩ := x; simp_all [Prod.ext_iff]) | simp_all [Prod.ext_iff]
theorem w27 (x : Node) : wks (a27 x) = true := by
  simp only [wks, a27, wkV, wkL, Node.wk, List.all_cons, List.all_nil, Bool.not_false, Bool.and_self, Bool.and_true]
theorem d27 (x : Node) : allData (a27 x) = true := by
  simp only [a27, push_cast]
def sh27 : Shp := .one (.leaf none)
noncomputable def t27 (N : Nat) : List AV → Option AV := TL a27 fun x => bindO (F27 N x) fun r => some (v27 r)
@[push_cast] theorem v27_eq (r : Int) : v27 r = .int .i64 r := rfl
noncomputable def ts27 (self27 : Node → Option (Int)) : List AV → Option AV := TL a27 fun x => bindO (self27 x) fun r => some (v27 r)
@[push_cast] theorem t27_1 (self27 : Node → Option (Int)) (z1 : Int) (z2 : Int) (z3 : ByteArray) (z4 : Int) (z5 : List Node) : ts27 self27 [.agg [.int .i64 z1, .int .i64 z2, .str z3, .int .i64 z4, .sl false 5 (List.map Node.cells z5)]] = bindO (self27 (⟨z1, z2, z3, z4, z5⟩ : Node)) fun r => some (v27 r) :=
  TL_hit i27 (⟨z1, z2, z3, z4, z5⟩ : Node) (by first | (simp only [a27, push_cast]; done) | (simp only [a27, push_cast]; rfl))
/-! ## 32: quantale/quantalelaw04.light -/
def H32 : Nat → Hint := fun i => [⟨[3, 8, 9, 10], [3], []⟩, ⟨[], [3, 8, 9, 10], []⟩, ⟨[3, 8, 9, 10, 20, 21, 22], [3, 8, 9, 10], []⟩, ⟨[], [3, 8, 9, 10, 20, 21, 22], []⟩].getD (i - 0) ⟨[], [], []⟩
@[push_cast] theorem H32_0 : H32 0 = ⟨[3, 8, 9, 10], [3], []⟩ := rfl
@[push_cast] theorem H32_1 : H32 1 = ⟨[], [3, 8, 9, 10], []⟩ := rfl
@[push_cast] theorem H32_2 : H32 2 = ⟨[3, 8, 9, 10, 20, 21, 22], [3, 8, 9, 10], []⟩ := rfl
@[push_cast] theorem H32_3 : H32 3 = ⟨[], [3, 8, 9, 10, 20, 21, 22], []⟩ := rfl
def F32_s2 (N : Nat) (s6 : Unit) (i4 : Nat) (x5 : Mono) : Option (Sum (Unit) (Sum Int Bool)) :=
  bindO (F27 N x5.monoAtom) fun r7 =>
  iteO (decide (r7 > 200))
  (some (.inr (.inr false)))
  (some (.inl ()))
def F32_f2 (s3 : Int) (x2 : Lin) (s6 : Unit) : Option (Sum Int Bool) :=
  some (.inl (IntKind.i64.wrap (s3 + (x2.linMonos.length : Int))))
def F32_s1 (N : Nat) (s3 : Int) (i1 : Nat) (x2 : Lin) : Option (Sum (Int) (Bool)) :=
  foldN (S := Unit) (F32_s2 N) (F32_f2 s3 x2) N x2.linMonos 0 ()
def F32_f1  (s3 : Int) : Option (Bool) :=
  some (decide (s3 ≤ 40))
def F32 (N : Nat) (l : List Lin) : Option (Bool) :=
  foldN (S := Int) (F32_s1 N) (F32_f1) N l 0 0
def a32 (x : List Lin) : List AV := [.sl false 2 (List.map Lin.cells x)]
def v32 (r : Bool) : AV := .bool r
theorem i32 (x y : List Lin) (h : nzs (a32 x) = nzs (a32 y)) : x = y := by
  simp only [nzs, a32, List.map_cons, List.map_nil, nzV_agg, nzV_int, nzV_bool, nzV_str, nzV_sl, nzL_sl, List.cons.injEq, AV.agg.injEq, AV.int.injEq, AV.bool.injEq, AV.str.injEq, true_and, and_true, or_true, map_inj_iff Lin.cells_inj] at h
  first | exact h | (obtain ⟨x1, x2⟩ := x; simp_all [Prod.ext_iff]) | simp_all [Prod.ext_iff]
theorem w32 (x : List Lin) : wks (a32 x) = true := by
  simp only [wks, a32, wkV, wkL, List.all_cons, List.all_nil, Bool.not_false, Bool.and_self, Bool.and_true]
theorem d32 (x : List Lin) : allData (a32 x) = true := by
  simp only [a32, push_cast]
def sh32 : Shp := .one (.leaf none)
noncomputable def t32 (N : Nat) : List AV → Option AV := TL a32 fun x => bindO (F32 N x) fun r => some (v32 r)
@[push_cast] theorem v32_eq (r : Bool) : v32 r = .bool r := rfl
@[push_cast] theorem t27_2 {N : Nat} (z1 : Int) (z2 : Int) (z3 : ByteArray) (z4 : Int) (z5 : List Node) : t27 N [.agg [.int .i64 z1, .int .i64 z2, .str z3, .int .i64 z4, .sl false 5 (List.map Node.cells z5)]] = bindO (F27 N (⟨z1, z2, z3, z4, z5⟩ : Node)) fun r => some (v27 r) :=
  TL_hit i27 (⟨z1, z2, z3, z4, z5⟩ : Node) (by first | (simp only [a27, push_cast]; done) | (simp only [a27, push_cast]; rfl))
/-! ## 62: quantale/linear.Atom -/
def H62 : Nat → Hint := fun i => [⟨[], [1], []⟩].getD (i - 0) ⟨[], [], []⟩
@[push_cast] theorem H62_0 : H62 0 = ⟨[], [1], []⟩ := rfl
def F62 (N : Nat) (n : Node) : Option (Bool) :=
  iteO (n.op == 2)
  (some false)
  (iteO (n.op == 4)
    (some false)
    (iteO (n.op == 5)
      (some false)
      (iteO (n.op == 6)
        (some false)
        (iteO (n.op == 7)
          (some false)
          (bindO (F14 N n 0) fun r1 =>
            iteO (r1 == 0)
            (bindO (F36 N n) fun r2 =>
              iteO (r2 == 1)
              (some true)
              (bindO (F36 N n) fun r3 =>
                some (r3 == 3)))
            (some false))))))
def a62 (x : Node) : List AV := [.agg (Node.cells x)]
def v62 (r : Bool) : AV := .bool r
theorem i62 (x y : Node) (h : nzs (a62 x) = nzs (a62 y)) : x = y := by
  simp only [nzs, a62, List.map_cons, List.map_nil, nzV_agg, nzV_int, nzV_bool, nzV_str, nzV_sl, nzL_sl, List.cons.injEq, AV.agg.injEq, AV.int.injEq, AV.bool.injEq, AV.str.injEq, true_and, and_true, or_true, Node.nz_iff] at h
  first | exact h | (obtain ⟨x1, x2⟩ := x; simp_all [Prod.ext_iff]) | simp_all [Prod.ext_iff]
theorem w62 (x : Node) : wks (a62 x) = true := by
  simp only [wks, a62, wkV, wkL, Node.wk, List.all_cons, List.all_nil, Bool.not_false, Bool.and_self, Bool.and_true]
theorem d62 (x : Node) : allData (a62 x) = true := by
  simp only [a62, push_cast]
def sh62 : Shp := .one (.leaf none)
noncomputable def t62 (N : Nat) : List AV → Option AV := TL a62 fun x => bindO (F62 N x) fun r => some (v62 r)
@[push_cast] theorem v62_eq (r : Bool) : v62 r = .bool r := rfl
/-! ## 64: quantale/linear.Valid -/
def H64 : Nat → Hint := fun i => [⟨[1, 6, 7, 8], [1], []⟩, ⟨[], [1, 6, 7, 8], []⟩].getD (i - 0) ⟨[], [], []⟩
@[push_cast] theorem H64_0 : H64 0 = ⟨[1, 6, 7, 8], [1], []⟩ := rfl
@[push_cast] theorem H64_1 : H64 1 = ⟨[], [1, 6, 7, 8], []⟩ := rfl
def F64_s1 (N : Nat) (f : Lin) (s3 : Unit) (i1 : Nat) (x2 : Mono) : Option (Sum (Unit) (Bool)) :=
  iteO (x2.monoCoef == 0)
  (some (.inr false))
  (bindO (F112 x2.monoCoef) fun r4 =>
    iteO r4
    (bindO (F62 N x2.monoAtom) fun r5 =>
      iteO r5
      (iteO (decide ((i1 : Int) > 0))
        (bindO (atO f.linMonos (IntKind.i64.wrap ((i1 : Int) - 1))) fun x6 =>
          bindO (F18 N x6.monoAtom x2.monoAtom) fun r7 =>
          iteO (decide (r7 ≥ 0))
          (some (.inr false))
          (some (.inl ())))
        (some (.inl ())))
      (some (.inr false)))
    (some (.inr false)))
def F64_f1 (f : Lin) (s3 : Unit) : Option (Bool) :=
  bindO (F112 f.linConst) fun r8 =>
  some r8
def F64 (N : Nat) (f : Lin) : Option (Bool) :=
  foldN (S := Unit) (F64_s1 N f) (F64_f1 f) N f.linMonos 0 ()
def a64 (x : Lin) : List AV := [.agg (Lin.cells x)]
def v64 (r : Bool) : AV := .bool r
theorem i64 (x y : Lin) (h : nzs (a64 x) = nzs (a64 y)) : x = y := by
  simp only [nzs, a64, List.map_cons, List.map_nil, nzV_agg, nzV_int, nzV_bool, nzV_str, nzV_sl, nzL_sl, List.cons.injEq, AV.agg.injEq, AV.int.injEq, AV.bool.injEq, AV.str.injEq, true_and, and_true, or_true, Lin.nz_iff] at h
  first | exact h | (obtain ⟨x1, x2⟩ := x; simp_all [Prod.ext_iff]) | simp_all [Prod.ext_iff]
theorem w64 (x : Lin) : wks (a64 x) = true := by
  simp only [wks, a64, wkV, wkL, Lin.wk, List.all_cons, List.all_nil, Bool.not_false, Bool.and_self, Bool.and_true]
theorem d64 (x : Lin) : allData (a64 x) = true := by
  simp only [a64, push_cast]
def sh64 : Shp := .one (.leaf none)
noncomputable def t64 (N : Nat) : List AV → Option AV := TL a64 fun x => bindO (F64 N x) fun r => some (v64 r)
@[push_cast] theorem v64_eq (r : Bool) : v64 r = .bool r := rfl
@[push_cast] theorem t62_1 {N : Nat} (z1 : Int) (z2 : Int) (z3 : ByteArray) (z4 : Int) (z5 : List Node) : t62 N [.agg [.int .i64 z1, .int .i64 z2, .str z3, .int .i64 z4, .sl false 5 (List.map Node.cells z5)]] = bindO (F62 N (⟨z1, z2, z3, z4, z5⟩ : Node)) fun r => some (v62 r) :=
  TL_hit i62 (⟨z1, z2, z3, z4, z5⟩ : Node) (by first | (simp only [a62, push_cast]; done) | (simp only [a62, push_cast]; rfl))
/-! ## 107: quantale/linear.valid -/
def H107 : Nat → Hint := fun _ => ⟨[], [], []⟩
def F107 (N : Nat) (c : Con) : Option (Bool) :=
  iteO (c.conRel == 0)
  (bindO (F64 N c.conForm) fun r2 =>
    some r2)
  (iteO (c.conRel == 1)
    (bindO (F64 N c.conForm) fun r1 =>
      some r1)
    (some false))
def a107 (x : Con) : List AV := [.agg (Con.cells x)]
def v107 (r : Bool) : AV := .bool r
theorem i107 (x y : Con) (h : nzs (a107 x) = nzs (a107 y)) : x = y := by
  simp only [nzs, a107, List.map_cons, List.map_nil, nzV_agg, nzV_int, nzV_bool, nzV_str, nzV_sl, nzL_sl, List.cons.injEq, AV.agg.injEq, AV.int.injEq, AV.bool.injEq, AV.str.injEq, true_and, and_true, or_true, Con.nz_iff] at h
  first | exact h | (obtain ⟨x1, x2⟩ := x; simp_all [Prod.ext_iff]) | simp_all [Prod.ext_iff]
theorem w107 (x : Con) : wks (a107 x) = true := by
  simp only [wks, a107, wkV, wkL, Con.wk, List.all_cons, List.all_nil, Bool.not_false, Bool.and_self, Bool.and_true]
theorem d107 (x : Con) : allData (a107 x) = true := by
  simp only [a107, push_cast]
def sh107 : Shp := .one (.leaf none)
noncomputable def t107 (N : Nat) : List AV → Option AV := TL a107 fun x => bindO (F107 N x) fun r => some (v107 r)
@[push_cast] theorem v107_eq (r : Bool) : v107 r = .bool r := rfl
@[push_cast] theorem t64_1 {N : Nat} (z1 : List Mono) (z2 : Int) : t64 N [.agg [.sl false 6 (List.map Mono.cells z1), .int .i64 z2]] = bindO (F64 N (⟨z1, z2⟩ : Lin)) fun r => some (v64 r) :=
  TL_hit i64 (⟨z1, z2⟩ : Lin) (by first | (simp only [a64, push_cast]; done) | (simp only [a64, push_cast]; rfl))
/-! ## 148: quantale/linear.gcd -/
def H148 : Nat → Hint := fun i => [⟨[3, 8, 9, 10], [3], []⟩, ⟨[], [3, 8, 9, 10], []⟩, ⟨[3, 6, 8, 9, 10], [3, 8, 9, 10], []⟩, ⟨[], [3, 6, 8, 9, 10], []⟩].getD (i - 0) ⟨[], [], []⟩
@[push_cast] theorem H148_0 : H148 0 = ⟨[3, 8, 9, 10], [3], []⟩ := rfl
@[push_cast] theorem H148_1 : H148 1 = ⟨[], [3, 8, 9, 10], []⟩ := rfl
@[push_cast] theorem H148_2 : H148 2 = ⟨[3, 6, 8, 9, 10], [3, 8, 9, 10], []⟩ := rfl
@[push_cast] theorem H148_3 : H148 3 = ⟨[], [3, 6, 8, 9, 10], []⟩ := rfl
def F148_s2  (s4 : Int × Int) : Option (Sum (Int × Int) (Sum Int Int)) :=
  iteO (s4.2 == 0)
  (some (.inr (.inl s4.1)))
  (iteO (decide (s4.2 = 0))
    (none)
    (some (.inl (s4.2, s4.1.tmod s4.2))))
def F148_s3  (s5 : Int × Int) : Option (Sum (Int × Int) (Sum Int Int)) :=
  iteO (s5.2 == 0)
  (some (.inr (.inl s5.1)))
  (iteO (decide (s5.2 = 0))
    (none)
    (some (.inl (s5.2, s5.1.tmod s5.2))))
def F148_s1 (N : Nat) (s3 : Int) (i1 : Nat) (x2 : Mono) : Option (Sum (Int) (Int)) :=
  iteO (decide (x2.monoCoef < 0))
  (whileN (S := Int × Int) (F148_s2) N (s3, IntKind.i64.wrap (0 - x2.monoCoef)))
  (whileN (S := Int × Int) (F148_s3) N (s3, x2.monoCoef))
def F148_f1  (s3 : Int) : Option (Int) :=
  some s3
def F148 (N : Nat) (f : Lin) : Option (Int) :=
  foldN (S := Int) (F148_s1 N) (F148_f1) N f.linMonos 0 0
def a148 (x : Lin) : List AV := [.agg (Lin.cells x)]
def v148 (r : Int) : AV := .int .i64 r
theorem i148 (x y : Lin) (h : nzs (a148 x) = nzs (a148 y)) : x = y := by
  simp only [nzs, a148, List.map_cons, List.map_nil, nzV_agg, nzV_int, nzV_bool, nzV_str, nzV_sl, nzL_sl, List.cons.injEq, AV.agg.injEq, AV.int.injEq, AV.bool.injEq, AV.str.injEq, true_and, and_true, or_true, Lin.nz_iff] at h
  first | exact h | (obtain ⟨x1, x2⟩ := x; simp_all [Prod.ext_iff]) | simp_all [Prod.ext_iff]
theorem w148 (x : Lin) : wks (a148 x) = true := by
  simp only [wks, a148, wkV, wkL, Lin.wk, List.all_cons, List.all_nil, Bool.not_false, Bool.and_self, Bool.and_true]
theorem d148 (x : Lin) : allData (a148 x) = true := by
  simp only [a148, push_cast]
def sh148 : Shp := .one (.leaf none)
noncomputable def t148 (N : Nat) : List AV → Option AV := TL a148 fun x => bindO (F148 N x) fun r => some (v148 r)
@[push_cast] theorem v148_eq (r : Int) : v148 r = .int .i64 r := rfl
/-! ## 149: quantale/linear.floor -/
def H149 : Nat → Hint := fun _ => ⟨[], [], []⟩
def F149 (a : Int) (b : Int) : Option (Int) :=
  iteO (decide (b = 0))
  (none)
  (iteO (decide ((a.tmod b) < 0))
    (some (IntKind.i64.wrap ((IntKind.i64.wrap (a.tdiv b)) - 1)))
    (some (IntKind.i64.wrap (a.tdiv b))))
def a149 (x : Int × Int) : List AV := [.int .i64 x.1, .int .i64 x.2]
def v149 (r : Int) : AV := .int .i64 r
theorem i149 (x y : Int × Int) (h : nzs (a149 x) = nzs (a149 y)) : x = y := by
  simp only [nzs, a149, List.map_cons, List.map_nil, nzV_agg, nzV_int, nzV_bool, nzV_str, nzV_sl, nzL_sl, List.cons.injEq, AV.agg.injEq, AV.int.injEq, AV.bool.injEq, AV.str.injEq, true_and, and_true, or_true] at h
  first | exact h | (obtain ⟨x1, x2⟩ := x; simp_all [Prod.ext_iff]) | simp_all [Prod.ext_iff]
theorem w149 (x : Int × Int) : wks (a149 x) = true := by
  simp only [wks, a149, wkV, wkL, List.all_cons, List.all_nil, Bool.not_false, Bool.and_self, Bool.and_true]
theorem d149 (x : Int × Int) : allData (a149 x) = true := by
  simp only [a149, push_cast]
def sh149 : Shp := .one (.leaf none)
noncomputable def t149 : List AV → Option AV := TL a149 fun x => bindO (F149 x.1 x.2) fun r => some (v149 r)
@[push_cast] theorem v149_eq (r : Int) : v149 r = .int .i64 r := rfl
/-! ## 108: quantale/linear.round -/
def H108 : Nat → Hint := fun i => [⟨[1, 2, 3, 4, 45, 46, 47], [1, 2, 3, 4], [.ownS 2 0 6]⟩, ⟨[], [1, 2, 3, 4, 45, 46, 47], []⟩].getD (i - 0) ⟨[], [], []⟩
@[push_cast] theorem H108_0 : H108 0 = ⟨[1, 2, 3, 4, 45, 46, 47], [1, 2, 3, 4], [.ownS 2 0 6]⟩ := rfl
@[push_cast] theorem H108_1 : H108 1 = ⟨[], [1, 2, 3, 4, 45, 46, 47], []⟩ := rfl
def F108_s2 (r1 : Int) (s8 : List Mono) (i6 : Nat) (x7 : Mono) : Option (Sum (List Mono) (Con)) :=
  iteO (decide ((IntKind.i64.wrap (0 - r1)) = 0))
  (none)
  (iteO (fits (s8.length + 1) 72)
    (some (.inl (s8 ++ ([(⟨IntKind.i64.wrap (x7.monoCoef.tdiv (IntKind.i64.wrap (0 - r1))), x7.monoAtom⟩ : Mono)]))))
    (none))
def F108_f2 (c : Con) (r1 : Int) (s8 : List Mono) : Option (Con) :=
  iteO (decide ((IntKind.i64.wrap (0 - r1)) = 0))
  (none)
  (some (⟨(⟨s8, IntKind.i64.wrap (c.conForm.linConst.tdiv (IntKind.i64.wrap (0 - r1)))⟩ : Lin), c.conRel⟩ : Con))
def F108_s3 (r1 : Int) (s11 : List Mono) (i9 : Nat) (x10 : Mono) : Option (Sum (List Mono) (Con)) :=
  iteO (fits (s11.length + 1) 72)
  (some (.inl (s11 ++ ([(⟨IntKind.i64.wrap (x10.monoCoef.tdiv r1), x10.monoAtom⟩ : Mono)]))))
  (none)
def F108_f3 (c : Con) (r1 : Int) (s11 : List Mono) : Option (Con) :=
  some (⟨(⟨s11, IntKind.i64.wrap (c.conForm.linConst.tdiv r1)⟩ : Lin), c.conRel⟩ : Con)
def F108_s4 (r1 : Int) (s14 : List Mono) (i12 : Nat) (x13 : Mono) : Option (Sum (List Mono) (Con)) :=
  iteO (decide (r1 = 0))
  (none)
  (iteO (fits (s14.length + 1) 72)
    (some (.inl (s14 ++ ([(⟨IntKind.i64.wrap (x13.monoCoef.tdiv r1), x13.monoAtom⟩ : Mono)]))))
    (none))
def F108_f4 (c : Con) (r1 : Int) (s14 : List Mono) : Option (Con) :=
  bindO (F149 (IntKind.i64.wrap (0 - c.conForm.linConst)) r1) fun r15 =>
  some (⟨(⟨s14, IntKind.i64.wrap (0 - r15)⟩ : Lin), c.conRel⟩ : Con)
def F108 (N : Nat) (c : Con) : Option (Con) :=
  bindO (F148 N c.conForm) fun r1 =>
  iteO (r1 == 0)
  (some c)
  (iteO (c.conRel == 0)
    (iteO (decide (r1 = 0))
      (none)
      (iteO ((c.conForm.linConst.tmod r1) == 0)
        (bindO (atO c.conForm.linMonos 0) fun x2 =>
          iteO (decide (x2.monoCoef < 0))
          (foldN (S := List Mono) (F108_s2 r1) (F108_f2 c r1) N c.conForm.linMonos 0 ([]))
          (foldN (S := List Mono) (F108_s3 r1) (F108_f3 c r1) N c.conForm.linMonos 0 ([])))
        (some (⟨(⟨[], 1⟩ : Lin), 0⟩ : Con))))
    (foldN (S := List Mono) (F108_s4 r1) (F108_f4 c r1) N c.conForm.linMonos 0 ([])))
def a108 (x : Con) : List AV := [.agg (Con.cells x)]
def v108 (r : Con) : AV := .agg (Con.cells r)
theorem i108 (x y : Con) (h : nzs (a108 x) = nzs (a108 y)) : x = y := by
  simp only [nzs, a108, List.map_cons, List.map_nil, nzV_agg, nzV_int, nzV_bool, nzV_str, nzV_sl, nzL_sl, List.cons.injEq, AV.agg.injEq, AV.int.injEq, AV.bool.injEq, AV.str.injEq, true_and, and_true, or_true, Con.nz_iff] at h
  first | exact h | (obtain ⟨x1, x2⟩ := x; simp_all [Prod.ext_iff]) | simp_all [Prod.ext_iff]
theorem w108 (x : Con) : wks (a108 x) = true := by
  simp only [wks, a108, wkV, wkL, Con.wk, List.all_cons, List.all_nil, Bool.not_false, Bool.and_self, Bool.and_true]
theorem d108 (x : Con) : allData (a108 x) = true := by
  simp only [a108, push_cast]
def sh108 : Shp := .one (.agg [some 6, none, none])
noncomputable def t108 (N : Nat) : List AV → Option AV := TL a108 fun x => bindO (F108 N x) fun r => some (v108 r)
@[push_cast] theorem v108_eq (r : Con) : v108 r = .agg (Con.cells r) := rfl
@[push_cast] theorem t148_1 {N : Nat} (z1 : List Mono) (z2 : Int) : t148 N [.agg [.sl false 6 (List.map Mono.cells z1), .int .i64 z2]] = bindO (F148 N (⟨z1, z2⟩ : Lin)) fun r => some (v148 r) :=
  TL_hit i148 (⟨z1, z2⟩ : Lin) (by first | (simp only [a148, push_cast]; done) | (simp only [a148, push_cast]; rfl))
@[push_cast] theorem t149_1 (z1 : Int) (z2 : Int) : t149 [.int .i64 z1, .int .i64 z2] = bindO (F149 z1 z2) fun r => some (v149 r) :=
  TL_hit i149 (z1, z2) (by first | (simp only [a149, push_cast]; done) | (simp only [a149, push_cast]; rfl))
/-! ## 56: quantale/linear.Round -/
def H56 : Nat → Hint := fun _ => ⟨[], [], []⟩
def F56 (N : Nat) (c : Con) : Option (Con × Int) :=
  bindO (F107 N c) fun r1 =>
  iteO r1
  (bindO (F108 N c) fun r2 =>
    bindO (F86 N r2.conForm) fun r3 =>
    some ((⟨r3, r2.conRel⟩ : Con), 0))
  (some ((⟨(⟨[], 0⟩ : Lin), 0⟩ : Con), 3))
def a56 (x : Con) : List AV := [.agg (Con.cells x)]
def v56 (r : Con × Int) : AV := .tuple [.agg (Con.cells r.1), .int .i64 r.2]
theorem i56 (x y : Con) (h : nzs (a56 x) = nzs (a56 y)) : x = y := by
  simp only [nzs, a56, List.map_cons, List.map_nil, nzV_agg, nzV_int, nzV_bool, nzV_str, nzV_sl, nzL_sl, List.cons.injEq, AV.agg.injEq, AV.int.injEq, AV.bool.injEq, AV.str.injEq, true_and, and_true, or_true, Con.nz_iff] at h
  first | exact h | (obtain ⟨x1, x2⟩ := x; simp_all [Prod.ext_iff]) | simp_all [Prod.ext_iff]
theorem w56 (x : Con) : wks (a56 x) = true := by
  simp only [wks, a56, wkV, wkL, Con.wk, List.all_cons, List.all_nil, Bool.not_false, Bool.and_self, Bool.and_true]
theorem d56 (x : Con) : allData (a56 x) = true := by
  simp only [a56, push_cast]
def sh56 : Shp := .tup [.agg [some 6, none, none], .leaf none]
noncomputable def t56 (N : Nat) : List AV → Option AV := TL a56 fun x => bindO (F56 N x) fun r => some (v56 r)
@[push_cast] theorem v56_eq (r : Con × Int) : v56 r = .tuple [.agg (Con.cells r.1), .int .i64 r.2] := rfl
@[push_cast] theorem t107_1 {N : Nat} (z1 : List Mono) (z2 : Int) (z3 : Int) : t107 N [.agg [.sl false 6 (List.map Mono.cells z1), .int .i64 z2, .int .i64 z3]] = bindO (F107 N (⟨(⟨z1, z2⟩ : Lin), z3⟩ : Con)) fun r => some (v107 r) :=
  TL_hit i107 (⟨(⟨z1, z2⟩ : Lin), z3⟩ : Con) (by first | (simp only [a107, push_cast]; done) | (simp only [a107, push_cast]; rfl))
@[push_cast] theorem t108_1 {N : Nat} (z1 : List Mono) (z2 : Int) (z3 : Int) : t108 N [.agg [.sl false 6 (List.map Mono.cells z1), .int .i64 z2, .int .i64 z3]] = bindO (F108 N (⟨(⟨z1, z2⟩ : Lin), z3⟩ : Con)) fun r => some (v108 r) :=
  TL_hit i108 (⟨(⟨z1, z2⟩ : Lin), z3⟩ : Con) (by first | (simp only [a108, push_cast]; done) | (simp only [a108, push_cast]; rfl))
/-! ## 130: quantale/quantaleref04.fits -/
def H130 : Nat → Hint := fun _ => ⟨[], [], []⟩
def F130 (n : Int) : Option (Bool) :=
  iteO (decide (n ≥ (-9007199254740992)))
  (some (decide (n ≤ 9007199254740992)))
  (some false)
def a130 (x : Int) : List AV := [.int .i64 x]
def v130 (r : Bool) : AV := .bool r
theorem i130 (x y : Int) (h : nzs (a130 x) = nzs (a130 y)) : x = y := by
  simp only [nzs, a130, List.map_cons, List.map_nil, nzV_agg, nzV_int, nzV_bool, nzV_str, nzV_sl, nzL_sl, List.cons.injEq, AV.agg.injEq, AV.int.injEq, AV.bool.injEq, AV.str.injEq, true_and, and_true, or_true] at h
  first | exact h | (obtain ⟨x1, x2⟩ := x; simp_all [Prod.ext_iff]) | simp_all [Prod.ext_iff]
theorem w130 (x : Int) : wks (a130 x) = true := by
  simp only [wks, a130, wkV, wkL, List.all_cons, List.all_nil, Bool.not_false, Bool.and_self, Bool.and_true]
theorem d130 (x : Int) : allData (a130 x) = true := by
  simp only [a130, push_cast]
def sh130 : Shp := .one (.leaf none)
noncomputable def t130 : List AV → Option AV := TL a130 fun x => bindO (F130 x) fun r => some (v130 r)
@[push_cast] theorem v130_eq (r : Bool) : v130 r = .bool r := rfl
/-! ## 28: quantale/quantaleref01.Sort -/
def H28 : Nat → Hint := fun i => [⟨[], [1], []⟩].getD (i - 0) ⟨[], [], []⟩
@[push_cast] theorem H28_0 : H28 0 = ⟨[], [1], []⟩ := rfl
def F28b (self28 : Node → Option (Int)) (N : Nat) (n : Node) : Option (Int) :=
  iteO (n.op == 1)
  (some n.sortf)
  (iteO (n.op == 3)
    (some n.sortf)
    (iteO (n.op == 2)
      (some 1)
      (iteO (n.op == 4)
        (some 1)
        (iteO (n.op == 5)
          (some 1)
          (iteO (n.op == 6)
            (some 1)
            (iteO (n.op == 7)
              (some 1)
              (iteO (n.op == 14)
                (some 1)
                (iteO (n.op == 16)
                  (some 1)
                  (iteO (n.op == 8)
                    (iteO (decide ((n.kids.length : Int) < 2))
                      (some 0)
                      (bindO (atO n.kids 1) fun x1 =>
                        bindO (self28 x1) fun r2 =>
                        some r2))
                    (iteO (n.op == 9)
                      (some 4)
                      (iteO (n.op == 10)
                        (some 4)
                        (iteO (n.op == 11)
                          (some 4)
                          (iteO (n.op == 12)
                            (some 4)
                            (iteO (n.op == 13)
                              (some 4)
                              (iteO (n.op == 15)
                                (some 5)
                                (iteO (decide (n.op ≥ 30))
                                  (iteO (decide (n.op ≤ 42))
                                    (some 2)
                                    (some 0))
                                  (some 0)))))))))))))))))
def F28 : Nat → Node → Option (Int)
  | 0 => fun _ => none
  | N + 1 => fun n => F28b (F28 N) N n
def a28 (x : Node) : List AV := [.agg (Node.cells x)]
def v28 (r : Int) : AV := .int .i64 r
theorem i28 (x y : Node) (h : nzs (a28 x) = nzs (a28 y)) : x = y := by
  simp only [nzs, a28, List.map_cons, List.map_nil, nzV_agg, nzV_int, nzV_bool, nzV_str, nzV_sl, nzL_sl, List.cons.injEq, AV.agg.injEq, AV.int.injEq, AV.bool.injEq, AV.str.injEq, true_and, and_true, or_true, Node.nz_iff] at h
  first | exact h | (obtain ⟨x1, x2⟩ := x; simp_all [Prod.ext_iff]) | simp_all [Prod.ext_iff]
theorem w28 (x : Node) : wks (a28 x) = true := by
  simp only [wks, a28, wkV, wkL, Node.wk, List.all_cons, List.all_nil, Bool.not_false, Bool.and_self, Bool.and_true]
theorem d28 (x : Node) : allData (a28 x) = true := by
  simp only [a28, push_cast]
def sh28 : Shp := .one (.leaf none)
noncomputable def t28 (N : Nat) : List AV → Option AV := TL a28 fun x => bindO (F28 N x) fun r => some (v28 r)
@[push_cast] theorem v28_eq (r : Int) : v28 r = .int .i64 r := rfl
noncomputable def ts28 (self28 : Node → Option (Int)) : List AV → Option AV := TL a28 fun x => bindO (self28 x) fun r => some (v28 r)
@[push_cast] theorem t28_1 (self28 : Node → Option (Int)) (z1 : Int) (z2 : Int) (z3 : ByteArray) (z4 : Int) (z5 : List Node) : ts28 self28 [.agg [.int .i64 z1, .int .i64 z2, .str z3, .int .i64 z4, .sl false 5 (List.map Node.cells z5)]] = bindO (self28 (⟨z1, z2, z3, z4, z5⟩ : Node)) fun r => some (v28 r) :=
  TL_hit i28 (⟨z1, z2, z3, z4, z5⟩ : Node) (by first | (simp only [a28, push_cast]; done) | (simp only [a28, push_cast]; rfl))
/-! ## 39: quantale/quantaleref01.Levels -/
def H39 : Nat → Hint := fun i => [⟨[3, 7, 8, 9], [3], []⟩, ⟨[], [3, 7, 8, 9], []⟩].getD (i - 0) ⟨[], [], []⟩
@[push_cast] theorem H39_0 : H39 0 = ⟨[3, 7, 8, 9], [3], []⟩ := rfl
@[push_cast] theorem H39_1 : H39 1 = ⟨[], [3, 7, 8, 9], []⟩ := rfl
def F39_s1 (self39 : Node → Option (Int)) (s3 : Int) (i1 : Nat) (x2 : Node) : Option (Sum (Int) (Int)) :=
  bindO (self39 x2) fun r4 =>
  some (.inl (max s3 r4))
def F39_f1  (s3 : Int) : Option (Int) :=
  some (IntKind.i64.wrap (s3 + 1))
def F39b (self39 : Node → Option (Int)) (N : Nat) (n : Node) : Option (Int) :=
  foldN (S := Int) (F39_s1 self39) (F39_f1) N n.kids 0 0
def F39 : Nat → Node → Option (Int)
  | 0 => fun _ => none
  | N + 1 => fun n => F39b (F39 N) N n
def a39 (x : Node) : List AV := [.agg (Node.cells x)]
def v39 (r : Int) : AV := .int .i64 r
theorem i39 (x y : Node) (h : nzs (a39 x) = nzs (a39 y)) : x = y := by
  simp only [nzs, a39, List.map_cons, List.map_nil, nzV_agg, nzV_int, nzV_bool, nzV_str, nzV_sl, nzL_sl, List.cons.injEq, AV.agg.injEq, AV.int.injEq, AV.bool.injEq, AV.str.injEq, true_and, and_true, or_true, Node.nz_iff] at h
  first | exact h | (obtain ⟨x1, x2⟩ := x; simp_all [Prod.ext_iff]) | simp_all [Prod.ext_iff]
theorem w39 (x : Node) : wks (a39 x) = true := by
  simp only [wks, a39, wkV, wkL, Node.wk, List.all_cons, List.all_nil, Bool.not_false, Bool.and_self, Bool.and_true]
theorem d39 (x : Node) : allData (a39 x) = true := by
  simp only [a39, push_cast]
def sh39 : Shp := .one (.leaf none)
noncomputable def t39 (N : Nat) : List AV → Option AV := TL a39 fun x => bindO (F39 N x) fun r => some (v39 r)
@[push_cast] theorem v39_eq (r : Int) : v39 r = .int .i64 r := rfl
noncomputable def ts39 (self39 : Node → Option (Int)) : List AV → Option AV := TL a39 fun x => bindO (self39 x) fun r => some (v39 r)
@[push_cast] theorem t39_1 (self39 : Node → Option (Int)) (z1 : Int) (z2 : Int) (z3 : ByteArray) (z4 : Int) (z5 : List Node) : ts39 self39 [.agg [.int .i64 z1, .int .i64 z2, .str z3, .int .i64 z4, .sl false 5 (List.map Node.cells z5)]] = bindO (self39 (⟨z1, z2, z3, z4, z5⟩ : Node)) fun r => some (v39 r) :=
  TL_hit i39 (⟨z1, z2, z3, z4, z5⟩ : Node) (by first | (simp only [a39, push_cast]; done) | (simp only [a39, push_cast]; rfl))
/-! ## 75: quantale/quantaleref01.Letter -/
def H75 : Nat → Hint := fun _ => ⟨[], [], []⟩
def F75 (c : Int) : Option (Bool) :=
  iteO (decide (c ≥ 97))
  (iteO (decide (c ≤ 122))
    (some true)
    (iteO (decide (c ≥ 65))
      (some (decide (c ≤ 90)))
      (some false)))
  (iteO (decide (c ≥ 65))
    (some (decide (c ≤ 90)))
    (some false))
def a75 (x : Int) : List AV := [.int .u8 x]
def v75 (r : Bool) : AV := .bool r
theorem i75 (x y : Int) (h : nzs (a75 x) = nzs (a75 y)) : x = y := by
  simp only [nzs, a75, List.map_cons, List.map_nil, nzV_agg, nzV_int, nzV_bool, nzV_str, nzV_sl, nzL_sl, List.cons.injEq, AV.agg.injEq, AV.int.injEq, AV.bool.injEq, AV.str.injEq, true_and, and_true, or_true] at h
  first | exact h | (obtain ⟨x1, x2⟩ := x; simp_all [Prod.ext_iff]) | simp_all [Prod.ext_iff]
theorem w75 (x : Int) : wks (a75 x) = true := by
  simp only [wks, a75, wkV, wkL, List.all_cons, List.all_nil, Bool.not_false, Bool.and_self, Bool.and_true]
theorem d75 (x : Int) : allData (a75 x) = true := by
  simp only [a75, push_cast]
def sh75 : Shp := .one (.leaf none)
noncomputable def t75 : List AV → Option AV := TL a75 fun x => bindO (F75 x) fun r => some (v75 r)
@[push_cast] theorem v75_eq (r : Bool) : v75 r = .bool r := rfl
/-! ## 121: quantale/quantaleref01.Words -/
def H121 : Nat → Hint := fun _ => ⟨[], [], []⟩
def F121  : Option (List ByteArray) :=
  some ([(⟨#[116, 114, 117, 101]⟩ : ByteArray), (⟨#[102, 97, 108, 115, 101]⟩ : ByteArray), (⟨#[105, 110]⟩ : ByteArray), (⟨#[115, 117, 98]⟩ : ByteArray), (⟨#[101, 109, 112, 116, 121]⟩ : ByteArray), (⟨#[115, 105, 110, 103]⟩ : ByteArray), (⟨#[99, 117, 112]⟩ : ByteArray), (⟨#[99, 97, 112]⟩ : ByteArray), (⟨#[100, 105, 102, 102]⟩ : ByteArray), (⟨#[115, 101, 108]⟩ : ByteArray), (⟨#[115, 116, 111]⟩ : ByteArray), (⟨#[118, 108, 101, 110]⟩ : ByteArray), (⟨#[105, 116, 101]⟩ : ByteArray)])
def a121 (x : Unit) : List AV := []
def v121 (r : List ByteArray) : AV := .sl false 1 (List.map cS r)
theorem i121 (x y : Unit) (h : nzs (a121 x) = nzs (a121 y)) : x = y := rfl
theorem w121 (x : Unit) : wks (a121 x) = true := by
  simp only [wks, a121, wkV, wkL, List.all_cons, List.all_nil, Bool.not_false, Bool.and_self, Bool.and_true]
theorem d121 (x : Unit) : allData (a121 x) = true := by
  simp only [a121, push_cast]
def sh121 : Shp := .one (.leaf (some 1))
noncomputable def t121 : List AV → Option AV := TL a121 fun x => bindO (F121) fun r => some (v121 r)
@[push_cast] theorem v121_eq (r : List ByteArray) : v121 r = .sl false 1 (List.map cS r) := rfl
/-! ## 76: quantale/quantaleref01.Word -/
def H76 : Nat → Hint := fun i => [⟨[0, 5, 6, 7], [], []⟩, ⟨[], [0, 5, 6, 7], []⟩].getD (i - 0) ⟨[], [], []⟩
@[push_cast] theorem H76_0 : H76 0 = ⟨[0, 5, 6, 7], [], []⟩ := rfl
@[push_cast] theorem H76_1 : H76 1 = ⟨[], [0, 5, 6, 7], []⟩ := rfl
def F76_s1 (s : ByteArray) (s4 : Unit) (i2 : Nat) (x3 : ByteArray) : Option (Sum (Unit) (Bool)) :=
  iteO (x3.toList == s.toList)
  (some (.inr true))
  (some (.inl ()))
def F76_f1  (s4 : Unit) : Option (Bool) :=
  some false
def F76 (N : Nat) (s : ByteArray) : Option (Bool) :=
  bindO (F121) fun r1 =>
  foldN (S := Unit) (F76_s1 s) (F76_f1) N r1 0 ()
def a76 (x : ByteArray) : List AV := [.str x]
def v76 (r : Bool) : AV := .bool r
theorem i76 (x y : ByteArray) (h : nzs (a76 x) = nzs (a76 y)) : x = y := by
  simp only [nzs, a76, List.map_cons, List.map_nil, nzV_agg, nzV_int, nzV_bool, nzV_str, nzV_sl, nzL_sl, List.cons.injEq, AV.agg.injEq, AV.int.injEq, AV.bool.injEq, AV.str.injEq, true_and, and_true, or_true] at h
  first | exact h | (obtain ⟨x1, x2⟩ := x; simp_all [Prod.ext_iff]) | simp_all [Prod.ext_iff]
theorem w76 (x : ByteArray) : wks (a76 x) = true := by
  simp only [wks, a76, wkV, wkL, List.all_cons, List.all_nil, Bool.not_false, Bool.and_self, Bool.and_true]
theorem d76 (x : ByteArray) : allData (a76 x) = true := by
  simp only [a76, push_cast]
def sh76 : Shp := .one (.leaf none)
noncomputable def t76 (N : Nat) : List AV → Option AV := TL a76 fun x => bindO (F76 N x) fun r => some (v76 r)
@[push_cast] theorem v76_eq (r : Bool) : v76 r = .bool r := rfl
@[push_cast] theorem t121_1  : t121 [] = bindO (F121) fun r => some (v121 r) :=
  TL_hit i121 () (by first | (simp only [a121, push_cast]; done) | (simp only [a121, push_cast]; rfl))
/-! ## 77: quantale/quantaleref01.Digit -/
def H77 : Nat → Hint := fun _ => ⟨[], [], []⟩
def F77 (c : Int) : Option (Bool) :=
  iteO (decide (c ≥ 48))
  (some (decide (c ≤ 57)))
  (some false)
def a77 (x : Int) : List AV := [.int .u8 x]
def v77 (r : Bool) : AV := .bool r
theorem i77 (x y : Int) (h : nzs (a77 x) = nzs (a77 y)) : x = y := by
  simp only [nzs, a77, List.map_cons, List.map_nil, nzV_agg, nzV_int, nzV_bool, nzV_str, nzV_sl, nzL_sl, List.cons.injEq, AV.agg.injEq, AV.int.injEq, AV.bool.injEq, AV.str.injEq, true_and, and_true, or_true] at h
  first | exact h | (obtain ⟨x1, x2⟩ := x; simp_all [Prod.ext_iff]) | simp_all [Prod.ext_iff]
theorem w77 (x : Int) : wks (a77 x) = true := by
  simp only [wks, a77, wkV, wkL, List.all_cons, List.all_nil, Bool.not_false, Bool.and_self, Bool.and_true]
theorem d77 (x : Int) : allData (a77 x) = true := by
  simp only [a77, push_cast]
def sh77 : Shp := .one (.leaf none)
noncomputable def t77 : List AV → Option AV := TL a77 fun x => bindO (F77 x) fun r => some (v77 r)
@[push_cast] theorem v77_eq (r : Bool) : v77 r = .bool r := rfl
/-! ## 17: quantale/quantaleref01.Name -/
def H17 : Nat → Hint := fun i => [⟨[0, 3], [], []⟩, ⟨[], [0, 3], []⟩].getD (i - 0) ⟨[], [], []⟩
@[push_cast] theorem H17_0 : H17 0 = ⟨[0, 3], [], []⟩ := rfl
@[push_cast] theorem H17_1 : H17 1 = ⟨[], [0, 3], []⟩ := rfl
def F17_s1 (s : ByteArray) (s3 : Int) : Option (Sum (Int) (Bool)) :=
  iteO (decide (s3 < (s.size : Int)))
  (iteO (inB s3 s.size)
    (bindO (F75 (bt s s3)) fun r4 =>
      iteO r4
      (some (.inl (IntKind.i64.wrap (s3 + 1))))
      (bindO (F77 (bt s s3)) fun r5 =>
        iteO r5
        (some (.inl (IntKind.i64.wrap (s3 + 1))))
        (iteO ((bt s s3) == 46)
          (some (.inl (IntKind.i64.wrap (s3 + 1))))
          (some (.inr false)))))
    (none))
  (some (.inr true))
def F17 (N : Nat) (s : ByteArray) : Option (Bool) :=
  iteO ((s.size : Int) == 0)
  (some false)
  (iteO (decide ((s.size : Int) > 24))
    (some false)
    (iteO (inB 0 s.size)
      (bindO (F75 (bt s 0)) fun r1 =>
        iteO r1
        (bindO (F76 N s) fun r2 =>
          iteO r2
          (some false)
          (whileN (S := Int) (F17_s1 s) N 1))
        (some false))
      (none)))
def a17 (x : ByteArray) : List AV := [.str x]
def v17 (r : Bool) : AV := .bool r
theorem i17 (x y : ByteArray) (h : nzs (a17 x) = nzs (a17 y)) : x = y := by
  simp only [nzs, a17, List.map_cons, List.map_nil, nzV_agg, nzV_int, nzV_bool, nzV_str, nzV_sl, nzL_sl, List.cons.injEq, AV.agg.injEq, AV.int.injEq, AV.bool.injEq, AV.str.injEq, true_and, and_true, or_true] at h
  first | exact h | (obtain ⟨x1, x2⟩ := x; simp_all [Prod.ext_iff]) | simp_all [Prod.ext_iff]
theorem w17 (x : ByteArray) : wks (a17 x) = true := by
  simp only [wks, a17, wkV, wkL, List.all_cons, List.all_nil, Bool.not_false, Bool.and_self, Bool.and_true]
theorem d17 (x : ByteArray) : allData (a17 x) = true := by
  simp only [a17, push_cast]
def sh17 : Shp := .one (.leaf none)
noncomputable def t17 (N : Nat) : List AV → Option AV := TL a17 fun x => bindO (F17 N x) fun r => some (v17 r)
@[push_cast] theorem v17_eq (r : Bool) : v17 r = .bool r := rfl
@[push_cast] theorem t75_1 (z1 : Int) : t75 [.int .u8 z1] = bindO (F75 z1) fun r => some (v75 r) :=
  TL_hit i75 z1 (by first | (simp only [a75, push_cast]; done) | (simp only [a75, push_cast]; rfl))
@[push_cast] theorem t76_1 {N : Nat} (z1 : ByteArray) : t76 N [.str z1] = bindO (F76 N z1) fun r => some (v76 r) :=
  TL_hit i76 z1 (by first | (simp only [a76, push_cast]; done) | (simp only [a76, push_cast]; rfl))
@[push_cast] theorem t77_1 (z1 : Int) : t77 [.int .u8 z1] = bindO (F77 z1) fun r => some (v77 r) :=
  TL_hit i77 z1 (by first | (simp only [a77, push_cast]; done) | (simp only [a77, push_cast]; rfl))
/-! ## 118: quantale/quantaleref01.own -/
def H118 : Nat → Hint := fun i => [⟨[], [1], []⟩].getD (i - 0) ⟨[], [], []⟩
@[push_cast] theorem H118_0 : H118 0 = ⟨[], [1], []⟩ := rfl
def F118 (N : Nat) (n : Node) : Option (Bool) :=
  iteO (n.op == 1)
  (bindO (F17 N n.name) fun r2 =>
    iteO r2
    (iteO (decide (n.sortf < 1))
      (some false)
      (iteO (decide (n.sortf > 5))
        (some false)
        (iteO (n.op == 2)
          (iteO (decide (n.num ≥ (-1000000000000)))
            (some (decide (n.num ≤ 1000000000000)))
            (some false))
          (iteO (n.op == 7)
            (iteO (decide (n.num ≥ (-1000000000000)))
              (some (decide (n.num ≤ 1000000000000)))
              (some false))
            (iteO (n.op == 42)
              (iteO (decide (n.num ≥ 0))
                (some (decide (n.num < 200)))
                (some false))
              (some (n.num == 0)))))))
    (some false))
  (iteO (n.op == 3)
    (bindO (F17 N n.name) fun r1 =>
      iteO r1
      (iteO (decide (n.sortf < 1))
        (some false)
        (iteO (decide (n.sortf > 5))
          (some false)
          (iteO (n.op == 2)
            (iteO (decide (n.num ≥ (-1000000000000)))
              (some (decide (n.num ≤ 1000000000000)))
              (some false))
            (iteO (n.op == 7)
              (iteO (decide (n.num ≥ (-1000000000000)))
                (some (decide (n.num ≤ 1000000000000)))
                (some false))
              (iteO (n.op == 42)
                (iteO (decide (n.num ≥ 0))
                  (some (decide (n.num < 200)))
                  (some false))
                (some (n.num == 0)))))))
      (some false))
    (iteO (n.name.toList == (⟨#[]⟩ : ByteArray).toList)
      (iteO (n.sortf == 0)
        (iteO (n.op == 2)
          (iteO (decide (n.num ≥ (-1000000000000)))
            (some (decide (n.num ≤ 1000000000000)))
            (some false))
          (iteO (n.op == 7)
            (iteO (decide (n.num ≥ (-1000000000000)))
              (some (decide (n.num ≤ 1000000000000)))
              (some false))
            (iteO (n.op == 42)
              (iteO (decide (n.num ≥ 0))
                (some (decide (n.num < 200)))
                (some false))
              (some (n.num == 0)))))
        (some false))
      (some false)))
def a118 (x : Node) : List AV := [.agg (Node.cells x)]
def v118 (r : Bool) : AV := .bool r
theorem i118 (x y : Node) (h : nzs (a118 x) = nzs (a118 y)) : x = y := by
  simp only [nzs, a118, List.map_cons, List.map_nil, nzV_agg, nzV_int, nzV_bool, nzV_str, nzV_sl, nzL_sl, List.cons.injEq, AV.agg.injEq, AV.int.injEq, AV.bool.injEq, AV.str.injEq, true_and, and_true, or_true, Node.nz_iff] at h
  first | exact h | (obtain ⟨x1, x2⟩ := x; simp_all [Prod.ext_iff]) | simp_all [Prod.ext_iff]
theorem w118 (x : Node) : wks (a118 x) = true := by
  simp only [wks, a118, wkV, wkL, Node.wk, List.all_cons, List.all_nil, Bool.not_false, Bool.and_self, Bool.and_true]
theorem d118 (x : Node) : allData (a118 x) = true := by
  simp only [a118, push_cast]
def sh118 : Shp := .one (.leaf none)
noncomputable def t118 (N : Nat) : List AV → Option AV := TL a118 fun x => bindO (F118 N x) fun r => some (v118 r)
@[push_cast] theorem v118_eq (r : Bool) : v118 r = .bool r := rfl
@[push_cast] theorem t17_1 {N : Nat} (z1 : ByteArray) : t17 N [.str z1] = bindO (F17 N z1) fun r => some (v17 r) :=
  TL_hit i17 z1 (by first | (simp only [a17, push_cast]; done) | (simp only [a17, push_cast]; rfl))
/-! ## 119: quantale/quantaleref01.plain -/
def H119 : Nat → Hint := fun _ => ⟨[], [], []⟩
def F119 (s : Int) : Option (Bool) :=
  iteO (s == 1)
  (some true)
  (iteO (s == 3)
    (some true)
    (iteO (s == 4)
      (some true)
      (some (s == 5))))
def a119 (x : Int) : List AV := [.int .i64 x]
def v119 (r : Bool) : AV := .bool r
theorem i119 (x y : Int) (h : nzs (a119 x) = nzs (a119 y)) : x = y := by
  simp only [nzs, a119, List.map_cons, List.map_nil, nzV_agg, nzV_int, nzV_bool, nzV_str, nzV_sl, nzL_sl, List.cons.injEq, AV.agg.injEq, AV.int.injEq, AV.bool.injEq, AV.str.injEq, true_and, and_true, or_true] at h
  first | exact h | (obtain ⟨x1, x2⟩ := x; simp_all [Prod.ext_iff]) | simp_all [Prod.ext_iff]
theorem w119 (x : Int) : wks (a119 x) = true := by
  simp only [wks, a119, wkV, wkL, List.all_cons, List.all_nil, Bool.not_false, Bool.and_self, Bool.and_true]
theorem d119 (x : Int) : allData (a119 x) = true := by
  simp only [a119, push_cast]
def sh119 : Shp := .one (.leaf none)
noncomputable def t119 : List AV → Option AV := TL a119 fun x => bindO (F119 x) fun r => some (v119 r)
@[push_cast] theorem v119_eq (r : Bool) : v119 r = .bool r := rfl
/-! ## 120: quantale/quantaleref01.Wants -/
def H120 : Nat → Hint := fun i => [⟨[], [], []⟩].getD (i - 0) ⟨[], [], []⟩
@[push_cast] theorem H120_0 : H120 0 = ⟨[], [], []⟩ := rfl
def F120 (op : Int) : Option ((List Int) × Bool) :=
  iteO (op == 1)
  (some ([], true))
  (iteO (op == 2)
    (some ([], true))
    (iteO (op == 9)
      (some ([], true))
      (iteO (op == 30)
        (some ([], true))
        (iteO (op == 31)
          (some ([], true))
          (iteO (op == 6)
            (some ([1], true))
            (iteO (op == 7)
              (some ([1], true))
              (iteO (op == 10)
                (some ([1], true))
                (iteO (op == 4)
                  (some ([1, 1], true))
                  (iteO (op == 5)
                    (some ([1, 1], true))
                    (iteO (op == 38)
                      (some ([1, 1], true))
                      (iteO (op == 39)
                        (some ([1, 1], true))
                        (iteO (op == 11)
                          (some ([4, 4], true))
                          (iteO (op == 12)
                            (some ([4, 4], true))
                            (iteO (op == 13)
                              (some ([4, 4], true))
                              (iteO (op == 41)
                                (some ([4, 4], true))
                                (iteO (op == 40)
                                  (some ([1, 4], true))
                                  (iteO (op == 14)
                                    (some ([5, 1], true))
                                    (iteO (op == 15)
                                      (some ([5, 1, 1], true))
                                      (iteO (op == 16)
                                        (some ([5], true))
                                        (iteO (op == 32)
                                          (some ([2], true))
                                          (iteO (op == 33)
                                            (some ([2, 2], true))
                                            (iteO (op == 34)
                                              (some ([2, 2], true))
                                              (iteO (op == 35)
                                                (some ([2, 2], true))
                                                (iteO (op == 36)
                                                  (some ([2, 2], true))
                                                  (some ([], false))))))))))))))))))))))))))
def a120 (x : Int) : List AV := [.int .i64 x]
def v120 (r : (List Int) × Bool) : AV := .tuple [.sl false 1 (List.map (cI .i64) r.1), .bool r.2]
theorem i120 (x y : Int) (h : nzs (a120 x) = nzs (a120 y)) : x = y := by
  simp only [nzs, a120, List.map_cons, List.map_nil, nzV_agg, nzV_int, nzV_bool, nzV_str, nzV_sl, nzL_sl, List.cons.injEq, AV.agg.injEq, AV.int.injEq, AV.bool.injEq, AV.str.injEq, true_and, and_true, or_true] at h
  first | exact h | (obtain ⟨x1, x2⟩ := x; simp_all [Prod.ext_iff]) | simp_all [Prod.ext_iff]
theorem w120 (x : Int) : wks (a120 x) = true := by
  simp only [wks, a120, wkV, wkL, List.all_cons, List.all_nil, Bool.not_false, Bool.and_self, Bool.and_true]
theorem d120 (x : Int) : allData (a120 x) = true := by
  simp only [a120, push_cast]
def sh120 : Shp := .tup [.leaf (some 1), .leaf none]
noncomputable def t120 : List AV → Option AV := TL a120 fun x => bindO (F120 x) fun r => some (v120 r)
@[push_cast] theorem v120_eq (r : (List Int) × Bool) : v120 r = .tuple [.sl false 1 (List.map (cI .i64) r.1), .bool r.2] := rfl
/-! ## 72: quantale/quantaleref01.Sorted -/
def H72 : Nat → Hint := fun i => [⟨[1, 13, 14, 15], [1], []⟩, ⟨[], [1, 13, 14, 15], []⟩, ⟨[], [1], []⟩, ⟨[1, 121, 122, 123], [], []⟩, ⟨[], [1, 121, 122, 123], []⟩].getD (i - 0) ⟨[], [], []⟩
@[push_cast] theorem H72_0 : H72 0 = ⟨[1, 13, 14, 15], [1], []⟩ := rfl
@[push_cast] theorem H72_1 : H72 1 = ⟨[], [1, 13, 14, 15], []⟩ := rfl
@[push_cast] theorem H72_2 : H72 2 = ⟨[], [1], []⟩ := rfl
@[push_cast] theorem H72_3 : H72 3 = ⟨[1, 121, 122, 123], [], []⟩ := rfl
@[push_cast] theorem H72_4 : H72 4 = ⟨[], [1, 121, 122, 123], []⟩ := rfl
def F72_s1 (self72 : Node → Option (Bool)) (s4 : Unit) (i2 : Nat) (x3 : Node) : Option (Sum (Unit) (Bool)) :=
  bindO (self72 x3) fun r5 =>
  iteO r5
  (some (.inl ()))
  (some (.inr false))
def F72_s2 (N : Nat) (n : Node) (s23 : Unit) (i21 : Nat) (x22 : Int) : Option (Sum (Unit) (Bool)) :=
  bindO (atO n.kids (i21 : Int)) fun x24 =>
  bindO (F28 N x24) fun r25 =>
  iteO (r25 == x22)
  (some (.inl ()))
  (some (.inr false))
def F72_f2  (s23 : Unit) : Option (Bool) :=
  some true
def F72_f1 (N : Nat) (n : Node) (s4 : Unit) : Option (Bool) :=
  iteO (n.op == 3)
  (some (decide ((n.kids.length : Int) ≤ 8)))
  (iteO (n.op == 42)
    (iteO (decide ((n.kids.length : Int) ≥ 1))
      (some (decide ((n.kids.length : Int) ≤ 40)))
      (some false))
    (iteO (n.op == 37)
      (iteO ((n.kids.length : Int) == 2)
        (bindO (atO n.kids 0) fun x6 =>
          bindO (F28 N x6) fun r7 =>
          bindO (atO n.kids 1) fun x8 =>
          bindO (F28 N x8) fun r9 =>
          iteO (r7 == r9)
          (bindO (F28 N x6) fun r10 =>
            bindO (F119 r10) fun r11 =>
            some r11)
          (some false))
        (some false))
      (iteO (n.op == 8)
        (iteO ((n.kids.length : Int) == 3)
          (bindO (atO n.kids 0) fun x12 =>
            bindO (F28 N x12) fun r13 =>
            iteO (r13 == 2)
            (bindO (atO n.kids 1) fun x14 =>
              bindO (F28 N x14) fun r15 =>
              bindO (atO n.kids 2) fun x16 =>
              bindO (F28 N x16) fun r17 =>
              iteO (r15 == r17)
              (bindO (F28 N x14) fun r18 =>
                bindO (F119 r18) fun r19 =>
                some r19)
              (some false))
            (some false))
          (some false))
        (bindO (F120 n.op) fun r20 =>
          iteO r20.2
          (iteO ((r20.1.length : Int) == (n.kids.length : Int))
            (foldN (S := Unit) (F72_s2 N n) (F72_f2) N r20.1 0 ())
            (some false))
          (some false)))))
def F72b (self72 : Node → Option (Bool)) (N : Nat) (n : Node) : Option (Bool) :=
  bindO (F118 N n) fun r1 =>
  iteO r1
  (foldN (S := Unit) (F72_s1 self72) (F72_f1 N n) N n.kids 0 ())
  (some false)
def F72 : Nat → Node → Option (Bool)
  | 0 => fun _ => none
  | N + 1 => fun n => F72b (F72 N) N n
def a72 (x : Node) : List AV := [.agg (Node.cells x)]
def v72 (r : Bool) : AV := .bool r
theorem i72 (x y : Node) (h : nzs (a72 x) = nzs (a72 y)) : x = y := by
  simp only [nzs, a72, List.map_cons, List.map_nil, nzV_agg, nzV_int, nzV_bool, nzV_str, nzV_sl, nzL_sl, List.cons.injEq, AV.agg.injEq, AV.int.injEq, AV.bool.injEq, AV.str.injEq, true_and, and_true, or_true, Node.nz_iff] at h
  first | exact h | (obtain ⟨x1, x2⟩ := x; simp_all [Prod.ext_iff]) | simp_all [Prod.ext_iff]
theorem w72 (x : Node) : wks (a72 x) = true := by
  simp only [wks, a72, wkV, wkL, Node.wk, List.all_cons, List.all_nil, Bool.not_false, Bool.and_self, Bool.and_true]
theorem d72 (x : Node) : allData (a72 x) = true := by
  simp only [a72, push_cast]
def sh72 : Shp := .one (.leaf none)
noncomputable def t72 (N : Nat) : List AV → Option AV := TL a72 fun x => bindO (F72 N x) fun r => some (v72 r)
@[push_cast] theorem v72_eq (r : Bool) : v72 r = .bool r := rfl
noncomputable def ts72 (self72 : Node → Option (Bool)) : List AV → Option AV := TL a72 fun x => bindO (self72 x) fun r => some (v72 r)
@[push_cast] theorem t118_1 {N : Nat} (z1 : Int) (z2 : Int) (z3 : ByteArray) (z4 : Int) (z5 : List Node) : t118 N [.agg [.int .i64 z1, .int .i64 z2, .str z3, .int .i64 z4, .sl false 5 (List.map Node.cells z5)]] = bindO (F118 N (⟨z1, z2, z3, z4, z5⟩ : Node)) fun r => some (v118 r) :=
  TL_hit i118 (⟨z1, z2, z3, z4, z5⟩ : Node) (by first | (simp only [a118, push_cast]; done) | (simp only [a118, push_cast]; rfl))
@[push_cast] theorem t72_1 (self72 : Node → Option (Bool)) (z1 : Int) (z2 : Int) (z3 : ByteArray) (z4 : Int) (z5 : List Node) : ts72 self72 [.agg [.int .i64 z1, .int .i64 z2, .str z3, .int .i64 z4, .sl false 5 (List.map Node.cells z5)]] = bindO (self72 (⟨z1, z2, z3, z4, z5⟩ : Node)) fun r => some (v72 r) :=
  TL_hit i72 (⟨z1, z2, z3, z4, z5⟩ : Node) (by first | (simp only [a72, push_cast]; done) | (simp only [a72, push_cast]; rfl))
@[push_cast] theorem t28_2 {N : Nat} (z1 : Int) (z2 : Int) (z3 : ByteArray) (z4 : Int) (z5 : List Node) : t28 N [.agg [.int .i64 z1, .int .i64 z2, .str z3, .int .i64 z4, .sl false 5 (List.map Node.cells z5)]] = bindO (F28 N (⟨z1, z2, z3, z4, z5⟩ : Node)) fun r => some (v28 r) :=
  TL_hit i28 (⟨z1, z2, z3, z4, z5⟩ : Node) (by first | (simp only [a28, push_cast]; done) | (simp only [a28, push_cast]; rfl))
@[push_cast] theorem t119_1 (z1 : Int) : t119 [.int .i64 z1] = bindO (F119 z1) fun r => some (v119 r) :=
  TL_hit i119 z1 (by first | (simp only [a119, push_cast]; done) | (simp only [a119, push_cast]; rfl))
@[push_cast] theorem t120_1 (z1 : Int) : t120 [.int .i64 z1] = bindO (F120 z1) fun r => some (v120 r) :=
  TL_hit i120 z1 (by first | (simp only [a120, push_cast]; done) | (simp only [a120, push_cast]; rfl))
/-! ## 168: quantale/quantaleref01.ahead -/
def H168 : Nat → Hint := fun _ => ⟨[], [], []⟩
def F168 (a : Decl) (b : Decl) : Option (Bool) :=
  iteO (Op.bytesLess a.declName.toList b.declName.toList)
  (some true)
  (iteO (a.declName.toList == b.declName.toList)
    (some (decide (a.declSort < b.declSort)))
    (some false))
def a168 (x : Decl × Decl) : List AV := [.agg (Decl.cells x.1), .agg (Decl.cells x.2)]
def v168 (r : Bool) : AV := .bool r
theorem i168 (x y : Decl × Decl) (h : nzs (a168 x) = nzs (a168 y)) : x = y := by
  simp only [nzs, a168, List.map_cons, List.map_nil, nzV_agg, nzV_int, nzV_bool, nzV_str, nzV_sl, nzL_sl, List.cons.injEq, AV.agg.injEq, AV.int.injEq, AV.bool.injEq, AV.str.injEq, true_and, and_true, or_true, Decl.nz_iff] at h
  first | exact h | (obtain ⟨x1, x2⟩ := x; simp_all [Prod.ext_iff]) | simp_all [Prod.ext_iff]
theorem w168 (x : Decl × Decl) : wks (a168 x) = true := by
  simp only [wks, a168, wkV, wkL, Decl.wk, List.all_cons, List.all_nil, Bool.not_false, Bool.and_self, Bool.and_true]
theorem d168 (x : Decl × Decl) : allData (a168 x) = true := by
  simp only [a168, push_cast]
def sh168 : Shp := .one (.leaf none)
noncomputable def t168 : List AV → Option AV := TL a168 fun x => bindO (F168 x.1 x.2) fun r => some (v168 r)
@[push_cast] theorem v168_eq (r : Bool) : v168 r = .bool r := rfl
/-! ## 140: quantale/quantaleref01.putDecl -/
def H140 : Nat → Hint := fun i => [⟨[3, 5, 6, 9, 10, 11], [3, 5, 6], []⟩, ⟨[], [3, 5, 6, 9, 10, 11], []⟩].getD (i - 0) ⟨[], [], []⟩
@[push_cast] theorem H140_0 : H140 0 = ⟨[3, 5, 6, 9, 10, 11], [3, 5, 6], []⟩ := rfl
@[push_cast] theorem H140_1 : H140 1 = ⟨[], [3, 5, 6, 9, 10, 11], []⟩ := rfl
def F140_s1 (d : Decl) (s3 : (List Decl) × Bool) (i1 : Nat) (x2 : Decl) : Option (Sum ((List Decl) × Bool) (List Decl)) :=
  iteO ((x2.declName.toList == d.declName.toList) && (x2.declSort == d.declSort))
  (iteO (fits (s3.1.length + 1) 24)
    (some (.inl (s3.1 ++ ([x2]), true)))
    (none))
  (iteO s3.2
    (iteO (fits (s3.1.length + 1) 24)
      (some (.inl (s3.1 ++ ([x2]), s3.2)))
      (none))
    (bindO (F168 d x2) fun r4 =>
      iteO r4
      (iteO (fits (s3.1.length + 1) 24)
        (iteO (fits (s3.1.length + 1 + 1) 24)
          (some (.inl ((s3.1 ++ ([d])) ++ ([x2]), true)))
          (none))
        (none))
      (iteO (fits (s3.1.length + 1) 24)
        (some (.inl (s3.1 ++ ([x2]), s3.2)))
        (none))))
def F140_f1 (d : Decl) (s3 : (List Decl) × Bool) : Option (List Decl) :=
  iteO s3.2
  (some s3.1)
  (iteO (fits (s3.1.length + 1) 24)
    (some (s3.1 ++ ([d])))
    (none))
def F140 (N : Nat) (l : List Decl) (d : Decl) : Option (List Decl) :=
  foldN (S := (List Decl) × Bool) (F140_s1 d) (F140_f1 d) N l 0 ([], false)
def a140 (x : (List Decl) × Decl) : List AV := [.sl false 2 (List.map Decl.cells x.1), .agg (Decl.cells x.2)]
def v140 (r : List Decl) : AV := .sl false 2 (List.map Decl.cells r)
theorem i140 (x y : (List Decl) × Decl) (h : nzs (a140 x) = nzs (a140 y)) : x = y := by
  simp only [nzs, a140, List.map_cons, List.map_nil, nzV_agg, nzV_int, nzV_bool, nzV_str, nzV_sl, nzL_sl, List.cons.injEq, AV.agg.injEq, AV.int.injEq, AV.bool.injEq, AV.str.injEq, true_and, and_true, or_true, Decl.nz_iff, map_inj_iff Decl.cells_inj] at h
  first | exact h | (obtain ⟨x1, x2⟩ := x; simp_all [Prod.ext_iff]) | simp_all [Prod.ext_iff]
theorem w140 (x : (List Decl) × Decl) : wks (a140 x) = true := by
  simp only [wks, a140, wkV, wkL, Decl.wk, List.all_cons, List.all_nil, Bool.not_false, Bool.and_self, Bool.and_true]
theorem d140 (x : (List Decl) × Decl) : allData (a140 x) = true := by
  simp only [a140, push_cast]
def sh140 : Shp := .one (.leaf (some 2))
noncomputable def t140 (N : Nat) : List AV → Option AV := TL a140 fun x => bindO (F140 N x.1 x.2) fun r => some (v140 r)
@[push_cast] theorem v140_eq (r : List Decl) : v140 r = .sl false 2 (List.map Decl.cells r) := rfl
@[push_cast] theorem t168_1 (z1 : ByteArray) (z2 : Int) (z3 : ByteArray) (z4 : Int) : t168 [.agg [.str z1, .int .i64 z2], .agg [.str z3, .int .i64 z4]] = bindO (F168 (⟨z1, z2⟩ : Decl) (⟨z3, z4⟩ : Decl)) fun r => some (v168 r) :=
  TL_hit i168 ((⟨z1, z2⟩ : Decl), (⟨z3, z4⟩ : Decl)) (by first | (simp only [a168, push_cast]; done) | (simp only [a168, push_cast]; rfl))
/-! ## 95: quantale/quantaleref01.gather -/
def H95 : Nat → Hint := fun i => [⟨[0, 18, 19, 20], [0], []⟩, ⟨[], [0, 18, 19, 20], []⟩].getD (i - 0) ⟨[], [], []⟩
@[push_cast] theorem H95_0 : H95 0 = ⟨[0, 18, 19, 20], [0], []⟩ := rfl
@[push_cast] theorem H95_1 : H95 1 = ⟨[], [0, 18, 19, 20], []⟩ := rfl
def F95_s1 (self95 : (List Decl) → Node → Option (List Decl)) (s4 : List Decl) (i2 : Nat) (x3 : Node) : Option (Sum (List Decl) (List Decl)) :=
  bindO (self95 s4 x3) fun r5 =>
  some (.inl r5)
def F95_f1  (s4 : List Decl) : Option (List Decl) :=
  some s4
def F95_s2 (self95 : (List Decl) → Node → Option (List Decl)) (s8 : List Decl) (i6 : Nat) (x7 : Node) : Option (Sum (List Decl) (List Decl)) :=
  bindO (self95 s8 x7) fun r9 =>
  some (.inl r9)
def F95_f2  (s8 : List Decl) : Option (List Decl) :=
  some s8
def F95b (self95 : (List Decl) → Node → Option (List Decl)) (N : Nat) (l : List Decl) (n : Node) : Option (List Decl) :=
  iteO (n.op == 1)
  (bindO (F140 N l (⟨n.name, n.sortf⟩ : Decl)) fun r1 =>
    foldN (S := List Decl) (F95_s1 self95) (F95_f1) N n.kids 0 r1)
  (foldN (S := List Decl) (F95_s2 self95) (F95_f2) N n.kids 0 l)
def F95 : Nat → (List Decl) → Node → Option (List Decl)
  | 0 => fun _ _ => none
  | N + 1 => fun l n => F95b (F95 N) N l n
def a95 (x : (List Decl) × Node) : List AV := [.sl false 2 (List.map Decl.cells x.1), .agg (Node.cells x.2)]
def v95 (r : List Decl) : AV := .sl false 2 (List.map Decl.cells r)
theorem i95 (x y : (List Decl) × Node) (h : nzs (a95 x) = nzs (a95 y)) : x = y := by
  simp only [nzs, a95, List.map_cons, List.map_nil, nzV_agg, nzV_int, nzV_bool, nzV_str, nzV_sl, nzL_sl, List.cons.injEq, AV.agg.injEq, AV.int.injEq, AV.bool.injEq, AV.str.injEq, true_and, and_true, or_true, Node.nz_iff, map_inj_iff Decl.cells_inj] at h
  first | exact h | (obtain ⟨x1, x2⟩ := x; simp_all [Prod.ext_iff]) | simp_all [Prod.ext_iff]
theorem w95 (x : (List Decl) × Node) : wks (a95 x) = true := by
  simp only [wks, a95, wkV, wkL, Node.wk, List.all_cons, List.all_nil, Bool.not_false, Bool.and_self, Bool.and_true]
theorem d95 (x : (List Decl) × Node) : allData (a95 x) = true := by
  simp only [a95, push_cast]
def sh95 : Shp := .one (.leaf (some 2))
noncomputable def t95 (N : Nat) : List AV → Option AV := TL a95 fun x => bindO (F95 N x.1 x.2) fun r => some (v95 r)
@[push_cast] theorem v95_eq (r : List Decl) : v95 r = .sl false 2 (List.map Decl.cells r) := rfl
noncomputable def ts95 (self95 : (List Decl) → Node → Option (List Decl)) : List AV → Option AV := TL a95 fun x => bindO (self95 x.1 x.2) fun r => some (v95 r)
@[push_cast] theorem t140_1 {N : Nat} (z1 : List Decl) (z2 : ByteArray) (z3 : Int) : t140 N [.sl false 2 (List.map Decl.cells z1), .agg [.str z2, .int .i64 z3]] = bindO (F140 N z1 (⟨z2, z3⟩ : Decl)) fun r => some (v140 r) :=
  TL_hit i140 (z1, (⟨z2, z3⟩ : Decl)) (by first | (simp only [a140, push_cast]; done) | (simp only [a140, push_cast]; rfl))
@[push_cast] theorem t95_1 (self95 : (List Decl) → Node → Option (List Decl)) (z1 : List Decl) (z2 : Int) (z3 : Int) (z4 : ByteArray) (z5 : Int) (z6 : List Node) : ts95 self95 [.sl false 2 (List.map Decl.cells z1), .agg [.int .i64 z2, .int .i64 z3, .str z4, .int .i64 z5, .sl false 5 (List.map Node.cells z6)]] = bindO (self95 z1 (⟨z2, z3, z4, z5, z6⟩ : Node)) fun r => some (v95 r) :=
  TL_hit i95 (z1, (⟨z2, z3, z4, z5, z6⟩ : Node)) (by first | (simp only [a95, push_cast]; done) | (simp only [a95, push_cast]; rfl))
/-! ## 47: quantale/quantaleref01.Vars -/
def H47 : Nat → Hint := fun _ => ⟨[], [], []⟩
def F47 (N : Nat) (n : Node) : Option (List Decl) :=
  bindO (F95 N ([]) n) fun r1 =>
  some r1
def a47 (x : Node) : List AV := [.agg (Node.cells x)]
def v47 (r : List Decl) : AV := .sl false 2 (List.map Decl.cells r)
theorem i47 (x y : Node) (h : nzs (a47 x) = nzs (a47 y)) : x = y := by
  simp only [nzs, a47, List.map_cons, List.map_nil, nzV_agg, nzV_int, nzV_bool, nzV_str, nzV_sl, nzL_sl, List.cons.injEq, AV.agg.injEq, AV.int.injEq, AV.bool.injEq, AV.str.injEq, true_and, and_true, or_true, Node.nz_iff] at h
  first | exact h | (obtain ⟨x1, x2⟩ := x; simp_all [Prod.ext_iff]) | simp_all [Prod.ext_iff]
theorem w47 (x : Node) : wks (a47 x) = true := by
  simp only [wks, a47, wkV, wkL, Node.wk, List.all_cons, List.all_nil, Bool.not_false, Bool.and_self, Bool.and_true]
theorem d47 (x : Node) : allData (a47 x) = true := by
  simp only [a47, push_cast]
def sh47 : Shp := .one (.leaf (some 2))
noncomputable def t47 (N : Nat) : List AV → Option AV := TL a47 fun x => bindO (F47 N x) fun r => some (v47 r)
@[push_cast] theorem v47_eq (r : List Decl) : v47 r = .sl false 2 (List.map Decl.cells r) := rfl
@[push_cast] theorem t95_2 {N : Nat} (z2 : Int) (z3 : Int) (z4 : ByteArray) (z5 : Int) (z6 : List Node) : t95 N [.sl true 0 [], .agg [.int .i64 z2, .int .i64 z3, .str z4, .int .i64 z5, .sl false 5 (List.map Node.cells z6)]] = bindO (F95 N ([]) (⟨z2, z3, z4, z5, z6⟩ : Node)) fun r => some (v95 r) :=
  TL_hit i95 ([], (⟨z2, z3, z4, z5, z6⟩ : Node)) (by first | (simp only [a95, push_cast]; done) | (simp only [a95, push_cast]; rfl))
@[push_cast] theorem t95_3 {N : Nat} (z2 : Int) (z3 : Int) (z4 : ByteArray) (z5 : Int) (z6 : List Node) : t95 N [.sl false 0 [], .agg [.int .i64 z2, .int .i64 z3, .str z4, .int .i64 z5, .sl false 5 (List.map Node.cells z6)]] = bindO (F95 N ([]) (⟨z2, z3, z4, z5, z6⟩ : Node)) fun r => some (v95 r) :=
  TL_hit i95 ([], (⟨z2, z3, z4, z5, z6⟩ : Node)) (by first | (simp only [a95, push_cast]; done) | (simp only [a95, push_cast]; rfl))
/-! ## 92: quantale/quantaleref01.constant -/
def H92 : Nat → Hint := fun i => [⟨[1, 23, 24, 25], [], []⟩, ⟨[], [1, 23, 24, 25], []⟩].getD (i - 0) ⟨[], [], []⟩
@[push_cast] theorem H92_0 : H92 0 = ⟨[1, 23, 24, 25], [], []⟩ := rfl
@[push_cast] theorem H92_1 : H92 1 = ⟨[], [1, 23, 24, 25], []⟩ := rfl
def F92_s1 (self92 : Node → ByteArray → Option (Bool)) (name : ByteArray) (s3 : Unit) (i1 : Nat) (x2 : Node) : Option (Sum (Unit) (Bool)) :=
  bindO (self92 x2 name) fun r4 =>
  iteO r4
  (some (.inr true))
  (some (.inl ()))
def F92_f1  (s3 : Unit) : Option (Bool) :=
  some false
def F92_s2 (self92 : Node → ByteArray → Option (Bool)) (name : ByteArray) (s7 : Unit) (i5 : Nat) (x6 : Node) : Option (Sum (Unit) (Bool)) :=
  bindO (self92 x6 name) fun r8 =>
  iteO r8
  (some (.inr true))
  (some (.inl ()))
def F92_f2  (s7 : Unit) : Option (Bool) :=
  some false
def F92_s3 (self92 : Node → ByteArray → Option (Bool)) (name : ByteArray) (s11 : Unit) (i9 : Nat) (x10 : Node) : Option (Sum (Unit) (Bool)) :=
  bindO (self92 x10 name) fun r12 =>
  iteO r12
  (some (.inr true))
  (some (.inl ()))
def F92_f3  (s11 : Unit) : Option (Bool) :=
  some false
def F92b (self92 : Node → ByteArray → Option (Bool)) (N : Nat) (n : Node) (name : ByteArray) : Option (Bool) :=
  iteO (n.op == 3)
  (iteO (n.name.toList == name.toList)
    (iteO ((n.kids.length : Int) == 0)
      (some true)
      (foldN (S := Unit) (F92_s1 self92 name) (F92_f1) N n.kids 0 ()))
    (foldN (S := Unit) (F92_s2 self92 name) (F92_f2) N n.kids 0 ()))
  (foldN (S := Unit) (F92_s3 self92 name) (F92_f3) N n.kids 0 ())
def F92 : Nat → Node → ByteArray → Option (Bool)
  | 0 => fun _ _ => none
  | N + 1 => fun n name => F92b (F92 N) N n name
def a92 (x : Node × ByteArray) : List AV := [.agg (Node.cells x.1), .str x.2]
def v92 (r : Bool) : AV := .bool r
theorem i92 (x y : Node × ByteArray) (h : nzs (a92 x) = nzs (a92 y)) : x = y := by
  simp only [nzs, a92, List.map_cons, List.map_nil, nzV_agg, nzV_int, nzV_bool, nzV_str, nzV_sl, nzL_sl, List.cons.injEq, AV.agg.injEq, AV.int.injEq, AV.bool.injEq, AV.str.injEq, true_and, and_true, or_true, Node.nz_iff] at h
  first | exact h | (obtain ⟨x1, x2⟩ := x; simp_all [Prod.ext_iff]) | simp_all [Prod.ext_iff]
theorem w92 (x : Node × ByteArray) : wks (a92 x) = true := by
  simp only [wks, a92, wkV, wkL, Node.wk, List.all_cons, List.all_nil, Bool.not_false, Bool.and_self, Bool.and_true]
theorem d92 (x : Node × ByteArray) : allData (a92 x) = true := by
  simp only [a92, push_cast]
def sh92 : Shp := .one (.leaf none)
noncomputable def t92 (N : Nat) : List AV → Option AV := TL a92 fun x => bindO (F92 N x.1 x.2) fun r => some (v92 r)
@[push_cast] theorem v92_eq (r : Bool) : v92 r = .bool r := rfl
noncomputable def ts92 (self92 : Node → ByteArray → Option (Bool)) : List AV → Option AV := TL a92 fun x => bindO (self92 x.1 x.2) fun r => some (v92 r)
@[push_cast] theorem t92_1 (self92 : Node → ByteArray → Option (Bool)) (z1 : Int) (z2 : Int) (z3 : ByteArray) (z4 : Int) (z5 : List Node) (z6 : ByteArray) : ts92 self92 [.agg [.int .i64 z1, .int .i64 z2, .str z3, .int .i64 z4, .sl false 5 (List.map Node.cells z5)], .str z6] = bindO (self92 (⟨z1, z2, z3, z4, z5⟩ : Node) z6) fun r => some (v92 r) :=
  TL_hit i92 ((⟨z1, z2, z3, z4, z5⟩ : Node), z6) (by first | (simp only [a92, push_cast]; done) | (simp only [a92, push_cast]; rfl))
/-! ## 41: quantale/quantaleref01.Uniform -/
def H41 : Nat → Hint := fun i => [⟨[1, 3, 4], [1, 3], []⟩, ⟨[], [1, 3, 4], []⟩, ⟨[1, 27, 28, 29], [], []⟩, ⟨[], [1, 27, 28, 29], []⟩].getD (i - 0) ⟨[], [], []⟩
@[push_cast] theorem H41_0 : H41 0 = ⟨[1, 3, 4], [1, 3], []⟩ := rfl
@[push_cast] theorem H41_1 : H41 1 = ⟨[], [1, 3, 4], []⟩ := rfl
@[push_cast] theorem H41_2 : H41 2 = ⟨[1, 27, 28, 29], [], []⟩ := rfl
@[push_cast] theorem H41_3 : H41 3 = ⟨[], [1, 27, 28, 29], []⟩ := rfl
def F41_s2 (N : Nat) (n : Node) (s7 : Unit) (i5 : Nat) (x6 : Decl) : Option (Sum (Unit) (Bool)) :=
  bindO (F92 N n x6.declName) fun r8 =>
  iteO r8
  (some (.inr false))
  (some (.inl ()))
def F41_f2  (s7 : Unit) : Option (Bool) :=
  some true
def F41_s1 (N : Nat) (n : Node) (r1 : List Decl) (s2 : Int) : Option (Sum (Int) (Bool)) :=
  iteO (decide (s2 < (r1.length : Int)))
  (bindO (atO r1 (IntKind.i64.wrap (s2 - 1))) fun x3 =>
    bindO (atO r1 s2) fun x4 =>
    iteO (x3.declName.toList == x4.declName.toList)
    (some (.inr false))
    (some (.inl (IntKind.i64.wrap (s2 + 1)))))
  (bindO (foldN (S := Unit) (F41_s2 N n) (F41_f2) N r1 0 ()) fun yy => some (.inr yy))
def F41 (N : Nat) (n : Node) : Option (Bool) :=
  bindO (F47 N n) fun r1 =>
  whileN (S := Int) (F41_s1 N n r1) N 1
def a41 (x : Node) : List AV := [.agg (Node.cells x)]
def v41 (r : Bool) : AV := .bool r
theorem i41 (x y : Node) (h : nzs (a41 x) = nzs (a41 y)) : x = y := by
  simp only [nzs, a41, List.map_cons, List.map_nil, nzV_agg, nzV_int, nzV_bool, nzV_str, nzV_sl, nzL_sl, List.cons.injEq, AV.agg.injEq, AV.int.injEq, AV.bool.injEq, AV.str.injEq, true_and, and_true, or_true, Node.nz_iff] at h
  first | exact h | (obtain ⟨x1, x2⟩ := x; simp_all [Prod.ext_iff]) | simp_all [Prod.ext_iff]
theorem w41 (x : Node) : wks (a41 x) = true := by
  simp only [wks, a41, wkV, wkL, Node.wk, List.all_cons, List.all_nil, Bool.not_false, Bool.and_self, Bool.and_true]
theorem d41 (x : Node) : allData (a41 x) = true := by
  simp only [a41, push_cast]
def sh41 : Shp := .one (.leaf none)
noncomputable def t41 (N : Nat) : List AV → Option AV := TL a41 fun x => bindO (F41 N x) fun r => some (v41 r)
@[push_cast] theorem v41_eq (r : Bool) : v41 r = .bool r := rfl
@[push_cast] theorem t47_1 {N : Nat} (z1 : Int) (z2 : Int) (z3 : ByteArray) (z4 : Int) (z5 : List Node) : t47 N [.agg [.int .i64 z1, .int .i64 z2, .str z3, .int .i64 z4, .sl false 5 (List.map Node.cells z5)]] = bindO (F47 N (⟨z1, z2, z3, z4, z5⟩ : Node)) fun r => some (v47 r) :=
  TL_hit i47 (⟨z1, z2, z3, z4, z5⟩ : Node) (by first | (simp only [a47, push_cast]; done) | (simp only [a47, push_cast]; rfl))
@[push_cast] theorem t92_2 {N : Nat} (z1 : Int) (z2 : Int) (z3 : ByteArray) (z4 : Int) (z5 : List Node) (z6 : ByteArray) : t92 N [.agg [.int .i64 z1, .int .i64 z2, .str z3, .int .i64 z4, .sl false 5 (List.map Node.cells z5)], .str z6] = bindO (F92 N (⟨z1, z2, z3, z4, z5⟩ : Node) z6) fun r => some (v92 r) :=
  TL_hit i92 ((⟨z1, z2, z3, z4, z5⟩ : Node), z6) (by first | (simp only [a92, push_cast]; done) | (simp only [a92, push_cast]; rfl))
/-! ## 15: quantale/quantaleref01.Check -/
def H15 : Nat → Hint := fun i => [⟨[], [], []⟩].getD (i - 0) ⟨[], [], []⟩
@[push_cast] theorem H15_0 : H15 0 = ⟨[], [], []⟩ := rfl
def F15 (N : Nat) (n : Node) (sortq : Int) : Option (Int) :=
  iteO (decide (sortq < 0))
  (some 1)
  (iteO (decide (sortq > 5))
    (some 1)
    (bindO (F27 N n) fun r1 =>
      iteO (decide (r1 > 4000))
      (some 2)
      (bindO (F39 N n) fun r2 =>
        iteO (decide (r2 > 100))
        (some 2)
        (bindO (F72 N n) fun r3 =>
          iteO r3
          (bindO (F41 N n) fun r4 =>
            iteO r4
            (iteO (sortq == 0)
              (some 0)
              (bindO (F28 N n) fun r5 =>
                iteO (r5 == sortq)
                (some 0)
                (some 10)))
            (some 3))
          (some 3)))))
def a15 (x : Node × Int) : List AV := [.agg (Node.cells x.1), .int .i64 x.2]
def v15 (r : Int) : AV := .int .i64 r
theorem i15 (x y : Node × Int) (h : nzs (a15 x) = nzs (a15 y)) : x = y := by
  simp only [nzs, a15, List.map_cons, List.map_nil, nzV_agg, nzV_int, nzV_bool, nzV_str, nzV_sl, nzL_sl, List.cons.injEq, AV.agg.injEq, AV.int.injEq, AV.bool.injEq, AV.str.injEq, true_and, and_true, or_true, Node.nz_iff] at h
  first | exact h | (obtain ⟨x1, x2⟩ := x; simp_all [Prod.ext_iff]) | simp_all [Prod.ext_iff]
theorem w15 (x : Node × Int) : wks (a15 x) = true := by
  simp only [wks, a15, wkV, wkL, Node.wk, List.all_cons, List.all_nil, Bool.not_false, Bool.and_self, Bool.and_true]
theorem d15 (x : Node × Int) : allData (a15 x) = true := by
  simp only [a15, push_cast]
def sh15 : Shp := .one (.leaf none)
noncomputable def t15 (N : Nat) : List AV → Option AV := TL a15 fun x => bindO (F15 N x.1 x.2) fun r => some (v15 r)
@[push_cast] theorem v15_eq (r : Int) : v15 r = .int .i64 r := rfl
@[push_cast] theorem t39_2 {N : Nat} (z1 : Int) (z2 : Int) (z3 : ByteArray) (z4 : Int) (z5 : List Node) : t39 N [.agg [.int .i64 z1, .int .i64 z2, .str z3, .int .i64 z4, .sl false 5 (List.map Node.cells z5)]] = bindO (F39 N (⟨z1, z2, z3, z4, z5⟩ : Node)) fun r => some (v39 r) :=
  TL_hit i39 (⟨z1, z2, z3, z4, z5⟩ : Node) (by first | (simp only [a39, push_cast]; done) | (simp only [a39, push_cast]; rfl))
@[push_cast] theorem t72_2 {N : Nat} (z1 : Int) (z2 : Int) (z3 : ByteArray) (z4 : Int) (z5 : List Node) : t72 N [.agg [.int .i64 z1, .int .i64 z2, .str z3, .int .i64 z4, .sl false 5 (List.map Node.cells z5)]] = bindO (F72 N (⟨z1, z2, z3, z4, z5⟩ : Node)) fun r => some (v72 r) :=
  TL_hit i72 (⟨z1, z2, z3, z4, z5⟩ : Node) (by first | (simp only [a72, push_cast]; done) | (simp only [a72, push_cast]; rfl))
@[push_cast] theorem t41_1 {N : Nat} (z1 : Int) (z2 : Int) (z3 : ByteArray) (z4 : Int) (z5 : List Node) : t41 N [.agg [.int .i64 z1, .int .i64 z2, .str z3, .int .i64 z4, .sl false 5 (List.map Node.cells z5)]] = bindO (F41 N (⟨z1, z2, z3, z4, z5⟩ : Node)) fun r => some (v41 r) :=
  TL_hit i41 (⟨z1, z2, z3, z4, z5⟩ : Node) (by first | (simp only [a41, push_cast]; done) | (simp only [a41, push_cast]; rfl))
/-! ## 63: quantale/quantaleref04.Atom -/
def H63 : Nat → Hint := fun i => [⟨[], [1], []⟩].getD (i - 0) ⟨[], [], []⟩
@[push_cast] theorem H63_0 : H63 0 = ⟨[], [1], []⟩ := rfl
def F63 (N : Nat) (n : Node) : Option (Bool) :=
  iteO (n.op == 2)
  (some false)
  (iteO (n.op == 4)
    (some false)
    (iteO (n.op == 5)
      (some false)
      (iteO (n.op == 6)
        (some false)
        (iteO (n.op == 7)
          (some false)
          (bindO (F28 N n) fun r1 =>
            bindO (F15 N n 0) fun r2 =>
            iteO (r2 == 0)
            (iteO (r1 == 1)
              (some true)
              (some (r1 == 3)))
            (some false))))))
def a63 (x : Node) : List AV := [.agg (Node.cells x)]
def v63 (r : Bool) : AV := .bool r
theorem i63 (x y : Node) (h : nzs (a63 x) = nzs (a63 y)) : x = y := by
  simp only [nzs, a63, List.map_cons, List.map_nil, nzV_agg, nzV_int, nzV_bool, nzV_str, nzV_sl, nzL_sl, List.cons.injEq, AV.agg.injEq, AV.int.injEq, AV.bool.injEq, AV.str.injEq, true_and, and_true, or_true, Node.nz_iff] at h
  first | exact h | (obtain ⟨x1, x2⟩ := x; simp_all [Prod.ext_iff]) | simp_all [Prod.ext_iff]
theorem w63 (x : Node) : wks (a63 x) = true := by
  simp only [wks, a63, wkV, wkL, Node.wk, List.all_cons, List.all_nil, Bool.not_false, Bool.and_self, Bool.and_true]
theorem d63 (x : Node) : allData (a63 x) = true := by
  simp only [a63, push_cast]
def sh63 : Shp := .one (.leaf none)
noncomputable def t63 (N : Nat) : List AV → Option AV := TL a63 fun x => bindO (F63 N x) fun r => some (v63 r)
@[push_cast] theorem v63_eq (r : Bool) : v63 r = .bool r := rfl
@[push_cast] theorem t15_1 {N : Nat} (z1 : Int) (z2 : Int) (z3 : ByteArray) (z4 : Int) (z5 : List Node) (z6 : Int) : t15 N [.agg [.int .i64 z1, .int .i64 z2, .str z3, .int .i64 z4, .sl false 5 (List.map Node.cells z5)], .int .i64 z6] = bindO (F15 N (⟨z1, z2, z3, z4, z5⟩ : Node) z6) fun r => some (v15 r) :=
  TL_hit i15 ((⟨z1, z2, z3, z4, z5⟩ : Node), z6) (by first | (simp only [a15, push_cast]; done) | (simp only [a15, push_cast]; rfl))
/-! ## 81: quantale/quantaleref01.sign -/
def H81 : Nat → Hint := fun _ => ⟨[], [], []⟩
def F81 (a : Int) (b : Int) : Option (Int) :=
  iteO (decide (a < b))
  (some (-1))
  (iteO (decide (a > b))
    (some 1)
    (some 0))
def a81 (x : Int × Int) : List AV := [.int .i64 x.1, .int .i64 x.2]
def v81 (r : Int) : AV := .int .i64 r
theorem i81 (x y : Int × Int) (h : nzs (a81 x) = nzs (a81 y)) : x = y := by
  simp only [nzs, a81, List.map_cons, List.map_nil, nzV_agg, nzV_int, nzV_bool, nzV_str, nzV_sl, nzL_sl, List.cons.injEq, AV.agg.injEq, AV.int.injEq, AV.bool.injEq, AV.str.injEq, true_and, and_true, or_true] at h
  first | exact h | (obtain ⟨x1, x2⟩ := x; simp_all [Prod.ext_iff]) | simp_all [Prod.ext_iff]
theorem w81 (x : Int × Int) : wks (a81 x) = true := by
  simp only [wks, a81, wkV, wkL, List.all_cons, List.all_nil, Bool.not_false, Bool.and_self, Bool.and_true]
theorem d81 (x : Int × Int) : allData (a81 x) = true := by
  simp only [a81, push_cast]
def sh81 : Shp := .one (.leaf none)
noncomputable def t81 : List AV → Option AV := TL a81 fun x => bindO (F81 x.1 x.2) fun r => some (v81 r)
@[push_cast] theorem v81_eq (r : Int) : v81 r = .int .i64 r := rfl
/-! ## 19: quantale/quantaleref01.Compare -/
def H19 : Nat → Hint := fun i => [⟨[2, 3, 5, 6], [5], []⟩, ⟨[], [2, 3, 5, 6], []⟩].getD (i - 0) ⟨[], [], []⟩
@[push_cast] theorem H19_0 : H19 0 = ⟨[2, 3, 5, 6], [5], []⟩ := rfl
@[push_cast] theorem H19_1 : H19 1 = ⟨[], [2, 3, 5, 6], []⟩ := rfl
def F19_s1  (s3 : Unit) : Option (Sum (Unit) (Int)) :=
  some (.inr (-1))
def F19_s3 (self19 : Node → Node → Option (Int)) (a : Node) (b : Node) (s7 : Int × Int) : Option (Sum (Int × Int) (Int)) :=
  iteO (s7.1 == 0)
  (iteO (decide (s7.2 < (a.kids.length : Int)))
    (bindO (atO a.kids s7.2) fun x8 =>
      bindO (atO b.kids s7.2) fun x9 =>
      bindO (self19 x8 x9) fun r10 =>
      some (.inl (r10, IntKind.i64.wrap (s7.2 + 1))))
    (some (.inr s7.1)))
  (some (.inr s7.1))
def F19_s4 (r5 : Int) (s11 : Unit) : Option (Sum (Unit) (Int)) :=
  some (.inr r5)
def F19_s2  (s4 : Unit) : Option (Sum (Unit) (Int)) :=
  some (.inr 1)
def F19_s5 (r2 : Int) (s12 : Unit) : Option (Sum (Unit) (Int)) :=
  some (.inr r2)
def F19_s6 (r1 : Int) (s13 : Unit) : Option (Sum (Unit) (Int)) :=
  some (.inr r1)
def F19b (self19 : Node → Node → Option (Int)) (N : Nat) (a : Node) (b : Node) : Option (Int) :=
  bindO (F81 a.op b.op) fun r1 =>
  iteO (r1 == 0)
  (bindO (F81 a.sortf b.sortf) fun r2 =>
    iteO (r2 == 0)
    (iteO (Op.bytesLess a.name.toList b.name.toList)
      (whileN (S := Unit) (F19_s1) N ())
      (iteO (Op.bytesLess a.name.toList b.name.toList || a.name.toList == b.name.toList)
        (bindO (F81 a.num b.num) fun r5 =>
          iteO (r5 == 0)
          (bindO (F81 (a.kids.length : Int) (b.kids.length : Int)) fun r6 =>
            whileN (S := Int × Int) (F19_s3 self19 a b) N (r6, 0))
          (whileN (S := Unit) (F19_s4 r5) N ()))
        (whileN (S := Unit) (F19_s2) N ())))
    (whileN (S := Unit) (F19_s5 r2) N ()))
  (whileN (S := Unit) (F19_s6 r1) N ())
def F19 : Nat → Node → Node → Option (Int)
  | 0 => fun _ _ => none
  | N + 1 => fun a b => F19b (F19 N) N a b
def a19 (x : Node × Node) : List AV := [.agg (Node.cells x.1), .agg (Node.cells x.2)]
def v19 (r : Int) : AV := .int .i64 r
theorem i19 (x y : Node × Node) (h : nzs (a19 x) = nzs (a19 y)) : x = y := by
  simp only [nzs, a19, List.map_cons, List.map_nil, nzV_agg, nzV_int, nzV_bool, nzV_str, nzV_sl, nzL_sl, List.cons.injEq, AV.agg.injEq, AV.int.injEq, AV.bool.injEq, AV.str.injEq, true_and, and_true, or_true, Node.nz_iff] at h
  first | exact h | (obtain ⟨x1, x2⟩ := x; simp_all [Prod.ext_iff]) | simp_all [Prod.ext_iff]
theorem w19 (x : Node × Node) : wks (a19 x) = true := by
  simp only [wks, a19, wkV, wkL, Node.wk, List.all_cons, List.all_nil, Bool.not_false, Bool.and_self, Bool.and_true]
theorem d19 (x : Node × Node) : allData (a19 x) = true := by
  simp only [a19, push_cast]
def sh19 : Shp := .one (.leaf none)
noncomputable def t19 (N : Nat) : List AV → Option AV := TL a19 fun x => bindO (F19 N x.1 x.2) fun r => some (v19 r)
@[push_cast] theorem v19_eq (r : Int) : v19 r = .int .i64 r := rfl
noncomputable def ts19 (self19 : Node → Node → Option (Int)) : List AV → Option AV := TL a19 fun x => bindO (self19 x.1 x.2) fun r => some (v19 r)
@[push_cast] theorem t81_1 (z1 : Int) (z2 : Int) : t81 [.int .i64 z1, .int .i64 z2] = bindO (F81 z1 z2) fun r => some (v81 r) :=
  TL_hit i81 (z1, z2) (by first | (simp only [a81, push_cast]; done) | (simp only [a81, push_cast]; rfl))
@[push_cast] theorem t19_1 (self19 : Node → Node → Option (Int)) (z1 : Int) (z2 : Int) (z3 : ByteArray) (z4 : Int) (z5 : List Node) (z6 : Int) (z7 : Int) (z8 : ByteArray) (z9 : Int) (z10 : List Node) : ts19 self19 [.agg [.int .i64 z1, .int .i64 z2, .str z3, .int .i64 z4, .sl false 5 (List.map Node.cells z5)], .agg [.int .i64 z6, .int .i64 z7, .str z8, .int .i64 z9, .sl false 5 (List.map Node.cells z10)]] = bindO (self19 (⟨z1, z2, z3, z4, z5⟩ : Node) (⟨z6, z7, z8, z9, z10⟩ : Node)) fun r => some (v19 r) :=
  TL_hit i19 ((⟨z1, z2, z3, z4, z5⟩ : Node), (⟨z6, z7, z8, z9, z10⟩ : Node)) (by first | (simp only [a19, push_cast]; done) | (simp only [a19, push_cast]; rfl))
/-! ## 89: quantale/quantaleref04.Valid -/
def H89 : Nat → Hint := fun i => [⟨[1, 6, 7, 8], [1], []⟩, ⟨[], [1, 6, 7, 8], []⟩].getD (i - 0) ⟨[], [], []⟩
@[push_cast] theorem H89_0 : H89 0 = ⟨[1, 6, 7, 8], [1], []⟩ := rfl
@[push_cast] theorem H89_1 : H89 1 = ⟨[], [1, 6, 7, 8], []⟩ := rfl
def F89_s1 (N : Nat) (f : Lin) (s3 : Unit) (i1 : Nat) (x2 : Mono) : Option (Sum (Unit) (Bool)) :=
  iteO (x2.monoCoef == 0)
  (some (.inr false))
  (bindO (F130 x2.monoCoef) fun r4 =>
    iteO r4
    (bindO (F63 N x2.monoAtom) fun r5 =>
      iteO r5
      (iteO (decide ((i1 : Int) > 0))
        (bindO (atO f.linMonos (IntKind.i64.wrap ((i1 : Int) - 1))) fun x6 =>
          bindO (F19 N x6.monoAtom x2.monoAtom) fun r7 =>
          iteO (decide (r7 ≥ 0))
          (some (.inr false))
          (some (.inl ())))
        (some (.inl ())))
      (some (.inr false)))
    (some (.inr false)))
def F89_f1 (f : Lin) (s3 : Unit) : Option (Bool) :=
  bindO (F130 f.linConst) fun r8 =>
  some r8
def F89 (N : Nat) (f : Lin) : Option (Bool) :=
  foldN (S := Unit) (F89_s1 N f) (F89_f1 f) N f.linMonos 0 ()
def a89 (x : Lin) : List AV := [.agg (Lin.cells x)]
def v89 (r : Bool) : AV := .bool r
theorem i89 (x y : Lin) (h : nzs (a89 x) = nzs (a89 y)) : x = y := by
  simp only [nzs, a89, List.map_cons, List.map_nil, nzV_agg, nzV_int, nzV_bool, nzV_str, nzV_sl, nzL_sl, List.cons.injEq, AV.agg.injEq, AV.int.injEq, AV.bool.injEq, AV.str.injEq, true_and, and_true, or_true, Lin.nz_iff] at h
  first | exact h | (obtain ⟨x1, x2⟩ := x; simp_all [Prod.ext_iff]) | simp_all [Prod.ext_iff]
theorem w89 (x : Lin) : wks (a89 x) = true := by
  simp only [wks, a89, wkV, wkL, Lin.wk, List.all_cons, List.all_nil, Bool.not_false, Bool.and_self, Bool.and_true]
theorem d89 (x : Lin) : allData (a89 x) = true := by
  simp only [a89, push_cast]
def sh89 : Shp := .one (.leaf none)
noncomputable def t89 (N : Nat) : List AV → Option AV := TL a89 fun x => bindO (F89 N x) fun r => some (v89 r)
@[push_cast] theorem v89_eq (r : Bool) : v89 r = .bool r := rfl
@[push_cast] theorem t130_1 (z1 : Int) : t130 [.int .i64 z1] = bindO (F130 z1) fun r => some (v130 r) :=
  TL_hit i130 z1 (by first | (simp only [a130, push_cast]; done) | (simp only [a130, push_cast]; rfl))
@[push_cast] theorem t63_1 {N : Nat} (z1 : Int) (z2 : Int) (z3 : ByteArray) (z4 : Int) (z5 : List Node) : t63 N [.agg [.int .i64 z1, .int .i64 z2, .str z3, .int .i64 z4, .sl false 5 (List.map Node.cells z5)]] = bindO (F63 N (⟨z1, z2, z3, z4, z5⟩ : Node)) fun r => some (v63 r) :=
  TL_hit i63 (⟨z1, z2, z3, z4, z5⟩ : Node) (by first | (simp only [a63, push_cast]; done) | (simp only [a63, push_cast]; rfl))
@[push_cast] theorem t19_2 {N : Nat} (z1 : Int) (z2 : Int) (z3 : ByteArray) (z4 : Int) (z5 : List Node) (z6 : Int) (z7 : Int) (z8 : ByteArray) (z9 : Int) (z10 : List Node) : t19 N [.agg [.int .i64 z1, .int .i64 z2, .str z3, .int .i64 z4, .sl false 5 (List.map Node.cells z5)], .agg [.int .i64 z6, .int .i64 z7, .str z8, .int .i64 z9, .sl false 5 (List.map Node.cells z10)]] = bindO (F19 N (⟨z1, z2, z3, z4, z5⟩ : Node) (⟨z6, z7, z8, z9, z10⟩ : Node)) fun r => some (v19 r) :=
  TL_hit i19 ((⟨z1, z2, z3, z4, z5⟩ : Node), (⟨z6, z7, z8, z9, z10⟩ : Node)) (by first | (simp only [a19, push_cast]; done) | (simp only [a19, push_cast]; rfl))
/-! ## 109: quantale/quantaleref04.ValidCon -/
def H109 : Nat → Hint := fun _ => ⟨[], [], []⟩
def F109 (N : Nat) (c : Con) : Option (Bool) :=
  iteO (c.conRel == 0)
  (bindO (F89 N c.conForm) fun r2 =>
    some r2)
  (iteO (c.conRel == 1)
    (bindO (F89 N c.conForm) fun r1 =>
      some r1)
    (some false))
def a109 (x : Con) : List AV := [.agg (Con.cells x)]
def v109 (r : Bool) : AV := .bool r
theorem i109 (x y : Con) (h : nzs (a109 x) = nzs (a109 y)) : x = y := by
  simp only [nzs, a109, List.map_cons, List.map_nil, nzV_agg, nzV_int, nzV_bool, nzV_str, nzV_sl, nzL_sl, List.cons.injEq, AV.agg.injEq, AV.int.injEq, AV.bool.injEq, AV.str.injEq, true_and, and_true, or_true, Con.nz_iff] at h
  first | exact h | (obtain ⟨x1, x2⟩ := x; simp_all [Prod.ext_iff]) | simp_all [Prod.ext_iff]
theorem w109 (x : Con) : wks (a109 x) = true := by
  simp only [wks, a109, wkV, wkL, Con.wk, List.all_cons, List.all_nil, Bool.not_false, Bool.and_self, Bool.and_true]
theorem d109 (x : Con) : allData (a109 x) = true := by
  simp only [a109, push_cast]
def sh109 : Shp := .one (.leaf none)
noncomputable def t109 (N : Nat) : List AV → Option AV := TL a109 fun x => bindO (F109 N x) fun r => some (v109 r)
@[push_cast] theorem v109_eq (r : Bool) : v109 r = .bool r := rfl
@[push_cast] theorem t89_1 {N : Nat} (z1 : List Mono) (z2 : Int) : t89 N [.agg [.sl false 6 (List.map Mono.cells z1), .int .i64 z2]] = bindO (F89 N (⟨z1, z2⟩ : Lin)) fun r => some (v89 r) :=
  TL_hit i89 (⟨z1, z2⟩ : Lin) (by first | (simp only [a89, push_cast]; done) | (simp only [a89, push_cast]; rfl))
/-! ## 150: quantale/quantaleref04.gcd -/
def H150 : Nat → Hint := fun i => [⟨[0, 1], [0], []⟩, ⟨[], [0, 1], []⟩].getD (i - 0) ⟨[], [], []⟩
@[push_cast] theorem H150_0 : H150 0 = ⟨[0, 1], [0], []⟩ := rfl
@[push_cast] theorem H150_1 : H150 1 = ⟨[], [0, 1], []⟩ := rfl
def F150_s1  (s1 : Int × Int) : Option (Sum (Int × Int) (Int)) :=
  iteO (s1.2 == 0)
  (some (.inr s1.1))
  (iteO (decide (s1.2 < 0))
    (iteO (decide ((IntKind.i64.wrap (0 - s1.2)) = 0))
      (none)
      (some (.inl (IntKind.i64.wrap (0 - s1.2), s1.1.tmod (IntKind.i64.wrap (0 - s1.2))))))
    (iteO (decide (s1.2 = 0))
      (none)
      (some (.inl (s1.2, s1.1.tmod s1.2)))))
def F150_s2  (s2 : Int × Int) : Option (Sum (Int × Int) (Int)) :=
  iteO (s2.2 == 0)
  (some (.inr s2.1))
  (iteO (decide (s2.2 < 0))
    (iteO (decide ((IntKind.i64.wrap (0 - s2.2)) = 0))
      (none)
      (some (.inl (IntKind.i64.wrap (0 - s2.2), s2.1.tmod (IntKind.i64.wrap (0 - s2.2))))))
    (iteO (decide (s2.2 = 0))
      (none)
      (some (.inl (s2.2, s2.1.tmod s2.2)))))
def F150 (N : Nat) (a : Int) (b : Int) : Option (Int) :=
  iteO (decide (a < 0))
  (whileN (S := Int × Int) (F150_s1) N (IntKind.i64.wrap (0 - a), b))
  (whileN (S := Int × Int) (F150_s2) N (a, b))
def a150 (x : Int × Int) : List AV := [.int .i64 x.1, .int .i64 x.2]
def v150 (r : Int) : AV := .int .i64 r
theorem i150 (x y : Int × Int) (h : nzs (a150 x) = nzs (a150 y)) : x = y := by
  simp only [nzs, a150, List.map_cons, List.map_nil, nzV_agg, nzV_int, nzV_bool, nzV_str, nzV_sl, nzL_sl, List.cons.injEq, AV.agg.injEq, AV.int.injEq, AV.bool.injEq, AV.str.injEq, true_and, and_true, or_true] at h
  first | exact h | (obtain ⟨x1, x2⟩ := x; simp_all [Prod.ext_iff]) | simp_all [Prod.ext_iff]
theorem w150 (x : Int × Int) : wks (a150 x) = true := by
  simp only [wks, a150, wkV, wkL, List.all_cons, List.all_nil, Bool.not_false, Bool.and_self, Bool.and_true]
theorem d150 (x : Int × Int) : allData (a150 x) = true := by
  simp only [a150, push_cast]
def sh150 : Shp := .one (.leaf none)
noncomputable def t150 (N : Nat) : List AV → Option AV := TL a150 fun x => bindO (F150 N x.1 x.2) fun r => some (v150 r)
@[push_cast] theorem v150_eq (r : Int) : v150 r = .int .i64 r := rfl
/-! ## 83: quantale/quantaleref01.Same -/
def H83 : Nat → Hint := fun i => [⟨[2, 3, 17, 18, 19], [2, 3], [.ownS 2 4 5]⟩, ⟨[], [2, 3, 17, 18, 19], []⟩].getD (i - 0) ⟨[], [], []⟩
@[push_cast] theorem H83_0 : H83 0 = ⟨[2, 3, 17, 18, 19], [2, 3], [.ownS 2 4 5]⟩ := rfl
@[push_cast] theorem H83_1 : H83 1 = ⟨[], [2, 3, 17, 18, 19], []⟩ := rfl
def F83_s2 (self83 : Node → Option (Node)) (s6 : List Node) (i4 : Nat) (x5 : Node) : Option (Sum (List Node) (Node)) :=
  bindO (self83 x5) fun r7 =>
  iteO (fits (s6.length + 1) 64)
  (some (.inl (s6 ++ ([r7]))))
  (none)
def F83_f2 (n : Node) (s6 : List Node) : Option (Node) :=
  some (⟨n.op, n.sortf, n.name, n.num, s6⟩ : Node)
def F83b (self83 : Node → Option (Node)) (N : Nat) (n : Node) : Option (Node) :=
  foldN (S := List Node) (F83_s2 self83) (F83_f2 n) N n.kids 0 ([])
def F83 : Nat → Node → Option (Node)
  | 0 => fun _ => none
  | N + 1 => fun n => F83b (F83 N) N n
def a83 (x : Node) : List AV := [.agg (Node.cells x)]
def v83 (r : Node) : AV := .agg (Node.cells r)
theorem i83 (x y : Node) (h : nzs (a83 x) = nzs (a83 y)) : x = y := by
  simp only [nzs, a83, List.map_cons, List.map_nil, nzV_agg, nzV_int, nzV_bool, nzV_str, nzV_sl, nzL_sl, List.cons.injEq, AV.agg.injEq, AV.int.injEq, AV.bool.injEq, AV.str.injEq, true_and, and_true, or_true, Node.nz_iff] at h
  first | exact h | (obtain ⟨x1, x2⟩ := x; simp_all [Prod.ext_iff]) | simp_all [Prod.ext_iff]
theorem w83 (x : Node) : wks (a83 x) = true := by
  simp only [wks, a83, wkV, wkL, Node.wk, List.all_cons, List.all_nil, Bool.not_false, Bool.and_self, Bool.and_true]
theorem d83 (x : Node) : allData (a83 x) = true := by
  simp only [a83, push_cast]
def sh83 : Shp := .one (.agg [none, none, none, none, some 5])
noncomputable def t83 (N : Nat) : List AV → Option AV := TL a83 fun x => bindO (F83 N x) fun r => some (v83 r)
@[push_cast] theorem v83_eq (r : Node) : v83 r = .agg (Node.cells r) := rfl
noncomputable def ts83 (self83 : Node → Option (Node)) : List AV → Option AV := TL a83 fun x => bindO (self83 x) fun r => some (v83 r)
@[push_cast] theorem t83_1 (self83 : Node → Option (Node)) (z1 : Int) (z2 : Int) (z3 : ByteArray) (z4 : Int) (z5 : List Node) : ts83 self83 [.agg [.int .i64 z1, .int .i64 z2, .str z3, .int .i64 z4, .sl false 5 (List.map Node.cells z5)]] = bindO (self83 (⟨z1, z2, z3, z4, z5⟩ : Node)) fun r => some (v83 r) :=
  TL_hit i83 (⟨z1, z2, z3, z4, z5⟩ : Node) (by first | (simp only [a83, push_cast]; done) | (simp only [a83, push_cast]; rfl))
/-! ## 151: quantale/quantaleref04.floor -/
def H151 : Nat → Hint := fun _ => ⟨[], [], []⟩
def F151 (n : Int) (byq : Int) : Option (Int) :=
  iteO (decide (byq = 0))
  (none)
  (iteO (decide ((n.tmod byq) < 0))
    (some (IntKind.i64.wrap ((IntKind.i64.wrap (n.tdiv byq)) - 1)))
    (some (IntKind.i64.wrap (n.tdiv byq))))
def a151 (x : Int × Int) : List AV := [.int .i64 x.1, .int .i64 x.2]
def v151 (r : Int) : AV := .int .i64 r
theorem i151 (x y : Int × Int) (h : nzs (a151 x) = nzs (a151 y)) : x = y := by
  simp only [nzs, a151, List.map_cons, List.map_nil, nzV_agg, nzV_int, nzV_bool, nzV_str, nzV_sl, nzL_sl, List.cons.injEq, AV.agg.injEq, AV.int.injEq, AV.bool.injEq, AV.str.injEq, true_and, and_true, or_true] at h
  first | exact h | (obtain ⟨x1, x2⟩ := x; simp_all [Prod.ext_iff]) | simp_all [Prod.ext_iff]
theorem w151 (x : Int × Int) : wks (a151 x) = true := by
  simp only [wks, a151, wkV, wkL, List.all_cons, List.all_nil, Bool.not_false, Bool.and_self, Bool.and_true]
theorem d151 (x : Int × Int) : allData (a151 x) = true := by
  simp only [a151, push_cast]
def sh151 : Shp := .one (.leaf none)
noncomputable def t151 : List AV → Option AV := TL a151 fun x => bindO (F151 x.1 x.2) fun r => some (v151 r)
@[push_cast] theorem v151_eq (r : Int) : v151 r = .int .i64 r := rfl
/-! ## 110: quantale/quantaleref04.rounded -/
def H110 : Nat → Hint := fun i => [⟨[1, 2, 3, 24, 25, 26], [1, 2, 3], []⟩, ⟨[], [1, 2, 3, 24, 25, 26], []⟩, ⟨[2, 6, 7, 77, 78, 79], [2, 6], [.ownS 2 0 6]⟩, ⟨[], [2, 6, 7, 77, 78, 79], []⟩].getD (i - 0) ⟨[], [], []⟩
@[push_cast] theorem H110_0 : H110 0 = ⟨[1, 2, 3, 24, 25, 26], [1, 2, 3], []⟩ := rfl
@[push_cast] theorem H110_1 : H110 1 = ⟨[], [1, 2, 3, 24, 25, 26], []⟩ := rfl
@[push_cast] theorem H110_2 : H110 2 = ⟨[2, 6, 7, 77, 78, 79], [2, 6], [.ownS 2 0 6]⟩ := rfl
@[push_cast] theorem H110_3 : H110 3 = ⟨[], [2, 6, 7, 77, 78, 79], []⟩ := rfl
def F110_s1 (N : Nat) (s3 : Int) (i1 : Nat) (x2 : Mono) : Option (Sum (Int) (Con)) :=
  bindO (F150 N x2.monoCoef s3) fun r4 =>
  some (.inl r4)
def F110_s3 (N : Nat) (s3 : Int) (s11 : List Mono) (i9 : Nat) (x10 : Mono) : Option (Sum (List Mono) (Con)) :=
  bindO (F83 N x10.monoAtom) fun r12 =>
  iteO (fits (s11.length + 1) 72)
  (some (.inl (s11 ++ ([(⟨IntKind.i64.wrap (x10.monoCoef.tdiv (IntKind.i64.wrap (0 - s3))), r12⟩ : Mono)]))))
  (none)
def F110_f3 (c : Con) (s3 : Int) (s11 : List Mono) : Option (Con) :=
  some (⟨(⟨s11, IntKind.i64.wrap (c.conForm.linConst.tdiv (IntKind.i64.wrap (0 - s3)))⟩ : Lin), c.conRel⟩ : Con)
def F110_s4 (N : Nat) (s3 : Int) (s15 : List Mono) (i13 : Nat) (x14 : Mono) : Option (Sum (List Mono) (Con)) :=
  bindO (F83 N x14.monoAtom) fun r16 =>
  iteO (fits (s15.length + 1) 72)
  (some (.inl (s15 ++ ([(⟨IntKind.i64.wrap (x14.monoCoef.tdiv s3), r16⟩ : Mono)]))))
  (none)
def F110_f4 (c : Con) (s3 : Int) (s15 : List Mono) : Option (Con) :=
  some (⟨(⟨s15, IntKind.i64.wrap (c.conForm.linConst.tdiv s3)⟩ : Lin), c.conRel⟩ : Con)
def F110_s5 (N : Nat) (s3 : Int) (s20 : List Mono) (i18 : Nat) (x19 : Mono) : Option (Sum (List Mono) (Con)) :=
  iteO (decide (s3 = 0))
  (none)
  (bindO (F83 N x19.monoAtom) fun r21 =>
    iteO (fits (s20.length + 1) 72)
    (some (.inl (s20 ++ ([(⟨IntKind.i64.wrap (x19.monoCoef.tdiv s3), r21⟩ : Mono)]))))
    (none))
def F110_f5 (c : Con) (r17 : Int) (s20 : List Mono) : Option (Con) :=
  some (⟨(⟨s20, IntKind.i64.wrap (0 - r17)⟩ : Lin), c.conRel⟩ : Con)
def F110_f1 (N : Nat) (c : Con) (s3 : Int) : Option (Con) :=
  iteO (c.conRel == 0)
  (iteO (decide (s3 = 0))
    (none)
    (iteO ((c.conForm.linConst.tmod s3) == 0)
      (bindO (atO c.conForm.linMonos 0) fun x5 =>
        iteO (decide (x5.monoCoef < 0))
        (iteO (decide ((IntKind.i64.wrap (0 - s3)) = 0))
          (none)
          (foldN (S := List Mono) (F110_s3 N s3) (F110_f3 c s3) N c.conForm.linMonos 0 ([])))
        (foldN (S := List Mono) (F110_s4 N s3) (F110_f4 c s3) N c.conForm.linMonos 0 ([])))
      (some (⟨(⟨[], 1⟩ : Lin), 0⟩ : Con))))
  (bindO (F151 (IntKind.i64.wrap (0 - c.conForm.linConst)) s3) fun r17 =>
    foldN (S := List Mono) (F110_s5 N s3) (F110_f5 c r17) N c.conForm.linMonos 0 ([]))
def F110 (N : Nat) (c : Con) : Option (Con) :=
  iteO ((c.conForm.linMonos.length : Int) == 0)
  (some (⟨(⟨[], c.conForm.linConst⟩ : Lin), c.conRel⟩ : Con))
  (foldN (S := Int) (F110_s1 N) (F110_f1 N c) N c.conForm.linMonos 0 0)
def a110 (x : Con) : List AV := [.agg (Con.cells x)]
def v110 (r : Con) : AV := .agg (Con.cells r)
theorem i110 (x y : Con) (h : nzs (a110 x) = nzs (a110 y)) : x = y := by
  simp only [nzs, a110, List.map_cons, List.map_nil, nzV_agg, nzV_int, nzV_bool, nzV_str, nzV_sl, nzL_sl, List.cons.injEq, AV.agg.injEq, AV.int.injEq, AV.bool.injEq, AV.str.injEq, true_and, and_true, or_true, Con.nz_iff] at h
  first | exact h | (obtain ⟨x1, x2⟩ := x; simp_all [Prod.ext_iff]) | simp_all [Prod.ext_iff]
theorem w110 (x : Con) : wks (a110 x) = true := by
  simp only [wks, a110, wkV, wkL, Con.wk, List.all_cons, List.all_nil, Bool.not_false, Bool.and_self, Bool.and_true]
theorem d110 (x : Con) : allData (a110 x) = true := by
  simp only [a110, push_cast]
def sh110 : Shp := .one (.agg [some 6, none, none])
noncomputable def t110 (N : Nat) : List AV → Option AV := TL a110 fun x => bindO (F110 N x) fun r => some (v110 r)
@[push_cast] theorem v110_eq (r : Con) : v110 r = .agg (Con.cells r) := rfl
@[push_cast] theorem t150_1 {N : Nat} (z1 : Int) (z2 : Int) : t150 N [.int .i64 z1, .int .i64 z2] = bindO (F150 N z1 z2) fun r => some (v150 r) :=
  TL_hit i150 (z1, z2) (by first | (simp only [a150, push_cast]; done) | (simp only [a150, push_cast]; rfl))
@[push_cast] theorem t83_2 {N : Nat} (z1 : Int) (z2 : Int) (z3 : ByteArray) (z4 : Int) (z5 : List Node) : t83 N [.agg [.int .i64 z1, .int .i64 z2, .str z3, .int .i64 z4, .sl false 5 (List.map Node.cells z5)]] = bindO (F83 N (⟨z1, z2, z3, z4, z5⟩ : Node)) fun r => some (v83 r) :=
  TL_hit i83 (⟨z1, z2, z3, z4, z5⟩ : Node) (by first | (simp only [a83, push_cast]; done) | (simp only [a83, push_cast]; rfl))
@[push_cast] theorem t151_1 (z1 : Int) (z2 : Int) : t151 [.int .i64 z1, .int .i64 z2] = bindO (F151 z1 z2) fun r => some (v151 r) :=
  TL_hit i151 (z1, z2) (by first | (simp only [a151, push_cast]; done) | (simp only [a151, push_cast]; rfl))
/-! ## 57: quantale/quantaleref04.Round -/
def H57 : Nat → Hint := fun _ => ⟨[], [], []⟩
def F57 (N : Nat) (c : Con) : Option (Con × Int) :=
  bindO (F109 N c) fun r1 =>
  iteO r1
  (bindO (F110 N c) fun r2 =>
    some (r2, 0))
  (some ((⟨(⟨[], 0⟩ : Lin), 0⟩ : Con), 3))
def a57 (x : Con) : List AV := [.agg (Con.cells x)]
def v57 (r : Con × Int) : AV := .tuple [.agg (Con.cells r.1), .int .i64 r.2]
theorem i57 (x y : Con) (h : nzs (a57 x) = nzs (a57 y)) : x = y := by
  simp only [nzs, a57, List.map_cons, List.map_nil, nzV_agg, nzV_int, nzV_bool, nzV_str, nzV_sl, nzL_sl, List.cons.injEq, AV.agg.injEq, AV.int.injEq, AV.bool.injEq, AV.str.injEq, true_and, and_true, or_true, Con.nz_iff] at h
  first | exact h | (obtain ⟨x1, x2⟩ := x; simp_all [Prod.ext_iff]) | simp_all [Prod.ext_iff]
theorem w57 (x : Con) : wks (a57 x) = true := by
  simp only [wks, a57, wkV, wkL, Con.wk, List.all_cons, List.all_nil, Bool.not_false, Bool.and_self, Bool.and_true]
theorem d57 (x : Con) : allData (a57 x) = true := by
  simp only [a57, push_cast]
def sh57 : Shp := .tup [.agg [some 6, none, none], .leaf none]
noncomputable def t57 (N : Nat) : List AV → Option AV := TL a57 fun x => bindO (F57 N x) fun r => some (v57 r)
@[push_cast] theorem v57_eq (r : Con × Int) : v57 r = .tuple [.agg (Con.cells r.1), .int .i64 r.2] := rfl
@[push_cast] theorem t109_1 {N : Nat} (z1 : List Mono) (z2 : Int) (z3 : Int) : t109 N [.agg [.sl false 6 (List.map Mono.cells z1), .int .i64 z2, .int .i64 z3]] = bindO (F109 N (⟨(⟨z1, z2⟩ : Lin), z3⟩ : Con)) fun r => some (v109 r) :=
  TL_hit i109 (⟨(⟨z1, z2⟩ : Lin), z3⟩ : Con) (by first | (simp only [a109, push_cast]; done) | (simp only [a109, push_cast]; rfl))
@[push_cast] theorem t110_1 {N : Nat} (z1 : List Mono) (z2 : Int) (z3 : Int) : t110 N [.agg [.sl false 6 (List.map Mono.cells z1), .int .i64 z2, .int .i64 z3]] = bindO (F110 N (⟨(⟨z1, z2⟩ : Lin), z3⟩ : Con)) fun r => some (v110 r) :=
  TL_hit i110 (⟨(⟨z1, z2⟩ : Lin), z3⟩ : Con) (by first | (simp only [a110, push_cast]; done) | (simp only [a110, push_cast]; rfl))
/-! ## 21: quantale/quantaleref01.Equal -/
def H21 : Nat → Hint := fun _ => ⟨[], [], []⟩
def F21 (N : Nat) (a : Node) (b : Node) : Option (Bool) :=
  bindO (F19 N a b) fun r1 =>
  some (r1 == 0)
def a21 (x : Node × Node) : List AV := [.agg (Node.cells x.1), .agg (Node.cells x.2)]
def v21 (r : Bool) : AV := .bool r
theorem i21 (x y : Node × Node) (h : nzs (a21 x) = nzs (a21 y)) : x = y := by
  simp only [nzs, a21, List.map_cons, List.map_nil, nzV_agg, nzV_int, nzV_bool, nzV_str, nzV_sl, nzL_sl, List.cons.injEq, AV.agg.injEq, AV.int.injEq, AV.bool.injEq, AV.str.injEq, true_and, and_true, or_true, Node.nz_iff] at h
  first | exact h | (obtain ⟨x1, x2⟩ := x; simp_all [Prod.ext_iff]) | simp_all [Prod.ext_iff]
theorem w21 (x : Node × Node) : wks (a21 x) = true := by
  simp only [wks, a21, wkV, wkL, Node.wk, List.all_cons, List.all_nil, Bool.not_false, Bool.and_self, Bool.and_true]
theorem d21 (x : Node × Node) : allData (a21 x) = true := by
  simp only [a21, push_cast]
def sh21 : Shp := .one (.leaf none)
noncomputable def t21 (N : Nat) : List AV → Option AV := TL a21 fun x => bindO (F21 N x.1 x.2) fun r => some (v21 r)
@[push_cast] theorem v21_eq (r : Bool) : v21 r = .bool r := rfl
/-! ## 35: quantale/quantaleref04.Equal -/
def H35 : Nat → Hint := fun i => [⟨[2, 3, 22, 23], [], []⟩, ⟨[], [2, 3, 22, 23], []⟩].getD (i - 0) ⟨[], [], []⟩
@[push_cast] theorem H35_0 : H35 0 = ⟨[2, 3, 22, 23], [], []⟩ := rfl
@[push_cast] theorem H35_1 : H35 1 = ⟨[], [2, 3, 22, 23], []⟩ := rfl
def F35_s1 (N : Nat) (b : Lin) (s3 : Unit) (i1 : Nat) (x2 : Mono) : Option (Sum (Unit) (Bool)) :=
  bindO (atO b.linMonos (i1 : Int)) fun x4 =>
  iteO (x2.monoCoef == x4.monoCoef)
  (bindO (F21 N x2.monoAtom x4.monoAtom) fun r5 =>
    iteO r5
    (some (.inl ()))
    (some (.inr false)))
  (some (.inr false))
def F35_f1  (s3 : Unit) : Option (Bool) :=
  some true
def F35 (N : Nat) (a : Lin) (b : Lin) : Option (Bool) :=
  iteO (a.linConst == b.linConst)
  (iteO ((a.linMonos.length : Int) == (b.linMonos.length : Int))
    (foldN (S := Unit) (F35_s1 N b) (F35_f1) N a.linMonos 0 ())
    (some false))
  (some false)
def a35 (x : Lin × Lin) : List AV := [.agg (Lin.cells x.1), .agg (Lin.cells x.2)]
def v35 (r : Bool) : AV := .bool r
theorem i35 (x y : Lin × Lin) (h : nzs (a35 x) = nzs (a35 y)) : x = y := by
  simp only [nzs, a35, List.map_cons, List.map_nil, nzV_agg, nzV_int, nzV_bool, nzV_str, nzV_sl, nzL_sl, List.cons.injEq, AV.agg.injEq, AV.int.injEq, AV.bool.injEq, AV.str.injEq, true_and, and_true, or_true, Lin.nz_iff] at h
  first | exact h | (obtain ⟨x1, x2⟩ := x; simp_all [Prod.ext_iff]) | simp_all [Prod.ext_iff]
theorem w35 (x : Lin × Lin) : wks (a35 x) = true := by
  simp only [wks, a35, wkV, wkL, Lin.wk, List.all_cons, List.all_nil, Bool.not_false, Bool.and_self, Bool.and_true]
theorem d35 (x : Lin × Lin) : allData (a35 x) = true := by
  simp only [a35, push_cast]
def sh35 : Shp := .one (.leaf none)
noncomputable def t35 (N : Nat) : List AV → Option AV := TL a35 fun x => bindO (F35 N x.1 x.2) fun r => some (v35 r)
@[push_cast] theorem v35_eq (r : Bool) : v35 r = .bool r := rfl
@[push_cast] theorem t21_1 {N : Nat} (z1 : Int) (z2 : Int) (z3 : ByteArray) (z4 : Int) (z5 : List Node) (z6 : Int) (z7 : Int) (z8 : ByteArray) (z9 : Int) (z10 : List Node) : t21 N [.agg [.int .i64 z1, .int .i64 z2, .str z3, .int .i64 z4, .sl false 5 (List.map Node.cells z5)], .agg [.int .i64 z6, .int .i64 z7, .str z8, .int .i64 z9, .sl false 5 (List.map Node.cells z10)]] = bindO (F21 N (⟨z1, z2, z3, z4, z5⟩ : Node) (⟨z6, z7, z8, z9, z10⟩ : Node)) fun r => some (v21 r) :=
  TL_hit i21 ((⟨z1, z2, z3, z4, z5⟩ : Node), (⟨z6, z7, z8, z9, z10⟩ : Node)) (by first | (simp only [a21, push_cast]; done) | (simp only [a21, push_cast]; rfl))
/-! ## 58: quantale/quantalelaw04.same -/
def H58 : Nat → Hint := fun _ => ⟨[], [], []⟩
def F58 (N : Nat) (a : Con) (b : Con) : Option (Bool) :=
  iteO (a.conRel == b.conRel)
  (bindO (F35 N a.conForm b.conForm) fun r1 =>
    some r1)
  (some false)
def a58 (x : Con × Con) : List AV := [.agg (Con.cells x.1), .agg (Con.cells x.2)]
def v58 (r : Bool) : AV := .bool r
theorem i58 (x y : Con × Con) (h : nzs (a58 x) = nzs (a58 y)) : x = y := by
  simp only [nzs, a58, List.map_cons, List.map_nil, nzV_agg, nzV_int, nzV_bool, nzV_str, nzV_sl, nzL_sl, List.cons.injEq, AV.agg.injEq, AV.int.injEq, AV.bool.injEq, AV.str.injEq, true_and, and_true, or_true, Con.nz_iff] at h
  first | exact h | (obtain ⟨x1, x2⟩ := x; simp_all [Prod.ext_iff]) | simp_all [Prod.ext_iff]
theorem w58 (x : Con × Con) : wks (a58 x) = true := by
  simp only [wks, a58, wkV, wkL, Con.wk, List.all_cons, List.all_nil, Bool.not_false, Bool.and_self, Bool.and_true]
theorem d58 (x : Con × Con) : allData (a58 x) = true := by
  simp only [a58, push_cast]
def sh58 : Shp := .one (.leaf none)
noncomputable def t58 (N : Nat) : List AV → Option AV := TL a58 fun x => bindO (F58 N x.1 x.2) fun r => some (v58 r)
@[push_cast] theorem v58_eq (r : Bool) : v58 r = .bool r := rfl
@[push_cast] theorem t35_1 {N : Nat} (z1 : List Mono) (z2 : Int) (z3 : List Mono) (z4 : Int) : t35 N [.agg [.sl false 6 (List.map Mono.cells z1), .int .i64 z2], .agg [.sl false 6 (List.map Mono.cells z3), .int .i64 z4]] = bindO (F35 N (⟨z1, z2⟩ : Lin) (⟨z3, z4⟩ : Lin)) fun r => some (v35 r) :=
  TL_hit i35 ((⟨z1, z2⟩ : Lin), (⟨z3, z4⟩ : Lin)) (by first | (simp only [a35, push_cast]; done) | (simp only [a35, push_cast]; rfl))
/-! ## 59: quantale/linear.Contradictory -/
def H59 : Nat → Hint := fun _ => ⟨[], [], []⟩
def F59 (N : Nat) (c : Con) : Option (Bool) :=
  bindO (F107 N c) fun r1 =>
  iteO r1
  (iteO (decide ((c.conForm.linMonos.length : Int) > 0))
    (some false)
    (iteO (c.conRel == 0)
      (iteO (c.conForm.linConst == 0)
        (iteO (c.conRel == 1)
          (some (decide (c.conForm.linConst > 0)))
          (some false))
        (some true))
      (iteO (c.conRel == 1)
        (some (decide (c.conForm.linConst > 0)))
        (some false))))
  (some false)
def a59 (x : Con) : List AV := [.agg (Con.cells x)]
def v59 (r : Bool) : AV := .bool r
theorem i59 (x y : Con) (h : nzs (a59 x) = nzs (a59 y)) : x = y := by
  simp only [nzs, a59, List.map_cons, List.map_nil, nzV_agg, nzV_int, nzV_bool, nzV_str, nzV_sl, nzL_sl, List.cons.injEq, AV.agg.injEq, AV.int.injEq, AV.bool.injEq, AV.str.injEq, true_and, and_true, or_true, Con.nz_iff] at h
  first | exact h | (obtain ⟨x1, x2⟩ := x; simp_all [Prod.ext_iff]) | simp_all [Prod.ext_iff]
theorem w59 (x : Con) : wks (a59 x) = true := by
  simp only [wks, a59, wkV, wkL, Con.wk, List.all_cons, List.all_nil, Bool.not_false, Bool.and_self, Bool.and_true]
theorem d59 (x : Con) : allData (a59 x) = true := by
  simp only [a59, push_cast]
def sh59 : Shp := .one (.leaf none)
noncomputable def t59 (N : Nat) : List AV → Option AV := TL a59 fun x => bindO (F59 N x) fun r => some (v59 r)
@[push_cast] theorem v59_eq (r : Bool) : v59 r = .bool r := rfl
/-! ## 60: quantale/quantaleref04.Contradictory -/
def H60 : Nat → Hint := fun _ => ⟨[], [], []⟩
def F60 (N : Nat) (c : Con) : Option (Bool) :=
  bindO (F109 N c) fun r1 =>
  iteO r1
  (iteO ((c.conForm.linMonos.length : Int) == 0)
    (iteO (c.conRel == 0)
      (iteO (c.conForm.linConst == 0)
        (iteO (c.conRel == 1)
          (some (decide (c.conForm.linConst > 0)))
          (some false))
        (some true))
      (iteO (c.conRel == 1)
        (some (decide (c.conForm.linConst > 0)))
        (some false)))
    (some false))
  (some false)
def a60 (x : Con) : List AV := [.agg (Con.cells x)]
def v60 (r : Bool) : AV := .bool r
theorem i60 (x y : Con) (h : nzs (a60 x) = nzs (a60 y)) : x = y := by
  simp only [nzs, a60, List.map_cons, List.map_nil, nzV_agg, nzV_int, nzV_bool, nzV_str, nzV_sl, nzL_sl, List.cons.injEq, AV.agg.injEq, AV.int.injEq, AV.bool.injEq, AV.str.injEq, true_and, and_true, or_true, Con.nz_iff] at h
  first | exact h | (obtain ⟨x1, x2⟩ := x; simp_all [Prod.ext_iff]) | simp_all [Prod.ext_iff]
theorem w60 (x : Con) : wks (a60 x) = true := by
  simp only [wks, a60, wkV, wkL, Con.wk, List.all_cons, List.all_nil, Bool.not_false, Bool.and_self, Bool.and_true]
theorem d60 (x : Con) : allData (a60 x) = true := by
  simp only [a60, push_cast]
def sh60 : Shp := .one (.leaf none)
noncomputable def t60 (N : Nat) : List AV → Option AV := TL a60 fun x => bindO (F60 N x) fun r => some (v60 r)
@[push_cast] theorem v60_eq (r : Bool) : v60 r = .bool r := rfl
/-! ## 10: quantale/quantalelaw04.LinearRounds -/
def H10 : Nat → Hint := fun _ => ⟨[], [], []⟩
def F10 (N : Nat) (c : Con) : Option (Bool) :=
  bindO (F26 N) fun r1 =>
  iteO r1
  (bindO (F32 N ([c.conForm])) fun r2 =>
    iteO r2
    (bindO (F56 N c) fun r3 =>
      bindO (F57 N c) fun r4 =>
      iteO (r3.2 == r4.2)
      (bindO (F58 N r3.1 r4.1) fun r5 =>
        iteO r5
        (bindO (F59 N c) fun r6 =>
          bindO (F60 N c) fun r7 =>
          iteO (r6 == r7)
          (bindO (F56 N r3.1) fun r8 =>
            iteO (r3.2 == 0)
            (iteO (r8.2 == 0)
              (bindO (F58 N r8.1 r3.1) fun r9 =>
                some r9)
              (some false))
            (some true))
          (some false))
        (some false))
      (some false))
    (some true))
  (some false)
def a10 (x : Con) : List AV := [.agg (Con.cells x)]
def v10 (r : Bool) : AV := .bool r
theorem i10 (x y : Con) (h : nzs (a10 x) = nzs (a10 y)) : x = y := by
  simp only [nzs, a10, List.map_cons, List.map_nil, nzV_agg, nzV_int, nzV_bool, nzV_str, nzV_sl, nzL_sl, List.cons.injEq, AV.agg.injEq, AV.int.injEq, AV.bool.injEq, AV.str.injEq, true_and, and_true, or_true, Con.nz_iff] at h
  first | exact h | (obtain ⟨x1, x2⟩ := x; simp_all [Prod.ext_iff]) | simp_all [Prod.ext_iff]
theorem w10 (x : Con) : wks (a10 x) = true := by
  simp only [wks, a10, wkV, wkL, Con.wk, List.all_cons, List.all_nil, Bool.not_false, Bool.and_self, Bool.and_true]
theorem d10 (x : Con) : allData (a10 x) = true := by
  simp only [a10, push_cast]
def sh10 : Shp := .one (.leaf none)
noncomputable def t10 (N : Nat) : List AV → Option AV := TL a10 fun x => bindO (F10 N x) fun r => some (v10 r)
@[push_cast] theorem v10_eq (r : Bool) : v10 r = .bool r := rfl
@[push_cast] theorem t26_1 {N : Nat}  : t26 N [] = bindO (F26 N) fun r => some (v26 r) :=
  TL_hit i26 () (by first | (simp only [a26, push_cast]; done) | (simp only [a26, push_cast]; rfl))
@[push_cast] theorem t32_1 {N : Nat} (z2 : List Mono) (z3 : Int) : t32 N [.sl true 2 [[.sl false 6 (List.map Mono.cells z2), .int .i64 z3]]] = bindO (F32 N ([(⟨z2, z3⟩ : Lin)])) fun r => some (v32 r) :=
  TL_hit i32 [(⟨z2, z3⟩ : Lin)] (by first | (simp only [a32, push_cast]; done) | (simp only [a32, push_cast]; rfl))
@[push_cast] theorem t32_2 {N : Nat} (z2 : List Mono) (z3 : Int) : t32 N [.sl false 2 [[.sl false 6 (List.map Mono.cells z2), .int .i64 z3]]] = bindO (F32 N ([(⟨z2, z3⟩ : Lin)])) fun r => some (v32 r) :=
  TL_hit i32 [(⟨z2, z3⟩ : Lin)] (by first | (simp only [a32, push_cast]; done) | (simp only [a32, push_cast]; rfl))
@[push_cast] theorem t56_1 {N : Nat} (z1 : List Mono) (z2 : Int) (z3 : Int) : t56 N [.agg [.sl false 6 (List.map Mono.cells z1), .int .i64 z2, .int .i64 z3]] = bindO (F56 N (⟨(⟨z1, z2⟩ : Lin), z3⟩ : Con)) fun r => some (v56 r) :=
  TL_hit i56 (⟨(⟨z1, z2⟩ : Lin), z3⟩ : Con) (by first | (simp only [a56, push_cast]; done) | (simp only [a56, push_cast]; rfl))
@[push_cast] theorem t57_1 {N : Nat} (z1 : List Mono) (z2 : Int) (z3 : Int) : t57 N [.agg [.sl false 6 (List.map Mono.cells z1), .int .i64 z2, .int .i64 z3]] = bindO (F57 N (⟨(⟨z1, z2⟩ : Lin), z3⟩ : Con)) fun r => some (v57 r) :=
  TL_hit i57 (⟨(⟨z1, z2⟩ : Lin), z3⟩ : Con) (by first | (simp only [a57, push_cast]; done) | (simp only [a57, push_cast]; rfl))
@[push_cast] theorem t58_1 {N : Nat} (z1 : List Mono) (z2 : Int) (z3 : Int) (z4 : List Mono) (z5 : Int) (z6 : Int) : t58 N [.agg [.sl false 6 (List.map Mono.cells z1), .int .i64 z2, .int .i64 z3], .agg [.sl false 6 (List.map Mono.cells z4), .int .i64 z5, .int .i64 z6]] = bindO (F58 N (⟨(⟨z1, z2⟩ : Lin), z3⟩ : Con) (⟨(⟨z4, z5⟩ : Lin), z6⟩ : Con)) fun r => some (v58 r) :=
  TL_hit i58 ((⟨(⟨z1, z2⟩ : Lin), z3⟩ : Con), (⟨(⟨z4, z5⟩ : Lin), z6⟩ : Con)) (by first | (simp only [a58, push_cast]; done) | (simp only [a58, push_cast]; rfl))
@[push_cast] theorem t59_1 {N : Nat} (z1 : List Mono) (z2 : Int) (z3 : Int) : t59 N [.agg [.sl false 6 (List.map Mono.cells z1), .int .i64 z2, .int .i64 z3]] = bindO (F59 N (⟨(⟨z1, z2⟩ : Lin), z3⟩ : Con)) fun r => some (v59 r) :=
  TL_hit i59 (⟨(⟨z1, z2⟩ : Lin), z3⟩ : Con) (by first | (simp only [a59, push_cast]; done) | (simp only [a59, push_cast]; rfl))
@[push_cast] theorem t60_1 {N : Nat} (z1 : List Mono) (z2 : Int) (z3 : Int) : t60 N [.agg [.sl false 6 (List.map Mono.cells z1), .int .i64 z2, .int .i64 z3]] = bindO (F60 N (⟨(⟨z1, z2⟩ : Lin), z3⟩ : Con)) fun r => some (v60 r) :=
  TL_hit i60 (⟨(⟨z1, z2⟩ : Lin), z3⟩ : Con) (by first | (simp only [a60, push_cast]; done) | (simp only [a60, push_cast]; rfl))
end Go.Abs.Try
