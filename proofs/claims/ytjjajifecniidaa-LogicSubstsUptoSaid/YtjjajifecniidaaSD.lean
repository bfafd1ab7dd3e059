import Derived.Test.YtjjajifecniidaaSqW2
import Derived.Test.YtjjajifecniidaaSqCl
namespace Go.Abs.Try
open Go.RowKit
set_option linter.unusedSimpArgs false
set_option linter.unusedVariables false
set_option maxRecDepth 100000
set_option maxHeartbeats 4000000
def cmpS (a b : ByteArray) : Int := Lib.compareBytes a.data.toList b.data.toList
def F79 (a b : ByteArray) : Option Int := some (cmpS a b)
def a79 (x : ByteArray × ByteArray) : List AV := [.str x.1, .str x.2]
def v79 (r : Int) : AV := .int .i64 r
theorem i79 (x y : ByteArray × ByteArray) (h : nzs (a79 x) = nzs (a79 y)) : x = y := by
  simp only [nzs, a79, List.map_cons, List.map_nil, nzV_agg, nzV_int, nzV_bool, nzV_str, nzV_sl, nzL_sl, List.cons.injEq, AV.agg.injEq, AV.int.injEq, AV.bool.injEq, AV.str.injEq, true_and, and_true, or_true] at h
  first | exact h | (obtain ⟨x1, x2⟩ := x; simp_all [Prod.ext_iff]) | simp_all [Prod.ext_iff]
theorem w79 (x : ByteArray × ByteArray) : wks (a79 x) = true := by
  simp only [wks, a79, wkV, wkL, List.all_cons, List.all_nil, Bool.not_false, Bool.and_self, Bool.and_true]
theorem d79 (x : ByteArray × ByteArray) : allData (a79 x) = true := by
  simp only [a79, push_cast]
def sh79 : Shp := .one (.leaf none)
noncomputable def t79 : List AV → Option AV := TL a79 fun x => bindO (F79 x.1 x.2) fun r => some (v79 r)
@[push_cast] theorem v79_eq (r : Int) : v79 r = .int .i64 r := rfl
/-! ## 37: quantale/logic.Size -/
def H37 : Nat → Hint := fun i => [⟨[], [3], []⟩, ⟨[], [3], []⟩].getD (i - 0) ⟨[], [], []⟩
@[push_cast] theorem H37_0 : H37 0 = ⟨[], [3], []⟩ := rfl
@[push_cast] theorem H37_1 : H37 1 = ⟨[], [3], []⟩ := rfl
def F37_s1  (s3 : Int) (x2 : Node) : Option (Sum (Int) (Int)) :=
  some (.inl (IntKind.i64.wrap (s3 + 1)))
def F37_f1  (s3 : Int) : Option (Int) :=
  some s3
def F37 (n : Node) : Option (Int) :=
  bindO (walkO n) fun l1 =>
  foldO (S := Int) (F37_s1) (F37_f1) l1 0
def a37 (x : Node) : List AV := [.agg (Node.cells x)]
def v37 (r : Int) : AV := .int .i64 r
theorem i37 (x y : Node) (h : nzs (a37 x) = nzs (a37 y)) : x = y := by
  simp only [nzs, a37, List.map_cons, List.map_nil, nzV_agg, nzV_int, nzV_bool, nzV_str, nzV_sl, nzL_sl, List.cons.injEq, AV.agg.injEq, AV.int.injEq, AV.bool.injEq, AV.str.injEq, true_and, and_true, or_true, Node.nz_iff] at h
  first | exact h | (obtain ⟨x1, x2⟩ := x; simp_all [Prod.ext_iff]) | simp_all [Prod.ext_iff]
theorem w37 (x : Node) : wks (a37 x) = true := by
  simp only [wks, a37, wkV, wkL, Node.wk, List.all_cons, List.all_nil, Bool.not_false, Bool.and_self, Bool.and_true]
theorem d37 (x : Node) : allData (a37 x) = true := by
  simp only [a37, push_cast]
def sh37 : Shp := .one (.leaf none)
noncomputable def t37 : List AV → Option AV := TL a37 fun x => bindO (F37 x) fun r => some (v37 r)
@[push_cast] theorem v37_eq (r : Int) : v37 r = .int .i64 r := rfl
/-! ## 38: quantale/logic.Levels -/
def H38 : Nat → Hint := fun i => [⟨[3, 7, 8, 9], [3], []⟩, ⟨[], [3, 7, 8, 9], []⟩].getD (i - 0) ⟨[], [], []⟩
@[push_cast] theorem H38_0 : H38 0 = ⟨[3, 7, 8, 9], [3], []⟩ := rfl
@[push_cast] theorem H38_1 : H38 1 = ⟨[], [3, 7, 8, 9], []⟩ := rfl
def F38_s1 (self38 : Node → Option (Int)) (s3 : Int) (i1 : Nat) (x2 : Node) : Option (Sum (Int) (Int)) :=
  bindO (self38 x2) fun r4 =>
  some (.inl (max s3 r4))
def F38_f1  (s3 : Int) : Option (Int) :=
  some (IntKind.i64.wrap (s3 + 1))
def F38b (self38 : Node → Option (Int)) (N : Nat) (n : Node) : Option (Int) :=
  foldN (S := Int) (F38_s1 self38) (F38_f1) N n.kids 0 0
def F38 : Nat → Node → Option (Int)
  | 0 => fun _ => none
  | N + 1 => fun n => F38b (F38 N) N n
def a38 (x : Node) : List AV := [.agg (Node.cells x)]
def v38 (r : Int) : AV := .int .i64 r
theorem i38 (x y : Node) (h : nzs (a38 x) = nzs (a38 y)) : x = y := by
  simp only [nzs, a38, List.map_cons, List.map_nil, nzV_agg, nzV_int, nzV_bool, nzV_str, nzV_sl, nzL_sl, List.cons.injEq, AV.agg.injEq, AV.int.injEq, AV.bool.injEq, AV.str.injEq, true_and, and_true, or_true, Node.nz_iff] at h
  first | exact h | (obtain ⟨x1, x2⟩ := x; simp_all [Prod.ext_iff]) | simp_all [Prod.ext_iff]
theorem w38 (x : Node) : wks (a38 x) = true := by
  simp only [wks, a38, wkV, wkL, Node.wk, List.all_cons, List.all_nil, Bool.not_false, Bool.and_self, Bool.and_true]
theorem d38 (x : Node) : allData (a38 x) = true := by
  simp only [a38, push_cast]
def sh38 : Shp := .one (.leaf none)
noncomputable def t38 (N : Nat) : List AV → Option AV := TL a38 fun x => bindO (F38 N x) fun r => some (v38 r)
@[push_cast] theorem v38_eq (r : Int) : v38 r = .int .i64 r := rfl
noncomputable def ts38 (self38 : Node → Option (Int)) : List AV → Option AV := TL a38 fun x => bindO (self38 x) fun r => some (v38 r)
@[push_cast] theorem t38_1 (self38 : Node → Option (Int)) (z1 : Int) (z2 : Int) (z3 : ByteArray) (z4 : Int) (z5 : List Node) : ts38 self38 [.agg [.int .i64 z1, .int .i64 z2, .str z3, .int .i64 z4, .sl false 5 (List.map Node.cells z5)]] = bindO (self38 (⟨z1, z2, z3, z4, z5⟩ : Node)) fun r => some (v38 r) :=
  TL_hit i38 (⟨z1, z2, z3, z4, z5⟩ : Node) (by first | (simp only [a38, push_cast]; done) | (simp only [a38, push_cast]; rfl))
/-! ## 70: quantale/logic.within -/
def H70 : Nat → Hint := fun _ => ⟨[], [], []⟩
def F70 (N : Nat) (n : Node) : Option (Bool) :=
  bindO (F37 n) fun r1 =>
  iteO (decide (r1 ≤ 4000))
  (bindO (F38 N n) fun r2 =>
    some (decide (r2 ≤ 100)))
  (some false)
def a70 (x : Node) : List AV := [.agg (Node.cells x)]
def v70 (r : Bool) : AV := .bool r
theorem i70 (x y : Node) (h : nzs (a70 x) = nzs (a70 y)) : x = y := by
  simp only [nzs, a70, List.map_cons, List.map_nil, nzV_agg, nzV_int, nzV_bool, nzV_str, nzV_sl, nzL_sl, List.cons.injEq, AV.agg.injEq, AV.int.injEq, AV.bool.injEq, AV.str.injEq, true_and, and_true, or_true, Node.nz_iff] at h
  first | exact h | (obtain ⟨x1, x2⟩ := x; simp_all [Prod.ext_iff]) | simp_all [Prod.ext_iff]
theorem w70 (x : Node) : wks (a70 x) = true := by
  simp only [wks, a70, wkV, wkL, Node.wk, List.all_cons, List.all_nil, Bool.not_false, Bool.and_self, Bool.and_true]
theorem d70 (x : Node) : allData (a70 x) = true := by
  simp only [a70, push_cast]
def sh70 : Shp := .one (.leaf none)
noncomputable def t70 (N : Nat) : List AV → Option AV := TL a70 fun x => bindO (F70 N x) fun r => some (v70 r)
@[push_cast] theorem v70_eq (r : Bool) : v70 r = .bool r := rfl
@[push_cast] theorem t37_1 (z1 : Int) (z2 : Int) (z3 : ByteArray) (z4 : Int) (z5 : List Node) : t37 [.agg [.int .i64 z1, .int .i64 z2, .str z3, .int .i64 z4, .sl false 5 (List.map Node.cells z5)]] = bindO (F37 (⟨z1, z2, z3, z4, z5⟩ : Node)) fun r => some (v37 r) :=
  TL_hit i37 (⟨z1, z2, z3, z4, z5⟩ : Node) (by first | (simp only [a37, push_cast]; done) | (simp only [a37, push_cast]; rfl))
@[push_cast] theorem t38_2 {N : Nat} (z1 : Int) (z2 : Int) (z3 : ByteArray) (z4 : Int) (z5 : List Node) : t38 N [.agg [.int .i64 z1, .int .i64 z2, .str z3, .int .i64 z4, .sl false 5 (List.map Node.cells z5)]] = bindO (F38 N (⟨z1, z2, z3, z4, z5⟩ : Node)) fun r => some (v38 r) :=
  TL_hit i38 (⟨z1, z2, z3, z4, z5⟩ : Node) (by first | (simp only [a38, push_cast]; done) | (simp only [a38, push_cast]; rfl))
/-! ## 73: quantale/logic.letter -/
def H73 : Nat → Hint := fun _ => ⟨[], [], []⟩
def F73 (c : Int) : Option (Bool) :=
  iteO (decide (c ≥ 97))
  (iteO (decide (c ≤ 122))
    (some true)
    (iteO (decide (c ≥ 65))
      (some (decide (c ≤ 90)))
      (some false)))
  (iteO (decide (c ≥ 65))
    (some (decide (c ≤ 90)))
    (some false))
def a73 (x : Int) : List AV := [.int .u8 x]
def v73 (r : Bool) : AV := .bool r
theorem i73 (x y : Int) (h : nzs (a73 x) = nzs (a73 y)) : x = y := by
  simp only [nzs, a73, List.map_cons, List.map_nil, nzV_agg, nzV_int, nzV_bool, nzV_str, nzV_sl, nzL_sl, List.cons.injEq, AV.agg.injEq, AV.int.injEq, AV.bool.injEq, AV.str.injEq, true_and, and_true, or_true] at h
  first | exact h | (obtain ⟨x1, x2⟩ := x; simp_all [Prod.ext_iff]) | simp_all [Prod.ext_iff]
theorem w73 (x : Int) : wks (a73 x) = true := by
  simp only [wks, a73, wkV, wkL, List.all_cons, List.all_nil, Bool.not_false, Bool.and_self, Bool.and_true]
theorem d73 (x : Int) : allData (a73 x) = true := by
  simp only [a73, push_cast]
def sh73 : Shp := .one (.leaf none)
noncomputable def t73 : List AV → Option AV := TL a73 fun x => bindO (F73 x) fun r => some (v73 r)
@[push_cast] theorem v73_eq (r : Bool) : v73 r = .bool r := rfl
/-! ## 74: quantale/logic.word -/
def H74 : Nat → Hint := fun i => [⟨[], [], []⟩].getD (i - 0) ⟨[], [], []⟩
@[push_cast] theorem H74_0 : H74 0 = ⟨[], [], []⟩ := rfl
def F74 (s : ByteArray) : Option (Bool) :=
  iteO (s.toList == (⟨#[116, 114, 117, 101]⟩ : ByteArray).toList)
  (some true)
  (iteO (s.toList == (⟨#[102, 97, 108, 115, 101]⟩ : ByteArray).toList)
    (some true)
    (iteO (s.toList == (⟨#[105, 110]⟩ : ByteArray).toList)
      (some true)
      (iteO (s.toList == (⟨#[115, 117, 98]⟩ : ByteArray).toList)
        (some true)
        (iteO (s.toList == (⟨#[101, 109, 112, 116, 121]⟩ : ByteArray).toList)
          (some true)
          (iteO (s.toList == (⟨#[115, 105, 110, 103]⟩ : ByteArray).toList)
            (some true)
            (iteO (s.toList == (⟨#[99, 117, 112]⟩ : ByteArray).toList)
              (some true)
              (iteO (s.toList == (⟨#[99, 97, 112]⟩ : ByteArray).toList)
                (some true)
                (iteO (s.toList == (⟨#[100, 105, 102, 102]⟩ : ByteArray).toList)
                  (some true)
                  (iteO (s.toList == (⟨#[115, 101, 108]⟩ : ByteArray).toList)
                    (some true)
                    (iteO (s.toList == (⟨#[115, 116, 111]⟩ : ByteArray).toList)
                      (some true)
                      (iteO (s.toList == (⟨#[118, 108, 101, 110]⟩ : ByteArray).toList)
                        (some true)
                        (iteO (s.toList == (⟨#[105, 116, 101]⟩ : ByteArray).toList)
                          (some true)
                          (some false)))))))))))))
def a74 (x : ByteArray) : List AV := [.str x]
def v74 (r : Bool) : AV := .bool r
theorem i74 (x y : ByteArray) (h : nzs (a74 x) = nzs (a74 y)) : x = y := by
  simp only [nzs, a74, List.map_cons, List.map_nil, nzV_agg, nzV_int, nzV_bool, nzV_str, nzV_sl, nzL_sl, List.cons.injEq, AV.agg.injEq, AV.int.injEq, AV.bool.injEq, AV.str.injEq, true_and, and_true, or_true] at h
  first | exact h | (obtain ⟨x1, x2⟩ := x; simp_all [Prod.ext_iff]) | simp_all [Prod.ext_iff]
theorem w74 (x : ByteArray) : wks (a74 x) = true := by
  simp only [wks, a74, wkV, wkL, List.all_cons, List.all_nil, Bool.not_false, Bool.and_self, Bool.and_true]
theorem d74 (x : ByteArray) : allData (a74 x) = true := by
  simp only [a74, push_cast]
def sh74 : Shp := .one (.leaf none)
noncomputable def t74 : List AV → Option AV := TL a74 fun x => bindO (F74 x) fun r => some (v74 r)
@[push_cast] theorem v74_eq (r : Bool) : v74 r = .bool r := rfl
/-! ## 16: quantale/logic.Name -/
def H16 : Nat → Hint := fun i => [⟨[0, 24, 25], [], []⟩, ⟨[], [0, 24, 25], []⟩].getD (i - 0) ⟨[], [], []⟩
@[push_cast] theorem H16_0 : H16 0 = ⟨[0, 24, 25], [], []⟩ := rfl
@[push_cast] theorem H16_1 : H16 1 = ⟨[], [0, 24, 25], []⟩ := rfl
def F16_s1 (s : ByteArray) (s5 : Unit) (i3 : Nat) (x4 : Nat) : Option (Sum (Unit) (Bool)) :=
  bindO (F73 (bt s (i3 : Int))) fun r6 =>
  iteO r6
  (some (.inl ()))
  (iteO (decide ((bt s (i3 : Int)) < 48))
    (iteO ((bt s (i3 : Int)) == 46)
      (some (.inl ()))
      (some (.inr false)))
    (iteO (decide ((bt s (i3 : Int)) > 57))
      (iteO ((bt s (i3 : Int)) == 46)
        (some (.inl ()))
        (some (.inr false)))
      (some (.inl ()))))
def F16_f1  (s5 : Unit) : Option (Bool) :=
  some true
def F16 (N : Nat) (s : ByteArray) : Option (Bool) :=
  iteO (decide ((s.size : Int) < 1))
  (some false)
  (iteO (decide ((s.size : Int) > 24))
    (some false)
    (iteO (inB 0 s.size)
      (bindO (F73 (bt s 0)) fun r1 =>
        iteO r1
        (bindO (F74 s) fun r2 =>
          iteO r2
          (some false)
          (foldN (S := Unit) (F16_s1 s) (F16_f1) N (List.range s.size) 0 ()))
        (some false))
      (none)))
def a16 (x : ByteArray) : List AV := [.str x]
def v16 (r : Bool) : AV := .bool r
theorem i16 (x y : ByteArray) (h : nzs (a16 x) = nzs (a16 y)) : x = y := by
  simp only [nzs, a16, List.map_cons, List.map_nil, nzV_agg, nzV_int, nzV_bool, nzV_str, nzV_sl, nzL_sl, List.cons.injEq, AV.agg.injEq, AV.int.injEq, AV.bool.injEq, AV.str.injEq, true_and, and_true, or_true] at h
  first | exact h | (obtain ⟨x1, x2⟩ := x; simp_all [Prod.ext_iff]) | simp_all [Prod.ext_iff]
theorem w16 (x : ByteArray) : wks (a16 x) = true := by
  simp only [wks, a16, wkV, wkL, List.all_cons, List.all_nil, Bool.not_false, Bool.and_self, Bool.and_true]
theorem d16 (x : ByteArray) : allData (a16 x) = true := by
  simp only [a16, push_cast]
def sh16 : Shp := .one (.leaf none)
noncomputable def t16 (N : Nat) : List AV → Option AV := TL a16 fun x => bindO (F16 N x) fun r => some (v16 r)
@[push_cast] theorem v16_eq (r : Bool) : v16 r = .bool r := rfl
@[push_cast] theorem t73_1 (z1 : Int) : t73 [.int .u8 z1] = bindO (F73 z1) fun r => some (v73 r) :=
  TL_hit i73 z1 (by first | (simp only [a73, push_cast]; done) | (simp only [a73, push_cast]; rfl))
@[push_cast] theorem t74_1 (z1 : ByteArray) : t74 [.str z1] = bindO (F74 z1) fun r => some (v74 r) :=
  TL_hit i74 z1 (by first | (simp only [a74, push_cast]; done) | (simp only [a74, push_cast]; rfl))
/-! ## 116: quantale/logic.fields -/
def H116 : Nat → Hint := fun i => [⟨[], [1], []⟩].getD (i - 0) ⟨[], [], []⟩
@[push_cast] theorem H116_0 : H116 0 = ⟨[], [1], []⟩ := rfl
def F116 (N : Nat) (n : Node) : Option (Bool) :=
  iteO (n.op == 1)
  (bindO (F16 N n.name) fun r2 =>
    iteO r2
    (iteO (decide (n.sortf < 1))
      (some false)
      (iteO (decide (n.sortf > 5))
        (some false)
        (iteO (n.op == 2)
          (iteO (decide (n.num ≥ (-1000000000000)))
            (some (decide (n.num ≤ 1000000000000)))
            (some false))
          (iteO (n.op == 7)
            (iteO (decide (n.num ≥ (-1000000000000)))
              (some (decide (n.num ≤ 1000000000000)))
              (some false))
            (iteO (n.op == 42)
              (iteO (decide (n.num ≥ 0))
                (some (decide (n.num < 200)))
                (some false))
              (some (n.num == 0)))))))
    (some false))
  (bindO (F16 N n.name) fun r1 =>
    iteO ((n.op == 3) == r1)
    (iteO (n.op == 3)
      (iteO (decide (n.sortf < 1))
        (some false)
        (iteO (decide (n.sortf > 5))
          (some false)
          (iteO (n.op == 2)
            (iteO (decide (n.num ≥ (-1000000000000)))
              (some (decide (n.num ≤ 1000000000000)))
              (some false))
            (iteO (n.op == 7)
              (iteO (decide (n.num ≥ (-1000000000000)))
                (some (decide (n.num ≤ 1000000000000)))
                (some false))
              (iteO (n.op == 42)
                (iteO (decide (n.num ≥ 0))
                  (some (decide (n.num < 200)))
                  (some false))
                (some (n.num == 0)))))))
      (iteO (n.name.toList == (⟨#[]⟩ : ByteArray).toList)
        (iteO (n.sortf == 0)
          (iteO (n.op == 2)
            (iteO (decide (n.num ≥ (-1000000000000)))
              (some (decide (n.num ≤ 1000000000000)))
              (some false))
            (iteO (n.op == 7)
              (iteO (decide (n.num ≥ (-1000000000000)))
                (some (decide (n.num ≤ 1000000000000)))
                (some false))
              (iteO (n.op == 42)
                (iteO (decide (n.num ≥ 0))
                  (some (decide (n.num < 200)))
                  (some false))
                (some (n.num == 0)))))
          (some false))
        (some false)))
    (some false))
def a116 (x : Node) : List AV := [.agg (Node.cells x)]
def v116 (r : Bool) : AV := .bool r
theorem i116 (x y : Node) (h : nzs (a116 x) = nzs (a116 y)) : x = y := by
  simp only [nzs, a116, List.map_cons, List.map_nil, nzV_agg, nzV_int, nzV_bool, nzV_str, nzV_sl, nzL_sl, List.cons.injEq, AV.agg.injEq, AV.int.injEq, AV.bool.injEq, AV.str.injEq, true_and, and_true, or_true, Node.nz_iff] at h
  first | exact h | (obtain ⟨x1, x2⟩ := x; simp_all [Prod.ext_iff]) | simp_all [Prod.ext_iff]
theorem w116 (x : Node) : wks (a116 x) = true := by
  simp only [wks, a116, wkV, wkL, Node.wk, List.all_cons, List.all_nil, Bool.not_false, Bool.and_self, Bool.and_true]
theorem d116 (x : Node) : allData (a116 x) = true := by
  simp only [a116, push_cast]
def sh116 : Shp := .one (.leaf none)
noncomputable def t116 (N : Nat) : List AV → Option AV := TL a116 fun x => bindO (F116 N x) fun r => some (v116 r)
@[push_cast] theorem v116_eq (r : Bool) : v116 r = .bool r := rfl
@[push_cast] theorem t16_1 {N : Nat} (z1 : ByteArray) : t16 N [.str z1] = bindO (F16 N z1) fun r => some (v16 r) :=
  TL_hit i16 z1 (by first | (simp only [a16, push_cast]; done) | (simp only [a16, push_cast]; rfl))
/-! ## 36: quantale/logic.Sort -/
def H36 : Nat → Hint := fun i => [⟨[1], [1], []⟩, ⟨[], [1], []⟩, ⟨[], [1], []⟩].getD (i - 0) ⟨[], [], []⟩
@[push_cast] theorem H36_0 : H36 0 = ⟨[1], [1], []⟩ := rfl
@[push_cast] theorem H36_1 : H36 1 = ⟨[], [1], []⟩ := rfl
@[push_cast] theorem H36_2 : H36 2 = ⟨[], [1], []⟩ := rfl
def F36_s1  (s1 : Int × Int × ByteArray × Int × (List Node)) : Option (Sum (Int × Int × ByteArray × Int × (List Node)) (Int)) :=
  iteO (s1.1 == 8)
  (iteO (decide ((s1.2.2.2.2.length : Int) < 2))
    (some (.inr 0))
    (bindO (atO s1.2.2.2.2 1) fun x2 =>
      some (.inl (x2.op, x2.sortf, x2.name, x2.num, x2.kids))))
  (iteO (s1.1 == 1)
    (some (.inr s1.2.1))
    (iteO (s1.1 == 3)
      (some (.inr s1.2.1))
      (iteO (s1.1 == 2)
        (some (.inr 1))
        (iteO (s1.1 == 4)
          (some (.inr 1))
          (iteO (s1.1 == 5)
            (some (.inr 1))
            (iteO (s1.1 == 6)
              (some (.inr 1))
              (iteO (s1.1 == 7)
                (some (.inr 1))
                (iteO (s1.1 == 14)
                  (some (.inr 1))
                  (iteO (s1.1 == 16)
                    (some (.inr 1))
                    (iteO (s1.1 == 9)
                      (some (.inr 4))
                      (iteO (s1.1 == 10)
                        (some (.inr 4))
                        (iteO (s1.1 == 11)
                          (some (.inr 4))
                          (iteO (s1.1 == 12)
                            (some (.inr 4))
                            (iteO (s1.1 == 13)
                              (some (.inr 4))
                              (iteO (s1.1 == 15)
                                (some (.inr 5))
                                (iteO (decide (s1.1 ≥ 30))
                                  (iteO (decide (s1.1 ≤ 42))
                                    (some (.inr 2))
                                    (some (.inr 0)))
                                  (some (.inr 0))))))))))))))))))
def F36 (N : Nat) (n : Node) : Option (Int) :=
  whileN (S := Int × Int × ByteArray × Int × (List Node)) (F36_s1) N (n.op, n.sortf, n.name, n.num, n.kids)
def a36 (x : Node) : List AV := [.agg (Node.cells x)]
def v36 (r : Int) : AV := .int .i64 r
theorem i36 (x y : Node) (h : nzs (a36 x) = nzs (a36 y)) : x = y := by
  simp only [nzs, a36, List.map_cons, List.map_nil, nzV_agg, nzV_int, nzV_bool, nzV_str, nzV_sl, nzL_sl, List.cons.injEq, AV.agg.injEq, AV.int.injEq, AV.bool.injEq, AV.str.injEq, true_and, and_true, or_true, Node.nz_iff] at h
  first | exact h | (obtain ⟨x1, x2⟩ := x; simp_all [Prod.ext_iff]) | simp_all [Prod.ext_iff]
theorem w36 (x : Node) : wks (a36 x) = true := by
  simp only [wks, a36, wkV, wkL, Node.wk, List.all_cons, List.all_nil, Bool.not_false, Bool.and_self, Bool.and_true]
theorem d36 (x : Node) : allData (a36 x) = true := by
  simp only [a36, push_cast]
def sh36 : Shp := .one (.leaf none)
noncomputable def t36 (N : Nat) : List AV → Option AV := TL a36 fun x => bindO (F36 N x) fun r => some (v36 r)
@[push_cast] theorem v36_eq (r : Int) : v36 r = .int .i64 r := rfl
/-! ## 153: quantale/logic.takes -/
def H153 : Nat → Hint := fun i => [⟨[], [], []⟩].getD (i - 0) ⟨[], [], []⟩
@[push_cast] theorem H153_0 : H153 0 = ⟨[], [], []⟩ := rfl
def F153 (op : Int) : Option ((List Int) × Bool) :=
  iteO (op == 2)
  (some ([], true))
  (iteO (op == 9)
    (some ([], true))
    (iteO (op == 30)
      (some ([], true))
      (iteO (op == 31)
        (some ([], true))
        (iteO (op == 1)
          (some ([], true))
          (iteO (op == 4)
            (some ([1, 1], true))
            (iteO (op == 5)
              (some ([1, 1], true))
              (iteO (op == 38)
                (some ([1, 1], true))
                (iteO (op == 39)
                  (some ([1, 1], true))
                  (iteO (op == 6)
                    (some ([1], true))
                    (iteO (op == 7)
                      (some ([1], true))
                      (iteO (op == 10)
                        (some ([1], true))
                        (iteO (op == 11)
                          (some ([4, 4], true))
                          (iteO (op == 12)
                            (some ([4, 4], true))
                            (iteO (op == 13)
                              (some ([4, 4], true))
                              (iteO (op == 41)
                                (some ([4, 4], true))
                                (iteO (op == 40)
                                  (some ([1, 4], true))
                                  (iteO (op == 14)
                                    (some ([5, 1], true))
                                    (iteO (op == 15)
                                      (some ([5, 1, 1], true))
                                      (iteO (op == 16)
                                        (some ([5], true))
                                        (iteO (op == 32)
                                          (some ([2], true))
                                          (iteO (op == 33)
                                            (some ([2, 2], true))
                                            (iteO (op == 34)
                                              (some ([2, 2], true))
                                              (iteO (op == 35)
                                                (some ([2, 2], true))
                                                (iteO (op == 36)
                                                  (some ([2, 2], true))
                                                  (some ([], false))))))))))))))))))))))))))
def a153 (x : Int) : List AV := [.int .i64 x]
def v153 (r : (List Int) × Bool) : AV := .tuple [.sl false 1 (List.map (cI .i64) r.1), .bool r.2]
theorem i153 (x y : Int) (h : nzs (a153 x) = nzs (a153 y)) : x = y := by
  simp only [nzs, a153, List.map_cons, List.map_nil, nzV_agg, nzV_int, nzV_bool, nzV_str, nzV_sl, nzL_sl, List.cons.injEq, AV.agg.injEq, AV.int.injEq, AV.bool.injEq, AV.str.injEq, true_and, and_true, or_true] at h
  first | exact h | (obtain ⟨x1, x2⟩ := x; simp_all [Prod.ext_iff]) | simp_all [Prod.ext_iff]
theorem w153 (x : Int) : wks (a153 x) = true := by
  simp only [wks, a153, wkV, wkL, List.all_cons, List.all_nil, Bool.not_false, Bool.and_self, Bool.and_true]
theorem d153 (x : Int) : allData (a153 x) = true := by
  simp only [a153, push_cast]
def sh153 : Shp := .tup [.leaf (some 1), .leaf none]
noncomputable def t153 : List AV → Option AV := TL a153 fun x => bindO (F153 x) fun r => some (v153 r)
@[push_cast] theorem v153_eq (r : (List Int) × Bool) : v153 r = .tuple [.sl false 1 (List.map (cI .i64) r.1), .bool r.2] := rfl
/-! ## 154: slices.Equal[[]int,int] -/
def H154 : Nat → Hint := fun i => [⟨[0, 1, 12, 13], [], []⟩, ⟨[], [0, 1, 12, 13], []⟩].getD (i - 0) ⟨[], [], []⟩
@[push_cast] theorem H154_0 : H154 0 = ⟨[0, 1, 12, 13], [], []⟩ := rfl
@[push_cast] theorem H154_1 : H154 1 = ⟨[], [0, 1, 12, 13], []⟩ := rfl
def F154_s1 (s2q : List Int) (s3 : Unit) (i1 : Nat) (x2 : Int) : Option (Sum (Unit) (Bool)) :=
  bindO (atO s2q (i1 : Int)) fun x4 =>
  iteO (x2 == x4)
  (some (.inl ()))
  (some (.inr false))
def F154_f1  (s3 : Unit) : Option (Bool) :=
  some true
def F154 (N : Nat) (s1q : List Int) (s2q : List Int) : Option (Bool) :=
  iteO ((s1q.length : Int) == (s2q.length : Int))
  (foldN (S := Unit) (F154_s1 s2q) (F154_f1) N s1q 0 ())
  (some false)
def a154 (x : (List Int) × (List Int)) : List AV := [.sl false 1 (List.map (cI .i64) x.1), .sl false 1 (List.map (cI .i64) x.2)]
def v154 (r : Bool) : AV := .bool r
theorem i154 (x y : (List Int) × (List Int)) (h : nzs (a154 x) = nzs (a154 y)) : x = y := by
  simp only [nzs, a154, List.map_cons, List.map_nil, nzV_agg, nzV_int, nzV_bool, nzV_str, nzV_sl, nzL_sl, List.cons.injEq, AV.agg.injEq, AV.int.injEq, AV.bool.injEq, AV.str.injEq, true_and, and_true, or_true, map_inj_iff (cI_inj .i64)] at h
  first | exact h | (obtain ⟨x1, x2⟩ := x; simp_all [Prod.ext_iff]) | simp_all [Prod.ext_iff]
theorem w154 (x : (List Int) × (List Int)) : wks (a154 x) = true := by
  simp only [wks, a154, wkV, wkL, List.all_cons, List.all_nil, Bool.not_false, Bool.and_self, Bool.and_true]
theorem d154 (x : (List Int) × (List Int)) : allData (a154 x) = true := by
  simp only [a154, push_cast]
def sh154 : Shp := .one (.leaf none)
noncomputable def t154 (N : Nat) : List AV → Option AV := TL a154 fun x => bindO (F154 N x.1 x.2) fun r => some (v154 r)
@[push_cast] theorem v154_eq (r : Bool) : v154 r = .bool r := rfl
/-! ## 117: quantale/logic.shape -/
def H117 : Nat → Hint := fun i => [⟨[1, 3, 14, 15, 16], [1, 3], []⟩, ⟨[], [1, 3, 14, 15, 16], []⟩, ⟨[], [], []⟩].getD (i - 0) ⟨[], [], []⟩
@[push_cast] theorem H117_0 : H117 0 = ⟨[1, 3, 14, 15, 16], [1, 3], []⟩ := rfl
@[push_cast] theorem H117_1 : H117 1 = ⟨[], [1, 3, 14, 15, 16], []⟩ := rfl
@[push_cast] theorem H117_2 : H117 2 = ⟨[], [], []⟩ := rfl
def H155 : Nat → Hint := fun _ => ⟨[], [], []⟩
def F117_s1 (N : Nat) (s3 : List Int) (i1 : Nat) (x2 : Node) : Option (Sum (List Int) (Bool)) :=
  bindO (F36 N x2) fun r4 =>
  bindO (atO s3 (i1 : Int)) fun x5 =>
  some (.inl (s3.set i1 r4))
def F117_f1 (N : Nat) (n : Node) (s3 : List Int) : Option (Bool) :=
  bindO (F153 n.op) fun r6 =>
  iteO r6.2
  (bindO (F154 N s3 r6.1) fun r7 =>
    some r7)
  (iteO (n.op == 8)
    (iteO (((s3.length : Int)) == 3)
      (bindO (atO s3 0) fun x8 =>
        iteO (x8 == 2)
        (bindO (atO s3 1) fun x9 =>
          bindO (atO s3 2) fun x10 =>
          iteO (x9 == x10)
          (iteO (x9 == 1)
            (some true)
            (some (decide (x9 ≥ 3))))
          (some false))
        (some false))
      (some false))
    (iteO (n.op == 37)
      (iteO (((s3.length : Int)) == 2)
        (bindO (atO s3 0) fun x11 =>
          bindO (atO s3 1) fun x12 =>
          iteO (x11 == x12)
          (iteO (x11 == 1)
            (some true)
            (some (decide (x11 ≥ 3))))
          (some false))
        (some false))
      (iteO (n.op == 3)
        (some (decide (((s3.length : Int)) ≤ 8)))
        (iteO (n.op == 42)
          (iteO (decide (((s3.length : Int)) ≥ 1))
            (some (decide (((s3.length : Int)) ≤ 40)))
            (some false))
          (some false)))))
def F117 (N : Nat) (n : Node) : Option (Bool) :=
  iteO (decide (0 ≤ (n.kids.length : Int) ∧ (n.kids.length : Int) ≤ (n.kids.length : Int) ∧ (n.kids.length : Int) * 8 ≤ 140737488355328 ∧ (n.kids.length : Int) ≤ 9223372036854775807))
  (foldN (S := List Int) (F117_s1 N) (F117_f1 N n) N n.kids 0 (List.replicate n.kids.length 0))
  (none)
def a117 (x : Node) : List AV := [.agg (Node.cells x)]
def v117 (r : Bool) : AV := .bool r
theorem i117 (x y : Node) (h : nzs (a117 x) = nzs (a117 y)) : x = y := by
  simp only [nzs, a117, List.map_cons, List.map_nil, nzV_agg, nzV_int, nzV_bool, nzV_str, nzV_sl, nzL_sl, List.cons.injEq, AV.agg.injEq, AV.int.injEq, AV.bool.injEq, AV.str.injEq, true_and, and_true, or_true, Node.nz_iff] at h
  first | exact h | (obtain ⟨x1, x2⟩ := x; simp_all [Prod.ext_iff]) | simp_all [Prod.ext_iff]
theorem w117 (x : Node) : wks (a117 x) = true := by
  simp only [wks, a117, wkV, wkL, Node.wk, List.all_cons, List.all_nil, Bool.not_false, Bool.and_self, Bool.and_true]
theorem d117 (x : Node) : allData (a117 x) = true := by
  simp only [a117, push_cast]
def sh117 : Shp := .one (.leaf none)
noncomputable def t117 (N : Nat) : List AV → Option AV := TL a117 fun x => bindO (F117 N x) fun r => some (v117 r)
@[push_cast] theorem v117_eq (r : Bool) : v117 r = .bool r := rfl
@[push_cast] theorem t36_1 {N : Nat} (z1 : Int) (z2 : Int) (z3 : ByteArray) (z4 : Int) (z5 : List Node) : t36 N [.agg [.int .i64 z1, .int .i64 z2, .str z3, .int .i64 z4, .sl false 5 (List.map Node.cells z5)]] = bindO (F36 N (⟨z1, z2, z3, z4, z5⟩ : Node)) fun r => some (v36 r) :=
  TL_hit i36 (⟨z1, z2, z3, z4, z5⟩ : Node) (by first | (simp only [a36, push_cast]; done) | (simp only [a36, push_cast]; rfl))
@[push_cast] theorem t153_1 (z1 : Int) : t153 [.int .i64 z1] = bindO (F153 z1) fun r => some (v153 r) :=
  TL_hit i153 z1 (by first | (simp only [a153, push_cast]; done) | (simp only [a153, push_cast]; rfl))
@[push_cast] theorem t154_1 {N : Nat} (z1 : List Int) (z2 : List Int) : t154 N [.sl false 1 (List.map (cI .i64) z1), .sl false 1 (List.map (cI .i64) z2)] = bindO (F154 N z1 z2) fun r => some (v154 r) :=
  TL_hit i154 (z1, z2) (by first | (simp only [a154, push_cast]; done) | (simp only [a154, push_cast]; rfl))
/-! ## 71: quantale/logic.sorted -/
def H71 : Nat → Hint := fun i => [⟨[], [2], []⟩, ⟨[], [2], []⟩].getD (i - 0) ⟨[], [], []⟩
@[push_cast] theorem H71_0 : H71 0 = ⟨[], [2], []⟩ := rfl
@[push_cast] theorem H71_1 : H71 1 = ⟨[], [2], []⟩ := rfl
def F71_s1 (N : Nat) (s3 : Unit) (x2 : Node) : Option (Sum (Unit) (Bool)) :=
  bindO (F116 N x2) fun r4 =>
  iteO r4
  (bindO (F117 N x2) fun r5 =>
    iteO r5
    (some (.inl ()))
    (some (.inr false)))
  (some (.inr false))
def F71_f1  (s3 : Unit) : Option (Bool) :=
  some true
def F71 (N : Nat) (n : Node) : Option (Bool) :=
  bindO (walkO n) fun l1 =>
  foldO (S := Unit) (F71_s1 N) (F71_f1) l1 ()
def a71 (x : Node) : List AV := [.agg (Node.cells x)]
def v71 (r : Bool) : AV := .bool r
theorem i71 (x y : Node) (h : nzs (a71 x) = nzs (a71 y)) : x = y := by
  simp only [nzs, a71, List.map_cons, List.map_nil, nzV_agg, nzV_int, nzV_bool, nzV_str, nzV_sl, nzL_sl, List.cons.injEq, AV.agg.injEq, AV.int.injEq, AV.bool.injEq, AV.str.injEq, true_and, and_true, or_true, Node.nz_iff] at h
  first | exact h | (obtain ⟨x1, x2⟩ := x; simp_all [Prod.ext_iff]) | simp_all [Prod.ext_iff]
theorem w71 (x : Node) : wks (a71 x) = true := by
  simp only [wks, a71, wkV, wkL, Node.wk, List.all_cons, List.all_nil, Bool.not_false, Bool.and_self, Bool.and_true]
theorem d71 (x : Node) : allData (a71 x) = true := by
  simp only [a71, push_cast]
def sh71 : Shp := .one (.leaf none)
noncomputable def t71 (N : Nat) : List AV → Option AV := TL a71 fun x => bindO (F71 N x) fun r => some (v71 r)
@[push_cast] theorem v71_eq (r : Bool) : v71 r = .bool r := rfl
@[push_cast] theorem t116_1 {N : Nat} (z1 : Int) (z2 : Int) (z3 : ByteArray) (z4 : Int) (z5 : List Node) : t116 N [.agg [.int .i64 z1, .int .i64 z2, .str z3, .int .i64 z4, .sl false 5 (List.map Node.cells z5)]] = bindO (F116 N (⟨z1, z2, z3, z4, z5⟩ : Node)) fun r => some (v116 r) :=
  TL_hit i116 (⟨z1, z2, z3, z4, z5⟩ : Node) (by first | (simp only [a116, push_cast]; done) | (simp only [a116, push_cast]; rfl))
@[push_cast] theorem t117_1 {N : Nat} (z1 : Int) (z2 : Int) (z3 : ByteArray) (z4 : Int) (z5 : List Node) : t117 N [.agg [.int .i64 z1, .int .i64 z2, .str z3, .int .i64 z4, .sl false 5 (List.map Node.cells z5)]] = bindO (F117 N (⟨z1, z2, z3, z4, z5⟩ : Node)) fun r => some (v117 r) :=
  TL_hit i117 (⟨z1, z2, z3, z4, z5⟩ : Node) (by first | (simp only [a117, push_cast]; done) | (simp only [a117, push_cast]; rfl))
/-! ## 40: quantale/logic.Uniform -/
def H40 : Nat → Hint := fun i => [⟨[], [2], []⟩, ⟨[], [2, 3], []⟩].getD (i - 0) ⟨[], [], []⟩
@[push_cast] theorem H40_0 : H40 0 = ⟨[], [2], []⟩ := rfl
@[push_cast] theorem H40_1 : H40 1 = ⟨[], [2, 3], []⟩ := rfl
def F40_s1  (s3 : ByteArray → Option Int) (x2 : Node) : Option (Sum (ByteArray → Option Int) (Bool)) :=
  iteO (x2.op == 3)
  (optO (s3 x2.name) (fun m4 =>
    iteO ((x2.kids.length : Int) == 0)
      (iteO (m4 == (-4611686018427387904))
        (iteO (x2.op == 1)
          (some (.inr false))
          (some (.inl (putM s3 x2.name (-4611686018427387904)))))
        (some (.inr false)))
      (iteO (x2.op == 1)
        (iteO (m4 == (-4611686018427387904))
          (some (.inr false))
          (optO (s3 x2.name) (fun m5 =>
            iteO (m5 == x2.sortf)
              (some (.inl (putM s3 x2.name x2.sortf)))
              (some (.inr false)))
            (some (.inl (putM s3 x2.name x2.sortf)))))
        (some (.inl s3))))
    (iteO ((x2.kids.length : Int) == 0)
      (iteO (x2.op == 1)
        (optO ((putM s3 x2.name (-4611686018427387904)) x2.name) (fun m6 =>
          iteO (m6 == x2.sortf)
            (some (.inl (putM (putM s3 x2.name (-4611686018427387904)) x2.name x2.sortf)))
            (some (.inr false)))
          (some (.inl (putM (putM s3 x2.name (-4611686018427387904)) x2.name x2.sortf))))
        (some (.inl (putM s3 x2.name (-4611686018427387904)))))
      (iteO (x2.op == 1)
        (optO (s3 x2.name) (fun m7 =>
          iteO (m7 == x2.sortf)
            (some (.inl (putM s3 x2.name x2.sortf)))
            (some (.inr false)))
          (some (.inl (putM s3 x2.name x2.sortf))))
        (some (.inl s3)))))
  (optO (s3 x2.name) (fun m8 =>
    iteO (x2.op == 1)
      (iteO (m8 == (-4611686018427387904))
        (some (.inr false))
        (optO (s3 x2.name) (fun m9 =>
          iteO (m9 == x2.sortf)
            (some (.inl (putM s3 x2.name x2.sortf)))
            (some (.inr false)))
          (some (.inl (putM s3 x2.name x2.sortf)))))
      (some (.inl s3)))
    (iteO (x2.op == 1)
      (optO (s3 x2.name) (fun m10 =>
        iteO (m10 == x2.sortf)
          (some (.inl (putM s3 x2.name x2.sortf)))
          (some (.inr false)))
        (some (.inl (putM s3 x2.name x2.sortf))))
      (some (.inl s3))))
def F40_f1  (s3 : ByteArray → Option Int) : Option (Bool) :=
  some true
def F40 (n : Node) : Option (Bool) :=
  bindO (walkO n) fun l1 =>
  foldO (S := ByteArray → Option Int) (F40_s1) (F40_f1) l1 (fun _ => none)
def a40 (x : Node) : List AV := [.agg (Node.cells x)]
def v40 (r : Bool) : AV := .bool r
theorem i40 (x y : Node) (h : nzs (a40 x) = nzs (a40 y)) : x = y := by
  simp only [nzs, a40, List.map_cons, List.map_nil, nzV_agg, nzV_int, nzV_bool, nzV_str, nzV_sl, nzL_sl, List.cons.injEq, AV.agg.injEq, AV.int.injEq, AV.bool.injEq, AV.str.injEq, true_and, and_true, or_true, Node.nz_iff] at h
  first | exact h | (obtain ⟨x1, x2⟩ := x; simp_all [Prod.ext_iff]) | simp_all [Prod.ext_iff]
theorem w40 (x : Node) : wks (a40 x) = true := by
  simp only [wks, a40, wkV, wkL, Node.wk, List.all_cons, List.all_nil, Bool.not_false, Bool.and_self, Bool.and_true]
theorem d40 (x : Node) : allData (a40 x) = true := by
  simp only [a40, push_cast]
def sh40 : Shp := .one (.leaf none)
noncomputable def t40 : List AV → Option AV := TL a40 fun x => bindO (F40 x) fun r => some (v40 r)
@[push_cast] theorem v40_eq (r : Bool) : v40 r = .bool r := rfl
theorem mk98 {E : Env} {fr : Fr} {σ : Store} {t : Nat} (hty : E.ty = tys) : run (aOp E fr σ t (.makeMap 98 none)) = newObj σ (.map .string (mS (evI .i64) fun _ => none)) (.map σ.length) := by
  rw [r_makeMap, hty, ← mS_empty (evI .i64)]
  simp only [push_cast, ty98, ty9]
  rfl
/-! ## 14: quantale/logic.Check -/
def H14 : Nat → Hint := fun i => [⟨[], [], []⟩].getD (i - 0) ⟨[], [], []⟩
@[push_cast] theorem H14_0 : H14 0 = ⟨[], [], []⟩ := rfl
def F14 (N : Nat) (n : Node) (sortq : Int) : Option (Int) :=
  iteO (decide (sortq < 0))
  (some 1)
  (iteO (decide (sortq > 5))
    (some 1)
    (bindO (F70 N n) fun r1 =>
      iteO r1
      (bindO (F71 N n) fun r2 =>
        iteO r2
        (bindO (F40 n) fun r3 =>
          iteO r3
          (iteO (sortq == 0)
            (some 0)
            (bindO (F36 N n) fun r4 =>
              iteO (r4 == sortq)
              (some 0)
              (some 10)))
          (some 3))
        (some 3))
      (some 2)))
def a14 (x : Node × Int) : List AV := [.agg (Node.cells x.1), .int .i64 x.2]
def v14 (r : Int) : AV := .int .i64 r
theorem i14 (x y : Node × Int) (h : nzs (a14 x) = nzs (a14 y)) : x = y := by
  simp only [nzs, a14, List.map_cons, List.map_nil, nzV_agg, nzV_int, nzV_bool, nzV_str, nzV_sl, nzL_sl, List.cons.injEq, AV.agg.injEq, AV.int.injEq, AV.bool.injEq, AV.str.injEq, true_and, and_true, or_true, Node.nz_iff] at h
  first | exact h | (obtain ⟨x1, x2⟩ := x; simp_all [Prod.ext_iff]) | simp_all [Prod.ext_iff]
theorem w14 (x : Node × Int) : wks (a14 x) = true := by
  simp only [wks, a14, wkV, wkL, Node.wk, List.all_cons, List.all_nil, Bool.not_false, Bool.and_self, Bool.and_true]
theorem d14 (x : Node × Int) : allData (a14 x) = true := by
  simp only [a14, push_cast]
def sh14 : Shp := .one (.leaf none)
noncomputable def t14 (N : Nat) : List AV → Option AV := TL a14 fun x => bindO (F14 N x.1 x.2) fun r => some (v14 r)
@[push_cast] theorem v14_eq (r : Int) : v14 r = .int .i64 r := rfl
@[push_cast] theorem t70_1 {N : Nat} (z1 : Int) (z2 : Int) (z3 : ByteArray) (z4 : Int) (z5 : List Node) : t70 N [.agg [.int .i64 z1, .int .i64 z2, .str z3, .int .i64 z4, .sl false 5 (List.map Node.cells z5)]] = bindO (F70 N (⟨z1, z2, z3, z4, z5⟩ : Node)) fun r => some (v70 r) :=
  TL_hit i70 (⟨z1, z2, z3, z4, z5⟩ : Node) (by first | (simp only [a70, push_cast]; done) | (simp only [a70, push_cast]; rfl))
@[push_cast] theorem t71_1 {N : Nat} (z1 : Int) (z2 : Int) (z3 : ByteArray) (z4 : Int) (z5 : List Node) : t71 N [.agg [.int .i64 z1, .int .i64 z2, .str z3, .int .i64 z4, .sl false 5 (List.map Node.cells z5)]] = bindO (F71 N (⟨z1, z2, z3, z4, z5⟩ : Node)) fun r => some (v71 r) :=
  TL_hit i71 (⟨z1, z2, z3, z4, z5⟩ : Node) (by first | (simp only [a71, push_cast]; done) | (simp only [a71, push_cast]; rfl))
@[push_cast] theorem t40_1 (z1 : Int) (z2 : Int) (z3 : ByteArray) (z4 : Int) (z5 : List Node) : t40 [.agg [.int .i64 z1, .int .i64 z2, .str z3, .int .i64 z4, .sl false 5 (List.map Node.cells z5)]] = bindO (F40 (⟨z1, z2, z3, z4, z5⟩ : Node)) fun r => some (v40 r) :=
  TL_hit i40 (⟨z1, z2, z3, z4, z5⟩ : Node) (by first | (simp only [a40, push_cast]; done) | (simp only [a40, push_cast]; rfl))
/-! ## 78: quantale/logic.order[int] -/
def H78 : Nat → Hint := fun _ => ⟨[], [], []⟩
def F78 (a : Int) (b : Int) : Option (Int) :=
  iteO (decide (a < b))
  (some (-1))
  (iteO (decide (a > b))
    (some 1)
    (some 0))
def a78 (x : Int × Int) : List AV := [.int .i64 x.1, .int .i64 x.2]
def v78 (r : Int) : AV := .int .i64 r
theorem i78 (x y : Int × Int) (h : nzs (a78 x) = nzs (a78 y)) : x = y := by
  simp only [nzs, a78, List.map_cons, List.map_nil, nzV_agg, nzV_int, nzV_bool, nzV_str, nzV_sl, nzL_sl, List.cons.injEq, AV.agg.injEq, AV.int.injEq, AV.bool.injEq, AV.str.injEq, true_and, and_true, or_true] at h
  first | exact h | (obtain ⟨x1, x2⟩ := x; simp_all [Prod.ext_iff]) | simp_all [Prod.ext_iff]
theorem w78 (x : Int × Int) : wks (a78 x) = true := by
  simp only [wks, a78, wkV, wkL, List.all_cons, List.all_nil, Bool.not_false, Bool.and_self, Bool.and_true]
theorem d78 (x : Int × Int) : allData (a78 x) = true := by
  simp only [a78, push_cast]
def sh78 : Shp := .one (.leaf none)
noncomputable def t78 : List AV → Option AV := TL a78 fun x => bindO (F78 x.1 x.2) fun r => some (v78 r)
@[push_cast] theorem v78_eq (r : Int) : v78 r = .int .i64 r := rfl
/-! ## 94: quantale/logic.Vars$1 -/
def H94 : Nat → Hint := fun _ => ⟨[], [], []⟩
def F94 (a : Decl) (b : Decl) : Option (Int) :=
  bindO (F79 a.declName b.declName) fun r1 =>
  iteO (r1 == 0)
  (bindO (F78 a.declSort b.declSort) fun r2 =>
    some r2)
  (some r1)
def a94 (x : Decl × Decl) : List AV := [.agg (Decl.cells x.1), .agg (Decl.cells x.2)]
def v94 (r : Int) : AV := .int .i64 r
theorem i94 (x y : Decl × Decl) (h : nzs (a94 x) = nzs (a94 y)) : x = y := by
  simp only [nzs, a94, List.map_cons, List.map_nil, nzV_agg, nzV_int, nzV_bool, nzV_str, nzV_sl, nzL_sl, List.cons.injEq, AV.agg.injEq, AV.int.injEq, AV.bool.injEq, AV.str.injEq, true_and, and_true, or_true, Decl.nz_iff] at h
  first | exact h | (obtain ⟨x1, x2⟩ := x; simp_all [Prod.ext_iff]) | simp_all [Prod.ext_iff]
theorem w94 (x : Decl × Decl) : wks (a94 x) = true := by
  simp only [wks, a94, wkV, wkL, Decl.wk, List.all_cons, List.all_nil, Bool.not_false, Bool.and_self, Bool.and_true]
theorem d94 (x : Decl × Decl) : allData (a94 x) = true := by
  simp only [a94, push_cast]
def sh94 : Shp := .one (.leaf none)
noncomputable def t94 : List AV → Option AV := TL a94 fun x => bindO (F94 x.1 x.2) fun r => some (v94 r)
@[push_cast] theorem v94_eq (r : Int) : v94 r = .int .i64 r := rfl
@[push_cast] theorem t79_1 (z1 : ByteArray) (z2 : ByteArray) : t79 [.str z1, .str z2] = bindO (F79 z1 z2) fun r => some (v79 r) :=
  TL_hit i79 (z1, z2) (by first | (simp only [a79, push_cast]; done) | (simp only [a79, push_cast]; rfl))
@[push_cast] theorem t78_1 (z1 : Int) (z2 : Int) : t78 [.int .i64 z1, .int .i64 z2] = bindO (F78 z1 z2) fun r => some (v78 r) :=
  TL_hit i78 (z1, z2) (by first | (simp only [a78, push_cast]; done) | (simp only [a78, push_cast]; rfl))
/-! ## 46: quantale/logic.Vars -/
def H46 : Nat → Hint := fun i => [⟨[], [3], [.ownS 2 0 2]⟩, ⟨[], [3], []⟩].getD (i - 0) ⟨[], [], []⟩
@[push_cast] theorem H46_0 : H46 0 = ⟨[], [3], [.ownS 2 0 2]⟩ := rfl
@[push_cast] theorem H46_1 : H46 1 = ⟨[], [3], []⟩ := rfl
def H93 : Nat → Hint := fun _ => ⟨[], [], []⟩
def H138 : Nat → Hint := fun i => [⟨[0, 2, 4, 8, 9, 10], [0, 2, 4, 8, 9], []⟩, ⟨[], [0, 2, 4, 8, 9, 10], []⟩].getD (i - 0) ⟨[], [], []⟩
@[push_cast] theorem H138_0 : H138 0 = ⟨[0, 2, 4, 8, 9, 10], [0, 2, 4, 8, 9], []⟩ := rfl
@[push_cast] theorem H138_1 : H138 1 = ⟨[], [0, 2, 4, 8, 9, 10], []⟩ := rfl
def H139 : Nat → Hint := fun _ => ⟨[], [], []⟩
def F46_s3 (s6 : List Decl) (x5 : Node) (s7 : Int × Int) : Option (Sum (Int × Int) (Sum (List Decl) (List Decl))) :=
  iteO (decide (s7.2 < s7.1))
  (bindO (atO s6 (IntKind.i64.wrap ((IntKind.u64.wrap (IntKind.i64.wrap (s7.2 + s7.1))).fdiv (2 ^ (min (1 : Int).toNat (IntKind.u64).bits))))) fun x8 =>
    bindO (F94 x8 (⟨x5.name, x5.sortf⟩ : Decl)) fun r9 =>
    iteO (decide (r9 < 0))
    (some (.inl (s7.1, IntKind.i64.wrap ((IntKind.i64.wrap ((IntKind.u64.wrap (IntKind.i64.wrap (s7.2 + s7.1))).fdiv (2 ^ (min (1 : Int).toNat (IntKind.u64).bits)))) + 1))))
    (some (.inl (IntKind.i64.wrap ((IntKind.u64.wrap (IntKind.i64.wrap (s7.2 + s7.1))).fdiv (2 ^ (min (1 : Int).toNat (IntKind.u64).bits))), s7.2))))
  (iteO (decide (s7.2 < ((s6.length : Int))))
    (bindO (atO s6 s7.2) fun x10 =>
      bindO (F94 x10 (⟨x5.name, x5.sortf⟩ : Decl)) fun r11 =>
      iteO (r11 == 0)
      (some (.inr (.inl s6)))
      (iteO (inS s7.2 ((s6.length : Int)) s6.length)
        (iteO (s7.2 == ((s6.length : Int)))
          (iteO (fits (s6.length + 1) 24)
            (some (.inr (.inl (s6 ++ ([(⟨x5.name, x5.sortf⟩ : Decl)])))))
            (none))
          (none))
        (none)))
    (iteO (inS s7.2 ((s6.length : Int)) s6.length)
      (iteO (s7.2 == ((s6.length : Int)))
        (iteO (fits (s6.length + 1) 24)
          (some (.inr (.inl (s6 ++ ([(⟨x5.name, x5.sortf⟩ : Decl)])))))
          (none))
        (none))
      (none)))
def F46_s2 (N : Nat) (s6 : List Decl) (x5 : Node) : Option (Sum (List Decl) (List Decl)) :=
  iteO (x5.op == 1)
  (whileN (S := Int × Int) (F46_s3 s6 x5) N (((s6.length : Int)), 0))
  (some (.inl s6))
def F46_f2  (s6 : List Decl) : Option (List Decl) :=
  some s6
def F46 (N : Nat) (n : Node) : Option (List Decl) :=
  bindO (walkO n) fun l4 =>
  foldO (S := List Decl) (F46_s2 N) (F46_f2) l4 ([])
def a46 (x : Node) : List AV := [.agg (Node.cells x)]
def v46 (r : List Decl) : AV := .sl false 2 (List.map Decl.cells r)
theorem i46 (x y : Node) (h : nzs (a46 x) = nzs (a46 y)) : x = y := by
  simp only [nzs, a46, List.map_cons, List.map_nil, nzV_agg, nzV_int, nzV_bool, nzV_str, nzV_sl, nzL_sl, List.cons.injEq, AV.agg.injEq, AV.int.injEq, AV.bool.injEq, AV.str.injEq, true_and, and_true, or_true, Node.nz_iff] at h
  first | exact h | (obtain ⟨x1, x2⟩ := x; simp_all [Prod.ext_iff]) | simp_all [Prod.ext_iff]
theorem w46 (x : Node) : wks (a46 x) = true := by
  simp only [wks, a46, wkV, wkL, Node.wk, List.all_cons, List.all_nil, Bool.not_false, Bool.and_self, Bool.and_true]
theorem d46 (x : Node) : allData (a46 x) = true := by
  simp only [a46, push_cast]
def sh46 : Shp := .one (.leaf (some 2))
noncomputable def t46 (N : Nat) : List AV → Option AV := TL a46 fun x => bindO (F46 N x) fun r => some (v46 r)
@[push_cast] theorem v46_eq (r : List Decl) : v46 r = .sl false 2 (List.map Decl.cells r) := rfl
@[push_cast] theorem t94_1 (z1 : ByteArray) (z2 : Int) (z3 : ByteArray) (z4 : Int) : t94 [.agg [.str z1, .int .i64 z2], .agg [.str z3, .int .i64 z4]] = bindO (F94 (⟨z1, z2⟩ : Decl) (⟨z3, z4⟩ : Decl)) fun r => some (v94 r) :=
  TL_hit i94 ((⟨z1, z2⟩ : Decl), (⟨z3, z4⟩ : Decl)) (by first | (simp only [a94, push_cast]; done) | (simp only [a94, push_cast]; rfl))
/-! ## 12: quantale/quantalelaw01.awake -/
def H12 : Nat → Hint := fun _ => ⟨[], [], []⟩
def F12 (N : Nat) : Option (Bool) :=
  bindO (F14 N (⟨38, 0, (⟨#[]⟩ : ByteArray), 0, [(⟨1, 1, (⟨#[120]⟩ : ByteArray), 0, []⟩ : Node), (⟨2, 0, (⟨#[]⟩ : ByteArray), 1, []⟩ : Node)]⟩ : Node) 2) fun r1 =>
  iteO (r1 == 0)
  (bindO (F37 (⟨38, 0, (⟨#[]⟩ : ByteArray), 0, [(⟨1, 1, (⟨#[120]⟩ : ByteArray), 0, []⟩ : Node), (⟨2, 0, (⟨#[]⟩ : ByteArray), 1, []⟩ : Node)]⟩ : Node)) fun r2 =>
    iteO (r2 == 3)
    (bindO (F46 N (⟨38, 0, (⟨#[]⟩ : ByteArray), 0, [(⟨1, 1, (⟨#[120]⟩ : ByteArray), 0, []⟩ : Node), (⟨2, 0, (⟨#[]⟩ : ByteArray), 1, []⟩ : Node)]⟩ : Node)) fun r3 =>
      some ((r3.length : Int) == 1))
    (some false))
  (some false)
def a12 (x : Unit) : List AV := []
def v12 (r : Bool) : AV := .bool r
theorem i12 (x y : Unit) (h : nzs (a12 x) = nzs (a12 y)) : x = y := rfl
theorem w12 (x : Unit) : wks (a12 x) = true := by
  simp only [wks, a12, wkV, wkL, List.all_cons, List.all_nil, Bool.not_false, Bool.and_self, Bool.and_true]
theorem d12 (x : Unit) : allData (a12 x) = true := by
  simp only [a12, push_cast]
def sh12 : Shp := .one (.leaf none)
noncomputable def t12 (N : Nat) : List AV → Option AV := TL a12 fun x => bindO (F12 N) fun r => some (v12 r)
@[push_cast] theorem v12_eq (r : Bool) : v12 r = .bool r := rfl
@[push_cast] theorem t14_1 {N : Nat} (z1 : Int) (z2 : Int) (z3 : ByteArray) (z4 : Int) (z6 : Int) (z7 : Int) (z8 : ByteArray) (z9 : Int) (z11 : Int) (z12 : Int) (z13 : ByteArray) (z14 : Int) (z16 : Int) : t14 N [.agg [.int .i64 z1, .int .i64 z2, .str z3, .int .i64 z4, .sl true 5 [[.int .i64 z6, .int .i64 z7, .str z8, .int .i64 z9, .sl false 5 []], [.int .i64 z11, .int .i64 z12, .str z13, .int .i64 z14, .sl false 5 []]]], .int .i64 z16] = bindO (F14 N (⟨z1, z2, z3, z4, [(⟨z6, z7, z8, z9, []⟩ : Node), (⟨z11, z12, z13, z14, []⟩ : Node)]⟩ : Node) z16) fun r => some (v14 r) :=
  TL_hit i14 ((⟨z1, z2, z3, z4, [(⟨z6, z7, z8, z9, []⟩ : Node), (⟨z11, z12, z13, z14, []⟩ : Node)]⟩ : Node), z16) (by first | (simp only [a14, push_cast]; done) | (simp only [a14, push_cast]; rfl))
@[push_cast] theorem t14_2 {N : Nat} (z1 : Int) (z2 : Int) (z3 : ByteArray) (z4 : Int) (z6 : Int) (z7 : Int) (z8 : ByteArray) (z9 : Int) (z11 : Int) (z12 : Int) (z13 : ByteArray) (z14 : Int) (z16 : Int) : t14 N [.agg [.int .i64 z1, .int .i64 z2, .str z3, .int .i64 z4, .sl false 5 [[.int .i64 z6, .int .i64 z7, .str z8, .int .i64 z9, .sl false 5 []], [.int .i64 z11, .int .i64 z12, .str z13, .int .i64 z14, .sl false 5 []]]], .int .i64 z16] = bindO (F14 N (⟨z1, z2, z3, z4, [(⟨z6, z7, z8, z9, []⟩ : Node), (⟨z11, z12, z13, z14, []⟩ : Node)]⟩ : Node) z16) fun r => some (v14 r) :=
  TL_hit i14 ((⟨z1, z2, z3, z4, [(⟨z6, z7, z8, z9, []⟩ : Node), (⟨z11, z12, z13, z14, []⟩ : Node)]⟩ : Node), z16) (by first | (simp only [a14, push_cast]; done) | (simp only [a14, push_cast]; rfl))
@[push_cast] theorem t37_2 (z1 : Int) (z2 : Int) (z3 : ByteArray) (z4 : Int) (z6 : Int) (z7 : Int) (z8 : ByteArray) (z9 : Int) (z11 : Int) (z12 : Int) (z13 : ByteArray) (z14 : Int) : t37 [.agg [.int .i64 z1, .int .i64 z2, .str z3, .int .i64 z4, .sl true 5 [[.int .i64 z6, .int .i64 z7, .str z8, .int .i64 z9, .sl false 5 []], [.int .i64 z11, .int .i64 z12, .str z13, .int .i64 z14, .sl false 5 []]]]] = bindO (F37 (⟨z1, z2, z3, z4, [(⟨z6, z7, z8, z9, []⟩ : Node), (⟨z11, z12, z13, z14, []⟩ : Node)]⟩ : Node)) fun r => some (v37 r) :=
  TL_hit i37 (⟨z1, z2, z3, z4, [(⟨z6, z7, z8, z9, []⟩ : Node), (⟨z11, z12, z13, z14, []⟩ : Node)]⟩ : Node) (by first | (simp only [a37, push_cast]; done) | (simp only [a37, push_cast]; rfl))
@[push_cast] theorem t37_3 (z1 : Int) (z2 : Int) (z3 : ByteArray) (z4 : Int) (z6 : Int) (z7 : Int) (z8 : ByteArray) (z9 : Int) (z11 : Int) (z12 : Int) (z13 : ByteArray) (z14 : Int) : t37 [.agg [.int .i64 z1, .int .i64 z2, .str z3, .int .i64 z4, .sl false 5 [[.int .i64 z6, .int .i64 z7, .str z8, .int .i64 z9, .sl false 5 []], [.int .i64 z11, .int .i64 z12, .str z13, .int .i64 z14, .sl false 5 []]]]] = bindO (F37 (⟨z1, z2, z3, z4, [(⟨z6, z7, z8, z9, []⟩ : Node), (⟨z11, z12, z13, z14, []⟩ : Node)]⟩ : Node)) fun r => some (v37 r) :=
  TL_hit i37 (⟨z1, z2, z3, z4, [(⟨z6, z7, z8, z9, []⟩ : Node), (⟨z11, z12, z13, z14, []⟩ : Node)]⟩ : Node) (by first | (simp only [a37, push_cast]; done) | (simp only [a37, push_cast]; rfl))
@[push_cast] theorem t46_1 {N : Nat} (z1 : Int) (z2 : Int) (z3 : ByteArray) (z4 : Int) (z6 : Int) (z7 : Int) (z8 : ByteArray) (z9 : Int) (z11 : Int) (z12 : Int) (z13 : ByteArray) (z14 : Int) : t46 N [.agg [.int .i64 z1, .int .i64 z2, .str z3, .int .i64 z4, .sl true 5 [[.int .i64 z6, .int .i64 z7, .str z8, .int .i64 z9, .sl false 5 []], [.int .i64 z11, .int .i64 z12, .str z13, .int .i64 z14, .sl false 5 []]]]] = bindO (F46 N (⟨z1, z2, z3, z4, [(⟨z6, z7, z8, z9, []⟩ : Node), (⟨z11, z12, z13, z14, []⟩ : Node)]⟩ : Node)) fun r => some (v46 r) :=
  TL_hit i46 (⟨z1, z2, z3, z4, [(⟨z6, z7, z8, z9, []⟩ : Node), (⟨z11, z12, z13, z14, []⟩ : Node)]⟩ : Node) (by first | (simp only [a46, push_cast]; done) | (simp only [a46, push_cast]; rfl))
@[push_cast] theorem t46_2 {N : Nat} (z1 : Int) (z2 : Int) (z3 : ByteArray) (z4 : Int) (z6 : Int) (z7 : Int) (z8 : ByteArray) (z9 : Int) (z11 : Int) (z12 : Int) (z13 : ByteArray) (z14 : Int) : t46 N [.agg [.int .i64 z1, .int .i64 z2, .str z3, .int .i64 z4, .sl false 5 [[.int .i64 z6, .int .i64 z7, .str z8, .int .i64 z9, .sl false 5 []], [.int .i64 z11, .int .i64 z12, .str z13, .int .i64 z14, .sl false 5 []]]]] = bindO (F46 N (⟨z1, z2, z3, z4, [(⟨z6, z7, z8, z9, []⟩ : Node), (⟨z11, z12, z13, z14, []⟩ : Node)]⟩ : Node)) fun r => some (v46 r) :=
  TL_hit i46 (⟨z1, z2, z3, z4, [(⟨z6, z7, z8, z9, []⟩ : Node), (⟨z11, z12, z13, z14, []⟩ : Node)]⟩ : Node) (by first | (simp only [a46, push_cast]; done) | (simp only [a46, push_cast]; rfl))
/-! ## 27: quantale/quantaleref01.Size -/
def H27 : Nat → Hint := fun i => [⟨[3, 7, 8, 9], [3], []⟩, ⟨[], [3, 7, 8, 9], []⟩].getD (i - 0) ⟨[], [], []⟩
@[push_cast] theorem H27_0 : H27 0 = ⟨[3, 7, 8, 9], [3], []⟩ := rfl
@[push_cast] theorem H27_1 : H27 1 = ⟨[], [3, 7, 8, 9], []⟩ := rfl
def F27_s1 (self27 : Node → Option (Int)) (s3 : Int) (i1 : Nat) (x2 : Node) : Option (Sum (Int) (Int)) :=
  bindO (self27 x2) fun r4 =>
  some (.inl (IntKind.i64.wrap (s3 + r4)))
def F27_f1  (s3 : Int) : Option (Int) :=
  some s3
def F27b (self27 : Node → Option (Int)) (N : Nat) (n : Node) : Option (Int) :=
  foldN (S := Int) (F27_s1 self27) (F27_f1) N n.kids 0 1
def F27 : Nat → Node → Option (Int)
  | 0 => fun _ => none
  | N + 1 => fun n => F27b (F27 N) N n
def a27 (x : Node) : List AV := [.agg (Node.cells x)]
def v27 (r : Int) : AV := .int .i64 r
theorem i27 (x y : Node) (h : nzs (a27 x) = nzs (a27 y)) : x = y := by
  simp only [nzs, a27, List.map_cons, List.map_nil, nzV_agg, nzV_int, nzV_bool, nzV_str, nzV_sl, nzL_sl, List.cons.injEq, AV.agg.injEq, AV.int.injEq, AV.bool.injEq, AV.str.injEq, true_and, and_true, or_true, Node.nz_iff] at h
  first | exact h | (obtain ⟨x1, x2⟩ := x; simp_all [Prod.ext_iff]) | simp_all [Prod.ext_iff]
theorem w27 (x : Node) : wks (a27 x) = true := by
  simp only [wks, a27, wkV, wkL, Node.wk, List.all_cons, List.all_nil, Bool.not_false, Bool.and_self, Bool.and_true]
theorem d27 (x : Node) : allData (a27 x) = true := by
  simp only [a27, push_cast]
def sh27 : Shp := .one (.leaf none)
noncomputable def t27 (N : Nat) : List AV → Option AV := TL a27 fun x => bindO (F27 N x) fun r => some (v27 r)
@[push_cast] theorem v27_eq (r : Int) : v27 r = .int .i64 r := rfl
noncomputable def ts27 (self27 : Node → Option (Int)) : List AV → Option AV := TL a27 fun x => bindO (self27 x) fun r => some (v27 r)
@[push_cast] theorem t27_1 (self27 : Node → Option (Int)) (z1 : Int) (z2 : Int) (z3 : ByteArray) (z4 : Int) (z5 : List Node) : ts27 self27 [.agg [.int .i64 z1, .int .i64 z2, .str z3, .int .i64 z4, .sl false 5 (List.map Node.cells z5)]] = bindO (self27 (⟨z1, z2, z3, z4, z5⟩ : Node)) fun r => some (v27 r) :=
  TL_hit i27 (⟨z1, z2, z3, z4, z5⟩ : Node) (by first | (simp only [a27, push_cast]; done) | (simp only [a27, push_cast]; rfl))
/-! ## 13: quantale/quantalelaw01.small -/
def H13 : Nat → Hint := fun i => [⟨[0, 7, 8, 9], [0], []⟩, ⟨[], [0, 7, 8, 9], []⟩].getD (i - 0) ⟨[], [], []⟩
@[push_cast] theorem H13_0 : H13 0 = ⟨[0, 7, 8, 9], [0], []⟩ := rfl
@[push_cast] theorem H13_1 : H13 1 = ⟨[], [0, 7, 8, 9], []⟩ := rfl
def F13_s1 (N : Nat) (s3 : Int) (i1 : Nat) (x2 : Node) : Option (Sum (Int) (Bool)) :=
  bindO (F27 N x2) fun r4 =>
  some (.inl (IntKind.i64.wrap (s3 - r4)))
def F13_f1  (s3 : Int) : Option (Bool) :=
  some (decide (s3 ≥ 0))
def F13 (N : Nat) (most : Int) (l : List Node) : Option (Bool) :=
  foldN (S := Int) (F13_s1 N) (F13_f1) N l 0 most
def a13 (x : Int × (List Node)) : List AV := [.int .i64 x.1, .sl false 5 (List.map Node.cells x.2)]
def v13 (r : Bool) : AV := .bool r
theorem i13 (x y : Int × (List Node)) (h : nzs (a13 x) = nzs (a13 y)) : x = y := by
  simp only [nzs, a13, List.map_cons, List.map_nil, nzV_agg, nzV_int, nzV_bool, nzV_str, nzV_sl, nzL_sl, List.cons.injEq, AV.agg.injEq, AV.int.injEq, AV.bool.injEq, AV.str.injEq, true_and, and_true, or_true, map_inj_iff Node.cells_inj] at h
  first | exact h | (obtain ⟨x1, x2⟩ := x; simp_all [Prod.ext_iff]) | simp_all [Prod.ext_iff]
theorem w13 (x : Int × (List Node)) : wks (a13 x) = true := by
  simp only [wks, a13, wkV, wkL, List.all_cons, List.all_nil, Bool.not_false, Bool.and_self, Bool.and_true]
theorem d13 (x : Int × (List Node)) : allData (a13 x) = true := by
  simp only [a13, push_cast]
def sh13 : Shp := .one (.leaf none)
noncomputable def t13 (N : Nat) : List AV → Option AV := TL a13 fun x => bindO (F13 N x.1 x.2) fun r => some (v13 r)
@[push_cast] theorem v13_eq (r : Bool) : v13 r = .bool r := rfl
@[push_cast] theorem t27_2 {N : Nat} (z1 : Int) (z2 : Int) (z3 : ByteArray) (z4 : Int) (z5 : List Node) : t27 N [.agg [.int .i64 z1, .int .i64 z2, .str z3, .int .i64 z4, .sl false 5 (List.map Node.cells z5)]] = bindO (F27 N (⟨z1, z2, z3, z4, z5⟩ : Node)) fun r => some (v27 r) :=
  TL_hit i27 (⟨z1, z2, z3, z4, z5⟩ : Node) (by first | (simp only [a27, push_cast]; done) | (simp only [a27, push_cast]; rfl))
/-! ## 82: quantale/logic.copied -/
def H82 : Nat → Hint := fun i => [⟨[1, 2, 10, 11, 12], [1, 2], []⟩, ⟨[], [1, 2, 10, 11, 12], []⟩].getD (i - 0) ⟨[], [], []⟩
@[push_cast] theorem H82_0 : H82 0 = ⟨[1, 2, 10, 11, 12], [1, 2], []⟩ := rfl
@[push_cast] theorem H82_1 : H82 1 = ⟨[], [1, 2, 10, 11, 12], []⟩ := rfl
def F82_s1 (self82 : Node → Option (Node)) (s3 : List Node) (i1 : Nat) (x2 : Nat) : Option (Sum (List Node) (Node)) :=
  bindO (atO s3 (i1 : Int)) fun x4 =>
  bindO (self82 x4) fun r5 =>
  some (.inl (s3.set i1 r5))
def F82_f1 (n : Node) (s3 : List Node) : Option (Node) :=
  some (⟨n.op, n.sortf, n.name, n.num, s3⟩ : Node)
def F82b (self82 : Node → Option (Node)) (N : Nat) (n : Node) : Option (Node) :=
  iteO (fits (n.kids.length) 64)
  (foldN (S := List Node) (F82_s1 self82) (F82_f1 n) N (List.range ((n.kids.length : Int)).toNat) 0 n.kids)
  (none)
def F82 : Nat → Node → Option (Node)
  | 0 => fun _ => none
  | N + 1 => fun n => F82b (F82 N) N n
def a82 (x : Node) : List AV := [.agg (Node.cells x)]
def v82 (r : Node) : AV := .agg (Node.cells r)
theorem i82 (x y : Node) (h : nzs (a82 x) = nzs (a82 y)) : x = y := by
  simp only [nzs, a82, List.map_cons, List.map_nil, nzV_agg, nzV_int, nzV_bool, nzV_str, nzV_sl, nzL_sl, List.cons.injEq, AV.agg.injEq, AV.int.injEq, AV.bool.injEq, AV.str.injEq, true_and, and_true, or_true, Node.nz_iff] at h
  first | exact h | (obtain ⟨x1, x2⟩ := x; simp_all [Prod.ext_iff]) | simp_all [Prod.ext_iff]
theorem w82 (x : Node) : wks (a82 x) = true := by
  simp only [wks, a82, wkV, wkL, Node.wk, List.all_cons, List.all_nil, Bool.not_false, Bool.and_self, Bool.and_true]
theorem d82 (x : Node) : allData (a82 x) = true := by
  simp only [a82, push_cast]
def sh82 : Shp := .one (.agg [none, none, none, none, some 5])
noncomputable def t82 (N : Nat) : List AV → Option AV := TL a82 fun x => bindO (F82 N x) fun r => some (v82 r)
@[push_cast] theorem v82_eq (r : Node) : v82 r = .agg (Node.cells r) := rfl
noncomputable def ts82 (self82 : Node → Option (Node)) : List AV → Option AV := TL a82 fun x => bindO (self82 x) fun r => some (v82 r)
@[push_cast] theorem t82_1 (self82 : Node → Option (Node)) (z1 : Int) (z2 : Int) (z3 : ByteArray) (z4 : Int) (z5 : List Node) : ts82 self82 [.agg [.int .i64 z1, .int .i64 z2, .str z3, .int .i64 z4, .sl false 5 (List.map Node.cells z5)]] = bindO (self82 (⟨z1, z2, z3, z4, z5⟩ : Node)) fun r => some (v82 r) :=
  TL_hit i82 (⟨z1, z2, z3, z4, z5⟩ : Node) (by first | (simp only [a82, push_cast]; done) | (simp only [a82, push_cast]; rfl))
/-! ## 22: quantale/logic.SubstAll -/
def H22 : Nat → Hint := fun i => [⟨[1, 2, 3, 6, 18, 19], [1, 2, 3, 6], []⟩, ⟨[], [1, 2, 3, 6, 18, 19], []⟩, ⟨[1, 2, 3, 6, 8, 40, 41, 42], [3, 6, 8], []⟩, ⟨[], [1, 2, 3, 6, 8, 40, 41, 42], []⟩].getD (i - 0) ⟨[], [], []⟩
@[push_cast] theorem H22_0 : H22 0 = ⟨[1, 2, 3, 6, 18, 19], [1, 2, 3, 6], []⟩ := rfl
@[push_cast] theorem H22_1 : H22 1 = ⟨[], [1, 2, 3, 6, 18, 19], []⟩ := rfl
@[push_cast] theorem H22_2 : H22 2 = ⟨[1, 2, 3, 6, 8, 40, 41, 42], [3, 6, 8], []⟩ := rfl
@[push_cast] theorem H22_3 : H22 3 = ⟨[], [1, 2, 3, 6, 8, 40, 41, 42], []⟩ := rfl
def F22_s1 (N : Nat) (n : Node) (names : List ByteArray) (withq : List Node) (s3 : Unit) (i1 : Nat) (x2 : Nat) : Option (Sum (Unit) (Node)) :=
  bindO (atO names (i1 : Int)) fun x4 =>
  iteO (x4.toList == n.name.toList)
  (bindO (atO withq (i1 : Int)) fun x5 =>
    bindO (F82 N x5) fun r6 =>
    some (.inr r6))
  (some (.inl ()))
def F22_s2 (self22 : Node → (List ByteArray) → (List Node) → Option (Node)) (names : List ByteArray) (withq : List Node) (s9 : List Node) (i7 : Nat) (x8 : Node) : Option (Sum (List Node) (Node)) :=
  bindO (self22 x8 names withq) fun r10 =>
  iteO (fits (s9.length + 1) 64)
  (some (.inl (s9 ++ ([r10]))))
  (none)
def F22_f2 (n : Node) (s9 : List Node) : Option (Node) :=
  some (⟨n.op, n.sortf, n.name, n.num, s9⟩ : Node)
def F22_f1 (self22 : Node → (List ByteArray) → (List Node) → Option (Node)) (N : Nat) (n : Node) (names : List ByteArray) (withq : List Node) (s3 : Unit) : Option (Node) :=
  iteO (decide (0 ≤ 0 ∧ 0 ≤ (n.kids.length : Int) ∧ (n.kids.length : Int) * 64 ≤ 140737488355328 ∧ (n.kids.length : Int) ≤ 9223372036854775807))
  (foldN (S := List Node) (F22_s2 self22 names withq) (F22_f2 n) N n.kids 0 ([]))
  (none)
def F22_s3 (self22 : Node → (List ByteArray) → (List Node) → Option (Node)) (names : List ByteArray) (withq : List Node) (s13 : List Node) (i11 : Nat) (x12 : Node) : Option (Sum (List Node) (Node)) :=
  bindO (self22 x12 names withq) fun r14 =>
  iteO (fits (s13.length + 1) 64)
  (some (.inl (s13 ++ ([r14]))))
  (none)
def F22_f3 (n : Node) (s13 : List Node) : Option (Node) :=
  some (⟨n.op, n.sortf, n.name, n.num, s13⟩ : Node)
def F22b (self22 : Node → (List ByteArray) → (List Node) → Option (Node)) (N : Nat) (n : Node) (names : List ByteArray) (withq : List Node) : Option (Node) :=
  iteO (n.op == 1)
  (foldN (S := Unit) (F22_s1 N n names withq) (F22_f1 self22 N n names withq) N (List.range (min (names.length : Int) (withq.length : Int)).toNat) 0 ())
  (iteO (decide (0 ≤ 0 ∧ 0 ≤ (n.kids.length : Int) ∧ (n.kids.length : Int) * 64 ≤ 140737488355328 ∧ (n.kids.length : Int) ≤ 9223372036854775807))
    (foldN (S := List Node) (F22_s3 self22 names withq) (F22_f3 n) N n.kids 0 ([]))
    (none))
def F22 : Nat → Node → (List ByteArray) → (List Node) → Option (Node)
  | 0 => fun _ _ _ => none
  | N + 1 => fun n names withq => F22b (F22 N) N n names withq
def a22 (x : Node × (List ByteArray) × (List Node)) : List AV := [.agg (Node.cells x.1), .sl false 1 (List.map cS x.2.1), .sl false 5 (List.map Node.cells x.2.2)]
def v22 (r : Node) : AV := .agg (Node.cells r)
theorem i22 (x y : Node × (List ByteArray) × (List Node)) (h : nzs (a22 x) = nzs (a22 y)) : x = y := by
  simp only [nzs, a22, List.map_cons, List.map_nil, nzV_agg, nzV_int, nzV_bool, nzV_str, nzV_sl, nzL_sl, List.cons.injEq, AV.agg.injEq, AV.int.injEq, AV.bool.injEq, AV.str.injEq, true_and, and_true, or_true, Node.nz_iff, map_inj_iff Node.cells_inj, map_inj_iff cS_inj] at h
  first | exact h | (obtain ⟨x1, x2⟩ := x; simp_all [Prod.ext_iff]) | simp_all [Prod.ext_iff]
theorem w22 (x : Node × (List ByteArray) × (List Node)) : wks (a22 x) = true := by
  simp only [wks, a22, wkV, wkL, Node.wk, List.all_cons, List.all_nil, Bool.not_false, Bool.and_self, Bool.and_true]
theorem d22 (x : Node × (List ByteArray) × (List Node)) : allData (a22 x) = true := by
  simp only [a22, push_cast]
def sh22 : Shp := .one (.agg [none, none, none, none, some 5])
noncomputable def t22 (N : Nat) : List AV → Option AV := TL a22 fun x => bindO (F22 N x.1 x.2.1 x.2.2) fun r => some (v22 r)
@[push_cast] theorem v22_eq (r : Node) : v22 r = .agg (Node.cells r) := rfl
noncomputable def ts22 (self22 : Node → (List ByteArray) → (List Node) → Option (Node)) : List AV → Option AV := TL a22 fun x => bindO (self22 x.1 x.2.1 x.2.2) fun r => some (v22 r)
@[push_cast] theorem t82_2 {N : Nat} (z1 : Int) (z2 : Int) (z3 : ByteArray) (z4 : Int) (z5 : List Node) : t82 N [.agg [.int .i64 z1, .int .i64 z2, .str z3, .int .i64 z4, .sl false 5 (List.map Node.cells z5)]] = bindO (F82 N (⟨z1, z2, z3, z4, z5⟩ : Node)) fun r => some (v82 r) :=
  TL_hit i82 (⟨z1, z2, z3, z4, z5⟩ : Node) (by first | (simp only [a82, push_cast]; done) | (simp only [a82, push_cast]; rfl))
@[push_cast] theorem t22_1 (self22 : Node → (List ByteArray) → (List Node) → Option (Node)) (z1 : Int) (z2 : Int) (z3 : ByteArray) (z4 : Int) (z5 : List Node) (z6 : List ByteArray) (z7 : List Node) : ts22 self22 [.agg [.int .i64 z1, .int .i64 z2, .str z3, .int .i64 z4, .sl false 5 (List.map Node.cells z5)], .sl false 1 (List.map cS z6), .sl false 5 (List.map Node.cells z7)] = bindO (self22 (⟨z1, z2, z3, z4, z5⟩ : Node) z6 z7) fun r => some (v22 r) :=
  TL_hit i22 ((⟨z1, z2, z3, z4, z5⟩ : Node), z6, z7) (by first | (simp only [a22, push_cast]; done) | (simp only [a22, push_cast]; rfl))
/-! ## 83: quantale/quantaleref01.Same -/
def H83 : Nat → Hint := fun i => [⟨[2, 3, 17, 18, 19], [2, 3], [.ownS 2 4 5]⟩, ⟨[], [2, 3, 17, 18, 19], []⟩].getD (i - 0) ⟨[], [], []⟩
@[push_cast] theorem H83_0 : H83 0 = ⟨[2, 3, 17, 18, 19], [2, 3], [.ownS 2 4 5]⟩ := rfl
@[push_cast] theorem H83_1 : H83 1 = ⟨[], [2, 3, 17, 18, 19], []⟩ := rfl
def F83_s2 (self83 : Node → Option (Node)) (s6 : List Node) (i4 : Nat) (x5 : Node) : Option (Sum (List Node) (Node)) :=
  bindO (self83 x5) fun r7 =>
  iteO (fits (s6.length + 1) 64)
  (some (.inl (s6 ++ ([r7]))))
  (none)
def F83_f2 (n : Node) (s6 : List Node) : Option (Node) :=
  some (⟨n.op, n.sortf, n.name, n.num, s6⟩ : Node)
def F83b (self83 : Node → Option (Node)) (N : Nat) (n : Node) : Option (Node) :=
  foldN (S := List Node) (F83_s2 self83) (F83_f2 n) N n.kids 0 ([])
def F83 : Nat → Node → Option (Node)
  | 0 => fun _ => none
  | N + 1 => fun n => F83b (F83 N) N n
def a83 (x : Node) : List AV := [.agg (Node.cells x)]
def v83 (r : Node) : AV := .agg (Node.cells r)
theorem i83 (x y : Node) (h : nzs (a83 x) = nzs (a83 y)) : x = y := by
  simp only [nzs, a83, List.map_cons, List.map_nil, nzV_agg, nzV_int, nzV_bool, nzV_str, nzV_sl, nzL_sl, List.cons.injEq, AV.agg.injEq, AV.int.injEq, AV.bool.injEq, AV.str.injEq, true_and, and_true, or_true, Node.nz_iff] at h
  first | exact h | (obtain ⟨x1, x2⟩ := x; simp_all [Prod.ext_iff]) | simp_all [Prod.ext_iff]
theorem w83 (x : Node) : wks (a83 x) = true := by
  simp only [wks, a83, wkV, wkL, Node.wk, List.all_cons, List.all_nil, Bool.not_false, Bool.and_self, Bool.and_true]
theorem d83 (x : Node) : allData (a83 x) = true := by
  simp only [a83, push_cast]
def sh83 : Shp := .one (.agg [none, none, none, none, some 5])
noncomputable def t83 (N : Nat) : List AV → Option AV := TL a83 fun x => bindO (F83 N x) fun r => some (v83 r)
@[push_cast] theorem v83_eq (r : Node) : v83 r = .agg (Node.cells r) := rfl
noncomputable def ts83 (self83 : Node → Option (Node)) : List AV → Option AV := TL a83 fun x => bindO (self83 x) fun r => some (v83 r)
@[push_cast] theorem t83_1 (self83 : Node → Option (Node)) (z1 : Int) (z2 : Int) (z3 : ByteArray) (z4 : Int) (z5 : List Node) : ts83 self83 [.agg [.int .i64 z1, .int .i64 z2, .str z3, .int .i64 z4, .sl false 5 (List.map Node.cells z5)]] = bindO (self83 (⟨z1, z2, z3, z4, z5⟩ : Node)) fun r => some (v83 r) :=
  TL_hit i83 (⟨z1, z2, z3, z4, z5⟩ : Node) (by first | (simp only [a83, push_cast]; done) | (simp only [a83, push_cast]; rfl))
/-! ## 23: quantale/quantaleref01.SubstAll -/
def H23 : Nat → Hint := fun i => [⟨[1, 2, 3, 6, 7], [1, 2, 3, 6], []⟩, ⟨[], [1, 2, 3, 6, 7], []⟩, ⟨[1, 2, 6, 8, 49, 50, 51], [6, 8], [.ownS 2 4 5]⟩, ⟨[], [1, 2, 6, 8, 49, 50, 51], []⟩].getD (i - 0) ⟨[], [], []⟩
@[push_cast] theorem H23_0 : H23 0 = ⟨[1, 2, 3, 6, 7], [1, 2, 3, 6], []⟩ := rfl
@[push_cast] theorem H23_1 : H23 1 = ⟨[], [1, 2, 3, 6, 7], []⟩ := rfl
@[push_cast] theorem H23_2 : H23 2 = ⟨[1, 2, 6, 8, 49, 50, 51], [6, 8], [.ownS 2 4 5]⟩ := rfl
@[push_cast] theorem H23_3 : H23 3 = ⟨[], [1, 2, 6, 8, 49, 50, 51], []⟩ := rfl
def F23_s3 (self23 : Node → (List ByteArray) → (List Node) → Option (Node)) (names : List ByteArray) (withq : List Node) (s10 : List Node) (i8 : Nat) (x9 : Node) : Option (Sum (List Node) (Node)) :=
  bindO (self23 x9 names withq) fun r11 =>
  iteO (fits (s10.length + 1) 64)
  (some (.inl (s10 ++ ([r11]))))
  (none)
def F23_f3 (n : Node) (s10 : List Node) : Option (Node) :=
  some (⟨n.op, n.sortf, n.name, n.num, s10⟩ : Node)
def F23_s4 (self23 : Node → (List ByteArray) → (List Node) → Option (Node)) (names : List ByteArray) (withq : List Node) (s14 : List Node) (i12 : Nat) (x13 : Node) : Option (Sum (List Node) (Node)) :=
  bindO (self23 x13 names withq) fun r15 =>
  iteO (fits (s14.length + 1) 64)
  (some (.inl (s14 ++ ([r15]))))
  (none)
def F23_f4 (n : Node) (s14 : List Node) : Option (Node) :=
  some (⟨n.op, n.sortf, n.name, n.num, s14⟩ : Node)
def F23_s1 (self23 : Node → (List ByteArray) → (List Node) → Option (Node)) (N : Nat) (n : Node) (names : List ByteArray) (withq : List Node) (s1 : Int) : Option (Sum (Int) (Node)) :=
  iteO (decide (s1 < (names.length : Int)))
  (iteO (decide (s1 < (withq.length : Int)))
    (bindO (atO names s1) fun x2 =>
      iteO (x2.toList == n.name.toList)
      (bindO (atO withq s1) fun x3 =>
        bindO (F83 N x3) fun r4 =>
        some (.inr r4))
      (some (.inl (IntKind.i64.wrap (s1 + 1)))))
    (bindO (foldN (S := List Node) (F23_s3 self23 names withq) (F23_f3 n) N n.kids 0 ([])) fun yy => some (.inr yy)))
  (bindO (foldN (S := List Node) (F23_s4 self23 names withq) (F23_f4 n) N n.kids 0 ([])) fun yy => some (.inr yy))
def F23_s5 (self23 : Node → (List ByteArray) → (List Node) → Option (Node)) (names : List ByteArray) (withq : List Node) (s18 : List Node) (i16 : Nat) (x17 : Node) : Option (Sum (List Node) (Node)) :=
  bindO (self23 x17 names withq) fun r19 =>
  iteO (fits (s18.length + 1) 64)
  (some (.inl (s18 ++ ([r19]))))
  (none)
def F23_f5 (n : Node) (s18 : List Node) : Option (Node) :=
  some (⟨n.op, n.sortf, n.name, n.num, s18⟩ : Node)
def F23b (self23 : Node → (List ByteArray) → (List Node) → Option (Node)) (N : Nat) (n : Node) (names : List ByteArray) (withq : List Node) : Option (Node) :=
  iteO (n.op == 1)
  (whileN (S := Int) (F23_s1 self23 N n names withq) N 0)
  (foldN (S := List Node) (F23_s5 self23 names withq) (F23_f5 n) N n.kids 0 ([]))
def F23 : Nat → Node → (List ByteArray) → (List Node) → Option (Node)
  | 0 => fun _ _ _ => none
  | N + 1 => fun n names withq => F23b (F23 N) N n names withq
def a23 (x : Node × (List ByteArray) × (List Node)) : List AV := [.agg (Node.cells x.1), .sl false 1 (List.map cS x.2.1), .sl false 5 (List.map Node.cells x.2.2)]
def v23 (r : Node) : AV := .agg (Node.cells r)
theorem i23 (x y : Node × (List ByteArray) × (List Node)) (h : nzs (a23 x) = nzs (a23 y)) : x = y := by
  simp only [nzs, a23, List.map_cons, List.map_nil, nzV_agg, nzV_int, nzV_bool, nzV_str, nzV_sl, nzL_sl, List.cons.injEq, AV.agg.injEq, AV.int.injEq, AV.bool.injEq, AV.str.injEq, true_and, and_true, or_true, Node.nz_iff, map_inj_iff Node.cells_inj, map_inj_iff cS_inj] at h
  first | exact h | (obtain ⟨x1, x2⟩ := x; simp_all [Prod.ext_iff]) | simp_all [Prod.ext_iff]
theorem w23 (x : Node × (List ByteArray) × (List Node)) : wks (a23 x) = true := by
  simp only [wks, a23, wkV, wkL, Node.wk, List.all_cons, List.all_nil, Bool.not_false, Bool.and_self, Bool.and_true]
theorem d23 (x : Node × (List ByteArray) × (List Node)) : allData (a23 x) = true := by
  simp only [a23, push_cast]
def sh23 : Shp := .one (.agg [none, none, none, none, some 5])
noncomputable def t23 (N : Nat) : List AV → Option AV := TL a23 fun x => bindO (F23 N x.1 x.2.1 x.2.2) fun r => some (v23 r)
@[push_cast] theorem v23_eq (r : Node) : v23 r = .agg (Node.cells r) := rfl
noncomputable def ts23 (self23 : Node → (List ByteArray) → (List Node) → Option (Node)) : List AV → Option AV := TL a23 fun x => bindO (self23 x.1 x.2.1 x.2.2) fun r => some (v23 r)
@[push_cast] theorem t83_2 {N : Nat} (z1 : Int) (z2 : Int) (z3 : ByteArray) (z4 : Int) (z5 : List Node) : t83 N [.agg [.int .i64 z1, .int .i64 z2, .str z3, .int .i64 z4, .sl false 5 (List.map Node.cells z5)]] = bindO (F83 N (⟨z1, z2, z3, z4, z5⟩ : Node)) fun r => some (v83 r) :=
  TL_hit i83 (⟨z1, z2, z3, z4, z5⟩ : Node) (by first | (simp only [a83, push_cast]; done) | (simp only [a83, push_cast]; rfl))
@[push_cast] theorem t23_1 (self23 : Node → (List ByteArray) → (List Node) → Option (Node)) (z1 : Int) (z2 : Int) (z3 : ByteArray) (z4 : Int) (z5 : List Node) (z6 : List ByteArray) (z7 : List Node) : ts23 self23 [.agg [.int .i64 z1, .int .i64 z2, .str z3, .int .i64 z4, .sl false 5 (List.map Node.cells z5)], .sl false 1 (List.map cS z6), .sl false 5 (List.map Node.cells z7)] = bindO (self23 (⟨z1, z2, z3, z4, z5⟩ : Node) z6 z7) fun r => some (v23 r) :=
  TL_hit i23 ((⟨z1, z2, z3, z4, z5⟩ : Node), z6, z7) (by first | (simp only [a23, push_cast]; done) | (simp only [a23, push_cast]; rfl))
/-! ## 81: quantale/quantaleref01.sign -/
def H81 : Nat → Hint := fun _ => ⟨[], [], []⟩
def F81 (a : Int) (b : Int) : Option (Int) :=
  iteO (decide (a < b))
  (some (-1))
  (iteO (decide (a > b))
    (some 1)
    (some 0))
def a81 (x : Int × Int) : List AV := [.int .i64 x.1, .int .i64 x.2]
def v81 (r : Int) : AV := .int .i64 r
theorem i81 (x y : Int × Int) (h : nzs (a81 x) = nzs (a81 y)) : x = y := by
  simp only [nzs, a81, List.map_cons, List.map_nil, nzV_agg, nzV_int, nzV_bool, nzV_str, nzV_sl, nzL_sl, List.cons.injEq, AV.agg.injEq, AV.int.injEq, AV.bool.injEq, AV.str.injEq, true_and, and_true, or_true] at h
  first | exact h | (obtain ⟨x1, x2⟩ := x; simp_all [Prod.ext_iff]) | simp_all [Prod.ext_iff]
theorem w81 (x : Int × Int) : wks (a81 x) = true := by
  simp only [wks, a81, wkV, wkL, List.all_cons, List.all_nil, Bool.not_false, Bool.and_self, Bool.and_true]
theorem d81 (x : Int × Int) : allData (a81 x) = true := by
  simp only [a81, push_cast]
def sh81 : Shp := .one (.leaf none)
noncomputable def t81 : List AV → Option AV := TL a81 fun x => bindO (F81 x.1 x.2) fun r => some (v81 r)
@[push_cast] theorem v81_eq (r : Int) : v81 r = .int .i64 r := rfl
/-! ## 19: quantale/quantaleref01.Compare -/
def H19 : Nat → Hint := fun i => [⟨[2, 3, 5, 6], [5], []⟩, ⟨[], [2, 3, 5, 6], []⟩].getD (i - 0) ⟨[], [], []⟩
@[push_cast] theorem H19_0 : H19 0 = ⟨[2, 3, 5, 6], [5], []⟩ := rfl
@[push_cast] theorem H19_1 : H19 1 = ⟨[], [2, 3, 5, 6], []⟩ := rfl
def F19_s1  (s3 : Unit) : Option (Sum (Unit) (Int)) :=
  some (.inr (-1))
def F19_s3 (self19 : Node → Node → Option (Int)) (a : Node) (b : Node) (s7 : Int × Int) : Option (Sum (Int × Int) (Int)) :=
  iteO (s7.1 == 0)
  (iteO (decide (s7.2 < (a.kids.length : Int)))
    (bindO (atO a.kids s7.2) fun x8 =>
      bindO (atO b.kids s7.2) fun x9 =>
      bindO (self19 x8 x9) fun r10 =>
      some (.inl (r10, IntKind.i64.wrap (s7.2 + 1))))
    (some (.inr s7.1)))
  (some (.inr s7.1))
def F19_s4 (r5 : Int) (s11 : Unit) : Option (Sum (Unit) (Int)) :=
  some (.inr r5)
def F19_s2  (s4 : Unit) : Option (Sum (Unit) (Int)) :=
  some (.inr 1)
def F19_s5 (r2 : Int) (s12 : Unit) : Option (Sum (Unit) (Int)) :=
  some (.inr r2)
def F19_s6 (r1 : Int) (s13 : Unit) : Option (Sum (Unit) (Int)) :=
  some (.inr r1)
def F19b (self19 : Node → Node → Option (Int)) (N : Nat) (a : Node) (b : Node) : Option (Int) :=
  bindO (F81 a.op b.op) fun r1 =>
  iteO (r1 == 0)
  (bindO (F81 a.sortf b.sortf) fun r2 =>
    iteO (r2 == 0)
    (iteO (Op.bytesLess a.name.toList b.name.toList)
      (whileN (S := Unit) (F19_s1) N ())
      (iteO (Op.bytesLess a.name.toList b.name.toList || a.name.toList == b.name.toList)
        (bindO (F81 a.num b.num) fun r5 =>
          iteO (r5 == 0)
          (bindO (F81 (a.kids.length : Int) (b.kids.length : Int)) fun r6 =>
            whileN (S := Int × Int) (F19_s3 self19 a b) N (r6, 0))
          (whileN (S := Unit) (F19_s4 r5) N ()))
        (whileN (S := Unit) (F19_s2) N ())))
    (whileN (S := Unit) (F19_s5 r2) N ()))
  (whileN (S := Unit) (F19_s6 r1) N ())
def F19 : Nat → Node → Node → Option (Int)
  | 0 => fun _ _ => none
  | N + 1 => fun a b => F19b (F19 N) N a b
def a19 (x : Node × Node) : List AV := [.agg (Node.cells x.1), .agg (Node.cells x.2)]
def v19 (r : Int) : AV := .int .i64 r
theorem i19 (x y : Node × Node) (h : nzs (a19 x) = nzs (a19 y)) : x = y := by
  simp only [nzs, a19, List.map_cons, List.map_nil, nzV_agg, nzV_int, nzV_bool, nzV_str, nzV_sl, nzL_sl, List.cons.injEq, AV.agg.injEq, AV.int.injEq, AV.bool.injEq, AV.str.injEq, true_and, and_true, or_true, Node.nz_iff] at h
  first | exact h | (obtain ⟨x1, x2⟩ := x; simp_all [Prod.ext_iff]) | simp_all [Prod.ext_iff]
theorem w19 (x : Node × Node) : wks (a19 x) = true := by
  simp only [wks, a19, wkV, wkL, Node.wk, List.all_cons, List.all_nil, Bool.not_false, Bool.and_self, Bool.and_true]
theorem d19 (x : Node × Node) : allData (a19 x) = true := by
  simp only [a19, push_cast]
def sh19 : Shp := .one (.leaf none)
noncomputable def t19 (N : Nat) : List AV → Option AV := TL a19 fun x => bindO (F19 N x.1 x.2) fun r => some (v19 r)
@[push_cast] theorem v19_eq (r : Int) : v19 r = .int .i64 r := rfl
noncomputable def ts19 (self19 : Node → Node → Option (Int)) : List AV → Option AV := TL a19 fun x => bindO (self19 x.1 x.2) fun r => some (v19 r)
@[push_cast] theorem t81_1 (z1 : Int) (z2 : Int) : t81 [.int .i64 z1, .int .i64 z2] = bindO (F81 z1 z2) fun r => some (v81 r) :=
  TL_hit i81 (z1, z2) (by first | (simp only [a81, push_cast]; done) | (simp only [a81, push_cast]; rfl))
@[push_cast] theorem t19_1 (self19 : Node → Node → Option (Int)) (z1 : Int) (z2 : Int) (z3 : ByteArray) (z4 : Int) (z5 : List Node) (z6 : Int) (z7 : Int) (z8 : ByteArray) (z9 : Int) (z10 : List Node) : ts19 self19 [.agg [.int .i64 z1, .int .i64 z2, .str z3, .int .i64 z4, .sl false 5 (List.map Node.cells z5)], .agg [.int .i64 z6, .int .i64 z7, .str z8, .int .i64 z9, .sl false 5 (List.map Node.cells z10)]] = bindO (self19 (⟨z1, z2, z3, z4, z5⟩ : Node) (⟨z6, z7, z8, z9, z10⟩ : Node)) fun r => some (v19 r) :=
  TL_hit i19 ((⟨z1, z2, z3, z4, z5⟩ : Node), (⟨z6, z7, z8, z9, z10⟩ : Node)) (by first | (simp only [a19, push_cast]; done) | (simp only [a19, push_cast]; rfl))
/-! ## 21: quantale/quantaleref01.Equal -/
def H21 : Nat → Hint := fun _ => ⟨[], [], []⟩
def F21 (N : Nat) (a : Node) (b : Node) : Option (Bool) :=
  bindO (F19 N a b) fun r1 =>
  some (r1 == 0)
def a21 (x : Node × Node) : List AV := [.agg (Node.cells x.1), .agg (Node.cells x.2)]
def v21 (r : Bool) : AV := .bool r
theorem i21 (x y : Node × Node) (h : nzs (a21 x) = nzs (a21 y)) : x = y := by
  simp only [nzs, a21, List.map_cons, List.map_nil, nzV_agg, nzV_int, nzV_bool, nzV_str, nzV_sl, nzL_sl, List.cons.injEq, AV.agg.injEq, AV.int.injEq, AV.bool.injEq, AV.str.injEq, true_and, and_true, or_true, Node.nz_iff] at h
  first | exact h | (obtain ⟨x1, x2⟩ := x; simp_all [Prod.ext_iff]) | simp_all [Prod.ext_iff]
theorem w21 (x : Node × Node) : wks (a21 x) = true := by
  simp only [wks, a21, wkV, wkL, Node.wk, List.all_cons, List.all_nil, Bool.not_false, Bool.and_self, Bool.and_true]
theorem d21 (x : Node × Node) : allData (a21 x) = true := by
  simp only [a21, push_cast]
def sh21 : Shp := .one (.leaf none)
noncomputable def t21 (N : Nat) : List AV → Option AV := TL a21 fun x => bindO (F21 N x.1 x.2) fun r => some (v21 r)
@[push_cast] theorem v21_eq (r : Bool) : v21 r = .bool r := rfl
@[push_cast] theorem t19_2 {N : Nat} (z1 : Int) (z2 : Int) (z3 : ByteArray) (z4 : Int) (z5 : List Node) (z6 : Int) (z7 : Int) (z8 : ByteArray) (z9 : Int) (z10 : List Node) : t19 N [.agg [.int .i64 z1, .int .i64 z2, .str z3, .int .i64 z4, .sl false 5 (List.map Node.cells z5)], .agg [.int .i64 z6, .int .i64 z7, .str z8, .int .i64 z9, .sl false 5 (List.map Node.cells z10)]] = bindO (F19 N (⟨z1, z2, z3, z4, z5⟩ : Node) (⟨z6, z7, z8, z9, z10⟩ : Node)) fun r => some (v19 r) :=
  TL_hit i19 ((⟨z1, z2, z3, z4, z5⟩ : Node), (⟨z6, z7, z8, z9, z10⟩ : Node)) (by first | (simp only [a19, push_cast]; done) | (simp only [a19, push_cast]; rfl))
/-! ## 24: quantale/logic.Subst -/
def H24 : Nat → Hint := fun _ => ⟨[], [], []⟩
def F24 (N : Nat) (n : Node) (name : ByteArray) (withq : Node) : Option (Node) :=
  bindO (F22 N n ([name]) ([withq])) fun r1 =>
  some r1
def a24 (x : Node × ByteArray × Node) : List AV := [.agg (Node.cells x.1), .str x.2.1, .agg (Node.cells x.2.2)]
def v24 (r : Node) : AV := .agg (Node.cells r)
theorem i24 (x y : Node × ByteArray × Node) (h : nzs (a24 x) = nzs (a24 y)) : x = y := by
  simp only [nzs, a24, List.map_cons, List.map_nil, nzV_agg, nzV_int, nzV_bool, nzV_str, nzV_sl, nzL_sl, List.cons.injEq, AV.agg.injEq, AV.int.injEq, AV.bool.injEq, AV.str.injEq, true_and, and_true, or_true, Node.nz_iff] at h
  first | exact h | (obtain ⟨x1, x2⟩ := x; simp_all [Prod.ext_iff]) | simp_all [Prod.ext_iff]
theorem w24 (x : Node × ByteArray × Node) : wks (a24 x) = true := by
  simp only [wks, a24, wkV, wkL, Node.wk, List.all_cons, List.all_nil, Bool.not_false, Bool.and_self, Bool.and_true]
theorem d24 (x : Node × ByteArray × Node) : allData (a24 x) = true := by
  simp only [a24, push_cast]
def sh24 : Shp := .one (.agg [none, none, none, none, some 5])
noncomputable def t24 (N : Nat) : List AV → Option AV := TL a24 fun x => bindO (F24 N x.1 x.2.1 x.2.2) fun r => some (v24 r)
@[push_cast] theorem v24_eq (r : Node) : v24 r = .agg (Node.cells r) := rfl
@[push_cast] theorem t22_2 {N : Nat} (z1 : Int) (z2 : Int) (z3 : ByteArray) (z4 : Int) (z5 : List Node) (z7 : ByteArray) (z9 : Int) (z10 : Int) (z11 : ByteArray) (z12 : Int) (z13 : List Node) : t22 N [.agg [.int .i64 z1, .int .i64 z2, .str z3, .int .i64 z4, .sl false 5 (List.map Node.cells z5)], .sl true 1 [[.str z7]], .sl true 5 [[.int .i64 z9, .int .i64 z10, .str z11, .int .i64 z12, .sl false 5 (List.map Node.cells z13)]]] = bindO (F22 N (⟨z1, z2, z3, z4, z5⟩ : Node) ([z7]) ([(⟨z9, z10, z11, z12, z13⟩ : Node)])) fun r => some (v22 r) :=
  TL_hit i22 ((⟨z1, z2, z3, z4, z5⟩ : Node), [z7], [(⟨z9, z10, z11, z12, z13⟩ : Node)]) (by first | (simp only [a22, push_cast]; done) | (simp only [a22, push_cast]; rfl))
@[push_cast] theorem t22_3 {N : Nat} (z1 : Int) (z2 : Int) (z3 : ByteArray) (z4 : Int) (z5 : List Node) (z7 : ByteArray) (z9 : Int) (z10 : Int) (z11 : ByteArray) (z12 : Int) (z13 : List Node) : t22 N [.agg [.int .i64 z1, .int .i64 z2, .str z3, .int .i64 z4, .sl false 5 (List.map Node.cells z5)], .sl false 1 [[.str z7]], .sl false 5 [[.int .i64 z9, .int .i64 z10, .str z11, .int .i64 z12, .sl false 5 (List.map Node.cells z13)]]] = bindO (F22 N (⟨z1, z2, z3, z4, z5⟩ : Node) ([z7]) ([(⟨z9, z10, z11, z12, z13⟩ : Node)])) fun r => some (v22 r) :=
  TL_hit i22 ((⟨z1, z2, z3, z4, z5⟩ : Node), [z7], [(⟨z9, z10, z11, z12, z13⟩ : Node)]) (by first | (simp only [a22, push_cast]; done) | (simp only [a22, push_cast]; rfl))
/-! ## 25: quantale/quantaleref01.Subst -/
def H25 : Nat → Hint := fun _ => ⟨[], [], []⟩
def F25 (N : Nat) (n : Node) (name : ByteArray) (withq : Node) : Option (Node) :=
  bindO (F23 N n ([name]) ([withq])) fun r1 =>
  some r1
def a25 (x : Node × ByteArray × Node) : List AV := [.agg (Node.cells x.1), .str x.2.1, .agg (Node.cells x.2.2)]
def v25 (r : Node) : AV := .agg (Node.cells r)
theorem i25 (x y : Node × ByteArray × Node) (h : nzs (a25 x) = nzs (a25 y)) : x = y := by
  simp only [nzs, a25, List.map_cons, List.map_nil, nzV_agg, nzV_int, nzV_bool, nzV_str, nzV_sl, nzL_sl, List.cons.injEq, AV.agg.injEq, AV.int.injEq, AV.bool.injEq, AV.str.injEq, true_and, and_true, or_true, Node.nz_iff] at h
  first | exact h | (obtain ⟨x1, x2⟩ := x; simp_all [Prod.ext_iff]) | simp_all [Prod.ext_iff]
theorem w25 (x : Node × ByteArray × Node) : wks (a25 x) = true := by
  simp only [wks, a25, wkV, wkL, Node.wk, List.all_cons, List.all_nil, Bool.not_false, Bool.and_self, Bool.and_true]
theorem d25 (x : Node × ByteArray × Node) : allData (a25 x) = true := by
  simp only [a25, push_cast]
def sh25 : Shp := .one (.agg [none, none, none, none, some 5])
noncomputable def t25 (N : Nat) : List AV → Option AV := TL a25 fun x => bindO (F25 N x.1 x.2.1 x.2.2) fun r => some (v25 r)
@[push_cast] theorem v25_eq (r : Node) : v25 r = .agg (Node.cells r) := rfl
@[push_cast] theorem t23_2 {N : Nat} (z1 : Int) (z2 : Int) (z3 : ByteArray) (z4 : Int) (z5 : List Node) (z7 : ByteArray) (z9 : Int) (z10 : Int) (z11 : ByteArray) (z12 : Int) (z13 : List Node) : t23 N [.agg [.int .i64 z1, .int .i64 z2, .str z3, .int .i64 z4, .sl false 5 (List.map Node.cells z5)], .sl true 1 [[.str z7]], .sl true 5 [[.int .i64 z9, .int .i64 z10, .str z11, .int .i64 z12, .sl false 5 (List.map Node.cells z13)]]] = bindO (F23 N (⟨z1, z2, z3, z4, z5⟩ : Node) ([z7]) ([(⟨z9, z10, z11, z12, z13⟩ : Node)])) fun r => some (v23 r) :=
  TL_hit i23 ((⟨z1, z2, z3, z4, z5⟩ : Node), [z7], [(⟨z9, z10, z11, z12, z13⟩ : Node)]) (by first | (simp only [a23, push_cast]; done) | (simp only [a23, push_cast]; rfl))
@[push_cast] theorem t23_3 {N : Nat} (z1 : Int) (z2 : Int) (z3 : ByteArray) (z4 : Int) (z5 : List Node) (z7 : ByteArray) (z9 : Int) (z10 : Int) (z11 : ByteArray) (z12 : Int) (z13 : List Node) : t23 N [.agg [.int .i64 z1, .int .i64 z2, .str z3, .int .i64 z4, .sl false 5 (List.map Node.cells z5)], .sl false 1 [[.str z7]], .sl false 5 [[.int .i64 z9, .int .i64 z10, .str z11, .int .i64 z12, .sl false 5 (List.map Node.cells z13)]]] = bindO (F23 N (⟨z1, z2, z3, z4, z5⟩ : Node) ([z7]) ([(⟨z9, z10, z11, z12, z13⟩ : Node)])) fun r => some (v23 r) :=
  TL_hit i23 ((⟨z1, z2, z3, z4, z5⟩ : Node), [z7], [(⟨z9, z10, z11, z12, z13⟩ : Node)]) (by first | (simp only [a23, push_cast]; done) | (simp only [a23, push_cast]; rfl))
/-! ## 5: quantale/quantalelaw01.LogicSubsts -/
def H5 : Nat → Hint := fun _ => ⟨[], [], []⟩
def F5 (N : Nat) (n : Node) (names : List ByteArray) (withq : List Node) : Option (Bool) :=
  bindO (F12 N) fun r1 =>
  iteO r1
  (iteO (decide ((names.length : Int) > 20))
    (some true)
    (iteO (decide ((withq.length : Int) > 20))
      (some true)
      (iteO (fits (1 + withq.length) 64)
        (iteO withq.isEmpty
          (bindO (F13 N 300 ([n])) fun r2 =>
            iteO r2
            (bindO (F22 N n names withq) fun r3 =>
              bindO (F23 N n names withq) fun r4 =>
              bindO (F21 N r3 r4) fun r5 =>
              iteO r5
              (iteO ((names.length : Int) == 0)
                (bindO (F22 N n ([]) withq) fun r13 =>
                  bindO (F21 N r13 n) fun r14 =>
                  some r14)
                (iteO ((withq.length : Int) == 0)
                  (bindO (F22 N n ([]) withq) fun r6 =>
                    bindO (F21 N r6 n) fun r7 =>
                    some r7)
                  (bindO (atO names 0) fun x8 =>
                    bindO (atO withq 0) fun x9 =>
                    bindO (F24 N n x8 x9) fun r10 =>
                    bindO (F25 N n x8 x9) fun r11 =>
                    bindO (F21 N r10 r11) fun r12 =>
                    some r12)))
              (some false))
            (some true))
          (bindO (F13 N 300 (([n]) ++ withq)) fun r15 =>
            iteO r15
            (bindO (F22 N n names withq) fun r16 =>
              bindO (F23 N n names withq) fun r17 =>
              bindO (F21 N r16 r17) fun r18 =>
              iteO r18
              (iteO ((names.length : Int) == 0)
                (bindO (F22 N n ([]) withq) fun r26 =>
                  bindO (F21 N r26 n) fun r27 =>
                  some r27)
                (iteO ((withq.length : Int) == 0)
                  (bindO (F22 N n ([]) withq) fun r19 =>
                    bindO (F21 N r19 n) fun r20 =>
                    some r20)
                  (bindO (atO names 0) fun x21 =>
                    bindO (atO withq 0) fun x22 =>
                    bindO (F24 N n x21 x22) fun r23 =>
                    bindO (F25 N n x21 x22) fun r24 =>
                    bindO (F21 N r23 r24) fun r25 =>
                    some r25)))
              (some false))
            (some true)))
        (none))))
  (some false)
def a5 (x : Node × (List ByteArray) × (List Node)) : List AV := [.agg (Node.cells x.1), .sl false 1 (List.map cS x.2.1), .sl false 5 (List.map Node.cells x.2.2)]
def v5 (r : Bool) : AV := .bool r
theorem i5 (x y : Node × (List ByteArray) × (List Node)) (h : nzs (a5 x) = nzs (a5 y)) : x = y := by
  simp only [nzs, a5, List.map_cons, List.map_nil, nzV_agg, nzV_int, nzV_bool, nzV_str, nzV_sl, nzL_sl, List.cons.injEq, AV.agg.injEq, AV.int.injEq, AV.bool.injEq, AV.str.injEq, true_and, and_true, or_true, Node.nz_iff, map_inj_iff Node.cells_inj, map_inj_iff cS_inj] at h
  first | exact h | (obtain ⟨x1, x2⟩ := x; simp_all [Prod.ext_iff]) | simp_all [Prod.ext_iff]
theorem w5 (x : Node × (List ByteArray) × (List Node)) : wks (a5 x) = true := by
  simp only [wks, a5, wkV, wkL, Node.wk, List.all_cons, List.all_nil, Bool.not_false, Bool.and_self, Bool.and_true]
theorem d5 (x : Node × (List ByteArray) × (List Node)) : allData (a5 x) = true := by
  simp only [a5, push_cast]
def sh5 : Shp := .one (.leaf none)
noncomputable def t5 (N : Nat) : List AV → Option AV := TL a5 fun x => bindO (F5 N x.1 x.2.1 x.2.2) fun r => some (v5 r)
@[push_cast] theorem v5_eq (r : Bool) : v5 r = .bool r := rfl
@[push_cast] theorem t12_1 {N : Nat}  : t12 N [] = bindO (F12 N) fun r => some (v12 r) :=
  TL_hit i12 () (by first | (simp only [a12, push_cast]; done) | (simp only [a12, push_cast]; rfl))
@[push_cast] theorem t13_1 {N : Nat} (z1 : Int) (z3 : Int) (z4 : Int) (z5 : ByteArray) (z6 : Int) (z7 : List Node) : t13 N [.int .i64 z1, .sl true 5 [[.int .i64 z3, .int .i64 z4, .str z5, .int .i64 z6, .sl false 5 (List.map Node.cells z7)]]] = bindO (F13 N z1 ([(⟨z3, z4, z5, z6, z7⟩ : Node)])) fun r => some (v13 r) :=
  TL_hit i13 (z1, [(⟨z3, z4, z5, z6, z7⟩ : Node)]) (by first | (simp only [a13, push_cast]; done) | (simp only [a13, push_cast]; rfl))
@[push_cast] theorem t13_2 {N : Nat} (z1 : Int) (z3 : Int) (z4 : Int) (z5 : ByteArray) (z6 : Int) (z7 : List Node) : t13 N [.int .i64 z1, .sl false 5 [[.int .i64 z3, .int .i64 z4, .str z5, .int .i64 z6, .sl false 5 (List.map Node.cells z7)]]] = bindO (F13 N z1 ([(⟨z3, z4, z5, z6, z7⟩ : Node)])) fun r => some (v13 r) :=
  TL_hit i13 (z1, [(⟨z3, z4, z5, z6, z7⟩ : Node)]) (by first | (simp only [a13, push_cast]; done) | (simp only [a13, push_cast]; rfl))
@[push_cast] theorem t13_3 {N : Nat} (z1 : Int) (z2 : List Node) : t13 N [.int .i64 z1, .sl false 5 (List.map Node.cells z2)] = bindO (F13 N z1 z2) fun r => some (v13 r) :=
  TL_hit i13 (z1, z2) (by first | (simp only [a13, push_cast]; done) | (simp only [a13, push_cast]; rfl))
@[push_cast] theorem t22_4 {N : Nat} (z1 : Int) (z2 : Int) (z3 : ByteArray) (z4 : Int) (z5 : List Node) (z6 : List ByteArray) (z7 : List Node) : t22 N [.agg [.int .i64 z1, .int .i64 z2, .str z3, .int .i64 z4, .sl false 5 (List.map Node.cells z5)], .sl false 1 (List.map cS z6), .sl false 5 (List.map Node.cells z7)] = bindO (F22 N (⟨z1, z2, z3, z4, z5⟩ : Node) z6 z7) fun r => some (v22 r) :=
  TL_hit i22 ((⟨z1, z2, z3, z4, z5⟩ : Node), z6, z7) (by first | (simp only [a22, push_cast]; done) | (simp only [a22, push_cast]; rfl))
@[push_cast] theorem t22_5 {N : Nat} (z1 : Int) (z2 : Int) (z3 : ByteArray) (z4 : Int) (z5 : List Node) (z7 : List Node) : t22 N [.agg [.int .i64 z1, .int .i64 z2, .str z3, .int .i64 z4, .sl false 5 (List.map Node.cells z5)], .sl true 0 [], .sl false 5 (List.map Node.cells z7)] = bindO (F22 N (⟨z1, z2, z3, z4, z5⟩ : Node) ([]) z7) fun r => some (v22 r) :=
  TL_hit i22 ((⟨z1, z2, z3, z4, z5⟩ : Node), [], z7) (by first | (simp only [a22, push_cast]; done) | (simp only [a22, push_cast]; rfl))
@[push_cast] theorem t22_6 {N : Nat} (z1 : Int) (z2 : Int) (z3 : ByteArray) (z4 : Int) (z5 : List Node) (z7 : List Node) : t22 N [.agg [.int .i64 z1, .int .i64 z2, .str z3, .int .i64 z4, .sl false 5 (List.map Node.cells z5)], .sl false 0 [], .sl false 5 (List.map Node.cells z7)] = bindO (F22 N (⟨z1, z2, z3, z4, z5⟩ : Node) ([]) z7) fun r => some (v22 r) :=
  TL_hit i22 ((⟨z1, z2, z3, z4, z5⟩ : Node), [], z7) (by first | (simp only [a22, push_cast]; done) | (simp only [a22, push_cast]; rfl))
@[push_cast] theorem t23_4 {N : Nat} (z1 : Int) (z2 : Int) (z3 : ByteArray) (z4 : Int) (z5 : List Node) (z6 : List ByteArray) (z7 : List Node) : t23 N [.agg [.int .i64 z1, .int .i64 z2, .str z3, .int .i64 z4, .sl false 5 (List.map Node.cells z5)], .sl false 1 (List.map cS z6), .sl false 5 (List.map Node.cells z7)] = bindO (F23 N (⟨z1, z2, z3, z4, z5⟩ : Node) z6 z7) fun r => some (v23 r) :=
  TL_hit i23 ((⟨z1, z2, z3, z4, z5⟩ : Node), z6, z7) (by first | (simp only [a23, push_cast]; done) | (simp only [a23, push_cast]; rfl))
@[push_cast] theorem t21_1 {N : Nat} (z1 : Int) (z2 : Int) (z3 : ByteArray) (z4 : Int) (z5 : List Node) (z6 : Int) (z7 : Int) (z8 : ByteArray) (z9 : Int) (z10 : List Node) : t21 N [.agg [.int .i64 z1, .int .i64 z2, .str z3, .int .i64 z4, .sl false 5 (List.map Node.cells z5)], .agg [.int .i64 z6, .int .i64 z7, .str z8, .int .i64 z9, .sl false 5 (List.map Node.cells z10)]] = bindO (F21 N (⟨z1, z2, z3, z4, z5⟩ : Node) (⟨z6, z7, z8, z9, z10⟩ : Node)) fun r => some (v21 r) :=
  TL_hit i21 ((⟨z1, z2, z3, z4, z5⟩ : Node), (⟨z6, z7, z8, z9, z10⟩ : Node)) (by first | (simp only [a21, push_cast]; done) | (simp only [a21, push_cast]; rfl))
@[push_cast] theorem t24_1 {N : Nat} (z1 : Int) (z2 : Int) (z3 : ByteArray) (z4 : Int) (z5 : List Node) (z6 : ByteArray) (z7 : Int) (z8 : Int) (z9 : ByteArray) (z10 : Int) (z11 : List Node) : t24 N [.agg [.int .i64 z1, .int .i64 z2, .str z3, .int .i64 z4, .sl false 5 (List.map Node.cells z5)], .str z6, .agg [.int .i64 z7, .int .i64 z8, .str z9, .int .i64 z10, .sl false 5 (List.map Node.cells z11)]] = bindO (F24 N (⟨z1, z2, z3, z4, z5⟩ : Node) z6 (⟨z7, z8, z9, z10, z11⟩ : Node)) fun r => some (v24 r) :=
  TL_hit i24 ((⟨z1, z2, z3, z4, z5⟩ : Node), z6, (⟨z7, z8, z9, z10, z11⟩ : Node)) (by first | (simp only [a24, push_cast]; done) | (simp only [a24, push_cast]; rfl))
@[push_cast] theorem t25_1 {N : Nat} (z1 : Int) (z2 : Int) (z3 : ByteArray) (z4 : Int) (z5 : List Node) (z6 : ByteArray) (z7 : Int) (z8 : Int) (z9 : ByteArray) (z10 : Int) (z11 : List Node) : t25 N [.agg [.int .i64 z1, .int .i64 z2, .str z3, .int .i64 z4, .sl false 5 (List.map Node.cells z5)], .str z6, .agg [.int .i64 z7, .int .i64 z8, .str z9, .int .i64 z10, .sl false 5 (List.map Node.cells z11)]] = bindO (F25 N (⟨z1, z2, z3, z4, z5⟩ : Node) z6 (⟨z7, z8, z9, z10, z11⟩ : Node)) fun r => some (v25 r) :=
  TL_hit i25 ((⟨z1, z2, z3, z4, z5⟩ : Node), z6, (⟨z7, z8, z9, z10, z11⟩ : Node)) (by first | (simp only [a25, push_cast]; done) | (simp only [a25, push_cast]; rfl))
@[push_cast] theorem t13_9 {N : Nat} (z1 a b d : Int) (c : ByteArray) (e l : List Node) : t13 N [.int .i64 z1, .sl false 5 ([.int .i64 a, .int .i64 b, .str c, .int .i64 d, .sl false 5 (List.map Node.cells e)] :: List.map Node.cells l)] = bindO (F13 N z1 ([(⟨a, b, c, d, e⟩ : Node)] ++ l)) fun r => some (v13 r) :=
  TL_hit i13 (z1, [(⟨a, b, c, d, e⟩ : Node)] ++ l) (by simp only [a13, push_cast, List.singleton_append, List.map_cons])
end Go.Abs.Try
