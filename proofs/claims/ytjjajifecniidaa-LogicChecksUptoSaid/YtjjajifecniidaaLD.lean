import Derived.Test.YtjjajifecniidaaSqW2
namespace Go.Abs.Try
open Go.RowKit
set_option linter.unusedSimpArgs false
set_option linter.unusedVariables false
set_option maxRecDepth 100000
set_option maxHeartbeats 4000000
def cmpS (a b : ByteArray) : Int := Lib.compareBytes a.data.toList b.data.toList
def F79 (a b : ByteArray) : Option Int := some (cmpS a b)
def a79 (x : ByteArray × ByteArray) : List AV := [.str x.1, .str x.2]
def v79 (r : Int) : AV := .int .i64 r
theorem i79 (x y : ByteArray × ByteArray) (h : nzs (a79 x) = nzs (a79 y)) : x = y := by
  simp only [nzs, a79, List.map_cons, List.map_nil, nzV_agg, nzV_int, nzV_bool, nzV_str, nzV_sl, nzL_sl, List.cons.injEq, AV.agg.injEq, AV.int.injEq, AV.bool.injEq, AV.str.injEq, true_and, and_true, or_true] at h
  first | exact h | (obtain ⟨x1, x2⟩ := x; simp_all [Prod.ext_iff]) | simp_all [Prod.ext_iff]
theorem w79 (x : ByteArray × ByteArray) : wks (a79 x) = true := by
  simp only [wks, a79, wkV, wkL, List.all_cons, List.all_nil, Bool.not_false, Bool.and_self, Bool.and_true]
theorem d79 (x : ByteArray × ByteArray) : allData (a79 x) = true := by
  simp only [a79, push_cast]
def sh79 : Shp := .one (.leaf none)
noncomputable def t79 : List AV → Option AV := TL a79 fun x => bindO (F79 x.1 x.2) fun r => some (v79 r)
@[push_cast] theorem v79_eq (r : Int) : v79 r = .int .i64 r := rfl
/-! ## 37: quantale/logic.Size -/
def H37 : Nat → Hint := fun i => [⟨[], [3], []⟩, ⟨[], [3], []⟩].getD (i - 0) ⟨[], [], []⟩
@[push_cast] theorem H37_0 : H37 0 = ⟨[], [3], []⟩ := rfl
@[push_cast] theorem H37_1 : H37 1 = ⟨[], [3], []⟩ := rfl
def F37_s1  (s3 : Int) (x2 : Node) : Option (Sum (Int) (Int)) :=
  some (.inl (IntKind.i64.wrap (s3 + 1)))
def F37_f1  (s3 : Int) : Option (Int) :=
  some s3
def F37 (n : Node) : Option (Int) :=
  bindO (walkO n) fun l1 =>
  foldO (S := Int) (F37_s1) (F37_f1) l1 0
def a37 (x : Node) : List AV := [.agg (Node.cells x)]
def v37 (r : Int) : AV := .int .i64 r
theorem i37 (x y : Node) (h : nzs (a37 x) = nzs (a37 y)) : x = y := by
  simp only [nzs, a37, List.map_cons, List.map_nil, nzV_agg, nzV_int, nzV_bool, nzV_str, nzV_sl, nzL_sl, List.cons.injEq, AV.agg.injEq, AV.int.injEq, AV.bool.injEq, AV.str.injEq, true_and, and_true, or_true, Node.nz_iff] at h
  first | exact h | (obtain ⟨x1, x2⟩ := x; simp_all [Prod.ext_iff]) | simp_all [Prod.ext_iff]
theorem w37 (x : Node) : wks (a37 x) = true := by
  simp only [wks, a37, wkV, wkL, Node.wk, List.all_cons, List.all_nil, Bool.not_false, Bool.and_self, Bool.and_true]
theorem d37 (x : Node) : allData (a37 x) = true := by
  simp only [a37, push_cast]
def sh37 : Shp := .one (.leaf none)
noncomputable def t37 : List AV → Option AV := TL a37 fun x => bindO (F37 x) fun r => some (v37 r)
@[push_cast] theorem v37_eq (r : Int) : v37 r = .int .i64 r := rfl
/-! ## 38: quantale/logic.Levels -/
def H38 : Nat → Hint := fun i => [⟨[3, 7, 8, 9], [3], []⟩, ⟨[], [3, 7, 8, 9], []⟩].getD (i - 0) ⟨[], [], []⟩
@[push_cast] theorem H38_0 : H38 0 = ⟨[3, 7, 8, 9], [3], []⟩ := rfl
@[push_cast] theorem H38_1 : H38 1 = ⟨[], [3, 7, 8, 9], []⟩ := rfl
def F38_s1 (self38 : Node → Option (Int)) (s3 : Int) (i1 : Nat) (x2 : Node) : Option (Sum (Int) (Int)) :=
  bindO (self38 x2) fun r4 =>
  some (.inl (max s3 r4))
def F38_f1  (s3 : Int) : Option (Int) :=
  some (IntKind.i64.wrap (s3 + 1))
def F38b (self38 : Node → Option (Int)) (N : Nat) (n : Node) : Option (Int) :=
  foldN (S := Int) (F38_s1 self38) (F38_f1) N n.kids 0 0
def F38 : Nat → Node → Option (Int)
  | 0 => fun _ => none
  | N + 1 => fun n => F38b (F38 N) N n
def a38 (x : Node) : List AV := [.agg (Node.cells x)]
def v38 (r : Int) : AV := .int .i64 r
theorem i38 (x y : Node) (h : nzs (a38 x) = nzs (a38 y)) : x = y := by
  simp only [nzs, a38, List.map_cons, List.map_nil, nzV_agg, nzV_int, nzV_bool, nzV_str, nzV_sl, nzL_sl, List.cons.injEq, AV.agg.injEq, AV.int.injEq, AV.bool.injEq, AV.str.injEq, true_and, and_true, or_true, Node.nz_iff] at h
  first | exact h | (obtain ⟨x1, x2⟩ := x; simp_all [Prod.ext_iff]) | simp_all [Prod.ext_iff]
theorem w38 (x : Node) : wks (a38 x) = true := by
  simp only [wks, a38, wkV, wkL, Node.wk, List.all_cons, List.all_nil, Bool.not_false, Bool.and_self, Bool.and_true]
theorem d38 (x : Node) : allData (a38 x) = true := by
  simp only [a38, push_cast]
def sh38 : Shp := .one (.leaf none)
noncomputable def t38 (N : Nat) : List AV → Option AV := TL a38 fun x => bindO (F38 N x) fun r => some (v38 r)
@[push_cast] theorem v38_eq (r : Int) : v38 r = .int .i64 r := rfl
noncomputable def ts38 (self38 : Node → Option (Int)) : List AV → Option AV := TL a38 fun x => bindO (self38 x) fun r => some (v38 r)
@[push_cast] theorem t38_1 (self38 : Node → Option (Int)) (z1 : Int) (z2 : Int) (z3 : ByteArray) (z4 : Int) (z5 : List Node) : ts38 self38 [.agg [.int .i64 z1, .int .i64 z2, .str z3, .int .i64 z4, .sl false 5 (List.map Node.cells z5)]] = bindO (self38 (⟨z1, z2, z3, z4, z5⟩ : Node)) fun r => some (v38 r) :=
  TL_hit i38 (⟨z1, z2, z3, z4, z5⟩ : Node) (by first | (simp only [a38, push_cast]; done) | (simp only [a38, push_cast]; rfl))
/-! ## 70: quantale/logic.within -/
def H70 : Nat → Hint := fun _ => ⟨[], [], []⟩
def F70 (N : Nat) (n : Node) : Option (Bool) :=
  bindO (F37 n) fun r1 =>
  iteO (decide (r1 ≤ 4000))
  (bindO (F38 N n) fun r2 =>
    some (decide (r2 ≤ 100)))
  (some false)
def a70 (x : Node) : List AV := [.agg (Node.cells x)]
def v70 (r : Bool) : AV := .bool r
theorem i70 (x y : Node) (h : nzs (a70 x) = nzs (a70 y)) : x = y := by
  simp only [nzs, a70, List.map_cons, List.map_nil, nzV_agg, nzV_int, nzV_bool, nzV_str, nzV_sl, nzL_sl, List.cons.injEq, AV.agg.injEq, AV.int.injEq, AV.bool.injEq, AV.str.injEq, true_and, and_true, or_true, Node.nz_iff] at h
  first | exact h | (obtain ⟨x1, x2⟩ := x; simp_all [Prod.ext_iff]) | simp_all [Prod.ext_iff]
theorem w70 (x : Node) : wks (a70 x) = true := by
  simp only [wks, a70, wkV, wkL, Node.wk, List.all_cons, List.all_nil, Bool.not_false, Bool.and_self, Bool.and_true]
theorem d70 (x : Node) : allData (a70 x) = true := by
  simp only [a70, push_cast]
def sh70 : Shp := .one (.leaf none)
noncomputable def t70 (N : Nat) : List AV → Option AV := TL a70 fun x => bindO (F70 N x) fun r => some (v70 r)
@[push_cast] theorem v70_eq (r : Bool) : v70 r = .bool r := rfl
@[push_cast] theorem t37_1 (z1 : Int) (z2 : Int) (z3 : ByteArray) (z4 : Int) (z5 : List Node) : t37 [.agg [.int .i64 z1, .int .i64 z2, .str z3, .int .i64 z4, .sl false 5 (List.map Node.cells z5)]] = bindO (F37 (⟨z1, z2, z3, z4, z5⟩ : Node)) fun r => some (v37 r) :=
  TL_hit i37 (⟨z1, z2, z3, z4, z5⟩ : Node) (by first | (simp only [a37, push_cast]; done) | (simp only [a37, push_cast]; rfl))
@[push_cast] theorem t38_2 {N : Nat} (z1 : Int) (z2 : Int) (z3 : ByteArray) (z4 : Int) (z5 : List Node) : t38 N [.agg [.int .i64 z1, .int .i64 z2, .str z3, .int .i64 z4, .sl false 5 (List.map Node.cells z5)]] = bindO (F38 N (⟨z1, z2, z3, z4, z5⟩ : Node)) fun r => some (v38 r) :=
  TL_hit i38 (⟨z1, z2, z3, z4, z5⟩ : Node) (by first | (simp only [a38, push_cast]; done) | (simp only [a38, push_cast]; rfl))
/-! ## 73: quantale/logic.letter -/
def H73 : Nat → Hint := fun _ => ⟨[], [], []⟩
def F73 (c : Int) : Option (Bool) :=
  iteO (decide (c ≥ 97))
  (iteO (decide (c ≤ 122))
    (some true)
    (iteO (decide (c ≥ 65))
      (some (decide (c ≤ 90)))
      (some false)))
  (iteO (decide (c ≥ 65))
    (some (decide (c ≤ 90)))
    (some false))
def a73 (x : Int) : List AV := [.int .u8 x]
def v73 (r : Bool) : AV := .bool r
theorem i73 (x y : Int) (h : nzs (a73 x) = nzs (a73 y)) : x = y := by
  simp only [nzs, a73, List.map_cons, List.map_nil, nzV_agg, nzV_int, nzV_bool, nzV_str, nzV_sl, nzL_sl, List.cons.injEq, AV.agg.injEq, AV.int.injEq, AV.bool.injEq, AV.str.injEq, true_and, and_true, or_true] at h
  first | exact h | (obtain ⟨x1, x2⟩ := x; simp_all [Prod.ext_iff]) | simp_all [Prod.ext_iff]
theorem w73 (x : Int) : wks (a73 x) = true := by
  simp only [wks, a73, wkV, wkL, List.all_cons, List.all_nil, Bool.not_false, Bool.and_self, Bool.and_true]
theorem d73 (x : Int) : allData (a73 x) = true := by
  simp only [a73, push_cast]
def sh73 : Shp := .one (.leaf none)
noncomputable def t73 : List AV → Option AV := TL a73 fun x => bindO (F73 x) fun r => some (v73 r)
@[push_cast] theorem v73_eq (r : Bool) : v73 r = .bool r := rfl
/-! ## 74: quantale/logic.word -/
def H74 : Nat → Hint := fun i => [⟨[], [], []⟩].getD (i - 0) ⟨[], [], []⟩
@[push_cast] theorem H74_0 : H74 0 = ⟨[], [], []⟩ := rfl
def F74 (s : ByteArray) : Option (Bool) :=
  iteO (s.toList == (⟨#[116, 114, 117, 101]⟩ : ByteArray).toList)
  (some true)
  (iteO (s.toList == (⟨#[102, 97, 108, 115, 101]⟩ : ByteArray).toList)
    (some true)
    (iteO (s.toList == (⟨#[105, 110]⟩ : ByteArray).toList)
      (some true)
      (iteO (s.toList == (⟨#[115, 117, 98]⟩ : ByteArray).toList)
        (some true)
        (iteO (s.toList == (⟨#[101, 109, 112, 116, 121]⟩ : ByteArray).toList)
          (some true)
          (iteO (s.toList == (⟨#[115, 105, 110, 103]⟩ : ByteArray).toList)
            (some true)
            (iteO (s.toList == (⟨#[99, 117, 112]⟩ : ByteArray).toList)
              (some true)
              (iteO (s.toList == (⟨#[99, 97, 112]⟩ : ByteArray).toList)
                (some true)
                (iteO (s.toList == (⟨#[100, 105, 102, 102]⟩ : ByteArray).toList)
                  (some true)
                  (iteO (s.toList == (⟨#[115, 101, 108]⟩ : ByteArray).toList)
                    (some true)
                    (iteO (s.toList == (⟨#[115, 116, 111]⟩ : ByteArray).toList)
                      (some true)
                      (iteO (s.toList == (⟨#[118, 108, 101, 110]⟩ : ByteArray).toList)
                        (some true)
                        (iteO (s.toList == (⟨#[105, 116, 101]⟩ : ByteArray).toList)
                          (some true)
                          (some false)))))))))))))
def a74 (x : ByteArray) : List AV := [.str x]
def v74 (r : Bool) : AV := .bool r
theorem i74 (x y : ByteArray) (h : nzs (a74 x) = nzs (a74 y)) : x = y := by
  simp only [nzs, a74, List.map_cons, List.map_nil, nzV_agg, nzV_int, nzV_bool, nzV_str, nzV_sl, nzL_sl, List.cons.injEq, AV.agg.injEq, AV.int.injEq, AV.bool.injEq, AV.str.injEq, true_and, and_true, or_true] at h
  first | exact h | (obtain ⟨x1, x2⟩ := x; simp_all [Prod.ext_iff]) | simp_all [Prod.ext_iff]
theorem w74 (x : ByteArray) : wks (a74 x) = true := by
  simp only [wks, a74, wkV, wkL, List.all_cons, List.all_nil, Bool.not_false, Bool.and_self, Bool.and_true]
theorem d74 (x : ByteArray) : allData (a74 x) = true := by
  simp only [a74, push_cast]
def sh74 : Shp := .one (.leaf none)
noncomputable def t74 : List AV → Option AV := TL a74 fun x => bindO (F74 x) fun r => some (v74 r)
@[push_cast] theorem v74_eq (r : Bool) : v74 r = .bool r := rfl
/-! ## 16: quantale/logic.Name -/
def H16 : Nat → Hint := fun i => [⟨[0, 24, 25], [], []⟩, ⟨[], [0, 24, 25], []⟩].getD (i - 0) ⟨[], [], []⟩
@[push_cast] theorem H16_0 : H16 0 = ⟨[0, 24, 25], [], []⟩ := rfl
@[push_cast] theorem H16_1 : H16 1 = ⟨[], [0, 24, 25], []⟩ := rfl
def F16_s1 (s : ByteArray) (s5 : Unit) (i3 : Nat) (x4 : Nat) : Option (Sum (Unit) (Bool)) :=
  bindO (F73 (bt s (i3 : Int))) fun r6 =>
  iteO r6
  (some (.inl ()))
  (iteO (decide ((bt s (i3 : Int)) < 48))
    (iteO ((bt s (i3 : Int)) == 46)
      (some (.inl ()))
      (some (.inr false)))
    (iteO (decide ((bt s (i3 : Int)) > 57))
      (iteO ((bt s (i3 : Int)) == 46)
        (some (.inl ()))
        (some (.inr false)))
      (some (.inl ()))))
def F16_f1  (s5 : Unit) : Option (Bool) :=
  some true
def F16 (N : Nat) (s : ByteArray) : Option (Bool) :=
  iteO (decide ((s.size : Int) < 1))
  (some false)
  (iteO (decide ((s.size : Int) > 24))
    (some false)
    (iteO (inB 0 s.size)
      (bindO (F73 (bt s 0)) fun r1 =>
        iteO r1
        (bindO (F74 s) fun r2 =>
          iteO r2
          (some false)
          (foldN (S := Unit) (F16_s1 s) (F16_f1) N (List.range s.size) 0 ()))
        (some false))
      (none)))
def a16 (x : ByteArray) : List AV := [.str x]
def v16 (r : Bool) : AV := .bool r
theorem i16 (x y : ByteArray) (h : nzs (a16 x) = nzs (a16 y)) : x = y := by
  simp only [nzs, a16, List.map_cons, List.map_nil, nzV_agg, nzV_int, nzV_bool, nzV_str, nzV_sl, nzL_sl, List.cons.injEq, AV.agg.injEq, AV.int.injEq, AV.bool.injEq, AV.str.injEq, true_and, and_true, or_true] at h
  first | exact h | (obtain ⟨x1, x2⟩ := x; simp_all [Prod.ext_iff]) | simp_all [Prod.ext_iff]
theorem w16 (x : ByteArray) : wks (a16 x) = true := by
  simp only [wks, a16, wkV, wkL, List.all_cons, List.all_nil, Bool.not_false, Bool.and_self, Bool.and_true]
theorem d16 (x : ByteArray) : allData (a16 x) = true := by
  simp only [a16, push_cast]
def sh16 : Shp := .one (.leaf none)
noncomputable def t16 (N : Nat) : List AV → Option AV := TL a16 fun x => bindO (F16 N x) fun r => some (v16 r)
@[push_cast] theorem v16_eq (r : Bool) : v16 r = .bool r := rfl
@[push_cast] theorem t73_1 (z1 : Int) : t73 [.int .u8 z1] = bindO (F73 z1) fun r => some (v73 r) :=
  TL_hit i73 z1 (by first | (simp only [a73, push_cast]; done) | (simp only [a73, push_cast]; rfl))
@[push_cast] theorem t74_1 (z1 : ByteArray) : t74 [.str z1] = bindO (F74 z1) fun r => some (v74 r) :=
  TL_hit i74 z1 (by first | (simp only [a74, push_cast]; done) | (simp only [a74, push_cast]; rfl))
/-! ## 116: quantale/logic.fields -/
def H116 : Nat → Hint := fun i => [⟨[], [1], []⟩].getD (i - 0) ⟨[], [], []⟩
@[push_cast] theorem H116_0 : H116 0 = ⟨[], [1], []⟩ := rfl
def F116 (N : Nat) (n : Node) : Option (Bool) :=
  iteO (n.op == 1)
  (bindO (F16 N n.name) fun r2 =>
    iteO r2
    (iteO (decide (n.sortf < 1))
      (some false)
      (iteO (decide (n.sortf > 5))
        (some false)
        (iteO (n.op == 2)
          (iteO (decide (n.num ≥ (-1000000000000)))
            (some (decide (n.num ≤ 1000000000000)))
            (some false))
          (iteO (n.op == 7)
            (iteO (decide (n.num ≥ (-1000000000000)))
              (some (decide (n.num ≤ 1000000000000)))
              (some false))
            (iteO (n.op == 42)
              (iteO (decide (n.num ≥ 0))
                (some (decide (n.num < 200)))
                (some false))
              (some (n.num == 0)))))))
    (some false))
  (bindO (F16 N n.name) fun r1 =>
    iteO ((n.op == 3) == r1)
    (iteO (n.op == 3)
      (iteO (decide (n.sortf < 1))
        (some false)
        (iteO (decide (n.sortf > 5))
          (some false)
          (iteO (n.op == 2)
            (iteO (decide (n.num ≥ (-1000000000000)))
              (some (decide (n.num ≤ 1000000000000)))
              (some false))
            (iteO (n.op == 7)
              (iteO (decide (n.num ≥ (-1000000000000)))
                (some (decide (n.num ≤ 1000000000000)))
                (some false))
              (iteO (n.op == 42)
                (iteO (decide (n.num ≥ 0))
                  (some (decide (n.num < 200)))
                  (some false))
                (some (n.num == 0)))))))
      (iteO (n.name.toList == (⟨#[]⟩ : ByteArray).toList)
        (iteO (n.sortf == 0)
          (iteO (n.op == 2)
            (iteO (decide (n.num ≥ (-1000000000000)))
              (some (decide (n.num ≤ 1000000000000)))
              (some false))
            (iteO (n.op == 7)
              (iteO (decide (n.num ≥ (-1000000000000)))
                (some (decide (n.num ≤ 1000000000000)))
                (some false))
              (iteO (n.op == 42)
                (iteO (decide (n.num ≥ 0))
                  (some (decide (n.num < 200)))
                  (some false))
                (some (n.num == 0)))))
          (some false))
        (some false)))
    (some false))
def a116 (x : Node) : List AV := [.agg (Node.cells x)]
def v116 (r : Bool) : AV := .bool r
theorem i116 (x y : Node) (h : nzs (a116 x) = nzs (a116 y)) : x = y := by
  simp only [nzs, a116, List.map_cons, List.map_nil, nzV_agg, nzV_int, nzV_bool, nzV_str, nzV_sl, nzL_sl, List.cons.injEq, AV.agg.injEq, AV.int.injEq, AV.bool.injEq, AV.str.injEq, true_and, and_true, or_true, Node.nz_iff] at h
  first | exact h | (obtain ⟨x1, x2⟩ := x; simp_all [Prod.ext_iff]) | simp_all [Prod.ext_iff]
theorem w116 (x : Node) : wks (a116 x) = true := by
  simp only [wks, a116, wkV, wkL, Node.wk, List.all_cons, List.all_nil, Bool.not_false, Bool.and_self, Bool.and_true]
theorem d116 (x : Node) : allData (a116 x) = true := by
  simp only [a116, push_cast]
def sh116 : Shp := .one (.leaf none)
noncomputable def t116 (N : Nat) : List AV → Option AV := TL a116 fun x => bindO (F116 N x) fun r => some (v116 r)
@[push_cast] theorem v116_eq (r : Bool) : v116 r = .bool r := rfl
@[push_cast] theorem t16_1 {N : Nat} (z1 : ByteArray) : t16 N [.str z1] = bindO (F16 N z1) fun r => some (v16 r) :=
  TL_hit i16 z1 (by first | (simp only [a16, push_cast]; done) | (simp only [a16, push_cast]; rfl))
/-! ## 36: quantale/logic.Sort -/
def H36 : Nat → Hint := fun i => [⟨[1], [1], []⟩, ⟨[], [1], []⟩, ⟨[], [1], []⟩].getD (i - 0) ⟨[], [], []⟩
@[push_cast] theorem H36_0 : H36 0 = ⟨[1], [1], []⟩ := rfl
@[push_cast] theorem H36_1 : H36 1 = ⟨[], [1], []⟩ := rfl
@[push_cast] theorem H36_2 : H36 2 = ⟨[], [1], []⟩ := rfl
def F36_s1  (s1 : Int × Int × ByteArray × Int × (List Node)) : Option (Sum (Int × Int × ByteArray × Int × (List Node)) (Int)) :=
  iteO (s1.1 == 8)
  (iteO (decide ((s1.2.2.2.2.length : Int) < 2))
    (some (.inr 0))
    (bindO (atO s1.2.2.2.2 1) fun x2 =>
      some (.inl (x2.op, x2.sortf, x2.name, x2.num, x2.kids))))
  (iteO (s1.1 == 1)
    (some (.inr s1.2.1))
    (iteO (s1.1 == 3)
      (some (.inr s1.2.1))
      (iteO (s1.1 == 2)
        (some (.inr 1))
        (iteO (s1.1 == 4)
          (some (.inr 1))
          (iteO (s1.1 == 5)
            (some (.inr 1))
            (iteO (s1.1 == 6)
              (some (.inr 1))
              (iteO (s1.1 == 7)
                (some (.inr 1))
                (iteO (s1.1 == 14)
                  (some (.inr 1))
                  (iteO (s1.1 == 16)
                    (some (.inr 1))
                    (iteO (s1.1 == 9)
                      (some (.inr 4))
                      (iteO (s1.1 == 10)
                        (some (.inr 4))
                        (iteO (s1.1 == 11)
                          (some (.inr 4))
                          (iteO (s1.1 == 12)
                            (some (.inr 4))
                            (iteO (s1.1 == 13)
                              (some (.inr 4))
                              (iteO (s1.1 == 15)
                                (some (.inr 5))
                                (iteO (decide (s1.1 ≥ 30))
                                  (iteO (decide (s1.1 ≤ 42))
                                    (some (.inr 2))
                                    (some (.inr 0)))
                                  (some (.inr 0))))))))))))))))))
def F36 (N : Nat) (n : Node) : Option (Int) :=
  whileN (S := Int × Int × ByteArray × Int × (List Node)) (F36_s1) N (n.op, n.sortf, n.name, n.num, n.kids)
def a36 (x : Node) : List AV := [.agg (Node.cells x)]
def v36 (r : Int) : AV := .int .i64 r
theorem i36 (x y : Node) (h : nzs (a36 x) = nzs (a36 y)) : x = y := by
  simp only [nzs, a36, List.map_cons, List.map_nil, nzV_agg, nzV_int, nzV_bool, nzV_str, nzV_sl, nzL_sl, List.cons.injEq, AV.agg.injEq, AV.int.injEq, AV.bool.injEq, AV.str.injEq, true_and, and_true, or_true, Node.nz_iff] at h
  first | exact h | (obtain ⟨x1, x2⟩ := x; simp_all [Prod.ext_iff]) | simp_all [Prod.ext_iff]
theorem w36 (x : Node) : wks (a36 x) = true := by
  simp only [wks, a36, wkV, wkL, Node.wk, List.all_cons, List.all_nil, Bool.not_false, Bool.and_self, Bool.and_true]
theorem d36 (x : Node) : allData (a36 x) = true := by
  simp only [a36, push_cast]
def sh36 : Shp := .one (.leaf none)
noncomputable def t36 (N : Nat) : List AV → Option AV := TL a36 fun x => bindO (F36 N x) fun r => some (v36 r)
@[push_cast] theorem v36_eq (r : Int) : v36 r = .int .i64 r := rfl
/-! ## 153: quantale/logic.takes -/
def H153 : Nat → Hint := fun i => [⟨[], [], []⟩].getD (i - 0) ⟨[], [], []⟩
@[push_cast] theorem H153_0 : H153 0 = ⟨[], [], []⟩ := rfl
def F153 (op : Int) : Option ((List Int) × Bool) :=
  iteO (op == 2)
  (some ([], true))
  (iteO (op == 9)
    (some ([], true))
    (iteO (op == 30)
      (some ([], true))
      (iteO (op == 31)
        (some ([], true))
        (iteO (op == 1)
          (some ([], true))
          (iteO (op == 4)
            (some ([1, 1], true))
            (iteO (op == 5)
              (some ([1, 1], true))
              (iteO (op == 38)
                (some ([1, 1], true))
                (iteO (op == 39)
                  (some ([1, 1], true))
                  (iteO (op == 6)
                    (some ([1], true))
                    (iteO (op == 7)
                      (some ([1], true))
                      (iteO (op == 10)
                        (some ([1], true))
                        (iteO (op == 11)
                          (some ([4, 4], true))
                          (iteO (op == 12)
                            (some ([4, 4], true))
                            (iteO (op == 13)
                              (some ([4, 4], true))
                              (iteO (op == 41)
                                (some ([4, 4], true))
                                (iteO (op == 40)
                                  (some ([1, 4], true))
                                  (iteO (op == 14)
                                    (some ([5, 1], true))
                                    (iteO (op == 15)
                                      (some ([5, 1, 1], true))
                                      (iteO (op == 16)
                                        (some ([5], true))
                                        (iteO (op == 32)
                                          (some ([2], true))
                                          (iteO (op == 33)
                                            (some ([2, 2], true))
                                            (iteO (op == 34)
                                              (some ([2, 2], true))
                                              (iteO (op == 35)
                                                (some ([2, 2], true))
                                                (iteO (op == 36)
                                                  (some ([2, 2], true))
                                                  (some ([], false))))))))))))))))))))))))))
def a153 (x : Int) : List AV := [.int .i64 x]
def v153 (r : (List Int) × Bool) : AV := .tuple [.sl false 1 (List.map (cI .i64) r.1), .bool r.2]
theorem i153 (x y : Int) (h : nzs (a153 x) = nzs (a153 y)) : x = y := by
  simp only [nzs, a153, List.map_cons, List.map_nil, nzV_agg, nzV_int, nzV_bool, nzV_str, nzV_sl, nzL_sl, List.cons.injEq, AV.agg.injEq, AV.int.injEq, AV.bool.injEq, AV.str.injEq, true_and, and_true, or_true] at h
  first | exact h | (obtain ⟨x1, x2⟩ := x; simp_all [Prod.ext_iff]) | simp_all [Prod.ext_iff]
theorem w153 (x : Int) : wks (a153 x) = true := by
  simp only [wks, a153, wkV, wkL, List.all_cons, List.all_nil, Bool.not_false, Bool.and_self, Bool.and_true]
theorem d153 (x : Int) : allData (a153 x) = true := by
  simp only [a153, push_cast]
def sh153 : Shp := .tup [.leaf (some 1), .leaf none]
noncomputable def t153 : List AV → Option AV := TL a153 fun x => bindO (F153 x) fun r => some (v153 r)
@[push_cast] theorem v153_eq (r : (List Int) × Bool) : v153 r = .tuple [.sl false 1 (List.map (cI .i64) r.1), .bool r.2] := rfl
/-! ## 154: slices.Equal[[]int,int] -/
def H154 : Nat → Hint := fun i => [⟨[0, 1, 12, 13], [], []⟩, ⟨[], [0, 1, 12, 13], []⟩].getD (i - 0) ⟨[], [], []⟩
@[push_cast] theorem H154_0 : H154 0 = ⟨[0, 1, 12, 13], [], []⟩ := rfl
@[push_cast] theorem H154_1 : H154 1 = ⟨[], [0, 1, 12, 13], []⟩ := rfl
def F154_s1 (s2q : List Int) (s3 : Unit) (i1 : Nat) (x2 : Int) : Option (Sum (Unit) (Bool)) :=
  bindO (atO s2q (i1 : Int)) fun x4 =>
  iteO (x2 == x4)
  (some (.inl ()))
  (some (.inr false))
def F154_f1  (s3 : Unit) : Option (Bool) :=
  some true
def F154 (N : Nat) (s1q : List Int) (s2q : List Int) : Option (Bool) :=
  iteO ((s1q.length : Int) == (s2q.length : Int))
  (foldN (S := Unit) (F154_s1 s2q) (F154_f1) N s1q 0 ())
  (some false)
def a154 (x : (List Int) × (List Int)) : List AV := [.sl false 1 (List.map (cI .i64) x.1), .sl false 1 (List.map (cI .i64) x.2)]
def v154 (r : Bool) : AV := .bool r
theorem i154 (x y : (List Int) × (List Int)) (h : nzs (a154 x) = nzs (a154 y)) : x = y := by
  simp only [nzs, a154, List.map_cons, List.map_nil, nzV_agg, nzV_int, nzV_bool, nzV_str, nzV_sl, nzL_sl, List.cons.injEq, AV.agg.injEq, AV.int.injEq, AV.bool.injEq, AV.str.injEq, true_and, and_true, or_true, map_inj_iff (cI_inj .i64)] at h
  first | exact h | (obtain ⟨x1, x2⟩ := x; simp_all [Prod.ext_iff]) | simp_all [Prod.ext_iff]
theorem w154 (x : (List Int) × (List Int)) : wks (a154 x) = true := by
  simp only [wks, a154, wkV, wkL, List.all_cons, List.all_nil, Bool.not_false, Bool.and_self, Bool.and_true]
theorem d154 (x : (List Int) × (List Int)) : allData (a154 x) = true := by
  simp only [a154, push_cast]
def sh154 : Shp := .one (.leaf none)
noncomputable def t154 (N : Nat) : List AV → Option AV := TL a154 fun x => bindO (F154 N x.1 x.2) fun r => some (v154 r)
@[push_cast] theorem v154_eq (r : Bool) : v154 r = .bool r := rfl
/-! ## 117: quantale/logic.shape -/
def H117 : Nat → Hint := fun i => [⟨[1, 3, 14, 15, 16], [1, 3], []⟩, ⟨[], [1, 3, 14, 15, 16], []⟩, ⟨[], [], []⟩].getD (i - 0) ⟨[], [], []⟩
@[push_cast] theorem H117_0 : H117 0 = ⟨[1, 3, 14, 15, 16], [1, 3], []⟩ := rfl
@[push_cast] theorem H117_1 : H117 1 = ⟨[], [1, 3, 14, 15, 16], []⟩ := rfl
@[push_cast] theorem H117_2 : H117 2 = ⟨[], [], []⟩ := rfl
def H155 : Nat → Hint := fun _ => ⟨[], [], []⟩
def F117_s1 (N : Nat) (s3 : List Int) (i1 : Nat) (x2 : Node) : Option (Sum (List Int) (Bool)) :=
  bindO (F36 N x2) fun r4 =>
  bindO (atO s3 (i1 : Int)) fun x5 =>
  some (.inl (s3.set i1 r4))
def F117_f1 (N : Nat) (n : Node) (s3 : List Int) : Option (Bool) :=
  bindO (F153 n.op) fun r6 =>
  iteO r6.2
  (bindO (F154 N s3 r6.1) fun r7 =>
    some r7)
  (iteO (n.op == 8)
    (iteO (((s3.length : Int)) == 3)
      (bindO (atO s3 0) fun x8 =>
        iteO (x8 == 2)
        (bindO (atO s3 1) fun x9 =>
          bindO (atO s3 2) fun x10 =>
          iteO (x9 == x10)
          (iteO (x9 == 1)
            (some true)
            (some (decide (x9 ≥ 3))))
          (some false))
        (some false))
      (some false))
    (iteO (n.op == 37)
      (iteO (((s3.length : Int)) == 2)
        (bindO (atO s3 0) fun x11 =>
          bindO (atO s3 1) fun x12 =>
          iteO (x11 == x12)
          (iteO (x11 == 1)
            (some true)
            (some (decide (x11 ≥ 3))))
          (some false))
        (some false))
      (iteO (n.op == 3)
        (some (decide (((s3.length : Int)) ≤ 8)))
        (iteO (n.op == 42)
          (iteO (decide (((s3.length : Int)) ≥ 1))
            (some (decide (((s3.length : Int)) ≤ 40)))
            (some false))
          (some false)))))
def F117 (N : Nat) (n : Node) : Option (Bool) :=
  iteO (decide (0 ≤ (n.kids.length : Int) ∧ (n.kids.length : Int) ≤ (n.kids.length : Int) ∧ (n.kids.length : Int) * 8 ≤ 140737488355328 ∧ (n.kids.length : Int) ≤ 9223372036854775807))
  (foldN (S := List Int) (F117_s1 N) (F117_f1 N n) N n.kids 0 (List.replicate n.kids.length 0))
  (none)
def a117 (x : Node) : List AV := [.agg (Node.cells x)]
def v117 (r : Bool) : AV := .bool r
theorem i117 (x y : Node) (h : nzs (a117 x) = nzs (a117 y)) : x = y := by
  simp only [nzs, a117, List.map_cons, List.map_nil, nzV_agg, nzV_int, nzV_bool, nzV_str, nzV_sl, nzL_sl, List.cons.injEq, AV.agg.injEq, AV.int.injEq, AV.bool.injEq, AV.str.injEq, true_and, and_true, or_true, Node.nz_iff] at h
  first | exact h | (obtain ⟨x1, x2⟩ := x; simp_all [Prod.ext_iff]) | simp_all [Prod.ext_iff]
theorem w117 (x : Node) : wks (a117 x) = true := by
  simp only [wks, a117, wkV, wkL, Node.wk, List.all_cons, List.all_nil, Bool.not_false, Bool.and_self, Bool.and_true]
theorem d117 (x : Node) : allData (a117 x) = true := by
  simp only [a117, push_cast]
def sh117 : Shp := .one (.leaf none)
noncomputable def t117 (N : Nat) : List AV → Option AV := TL a117 fun x => bindO (F117 N x) fun r => some (v117 r)
@[push_cast] theorem v117_eq (r : Bool) : v117 r = .bool r := rfl
@[push_cast] theorem t36_1 {N : Nat} (z1 : Int) (z2 : Int) (z3 : ByteArray) (z4 : Int) (z5 : List Node) : t36 N [.agg [.int .i64 z1, .int .i64 z2, .str z3, .int .i64 z4, .sl false 5 (List.map Node.cells z5)]] = bindO (F36 N (⟨z1, z2, z3, z4, z5⟩ : Node)) fun r => some (v36 r) :=
  TL_hit i36 (⟨z1, z2, z3, z4, z5⟩ : Node) (by first | (simp only [a36, push_cast]; done) | (simp only [a36, push_cast]; rfl))
@[push_cast] theorem t153_1 (z1 : Int) : t153 [.int .i64 z1] = bindO (F153 z1) fun r => some (v153 r) :=
  TL_hit i153 z1 (by first | (simp only [a153, push_cast]; done) | (simp only [a153, push_cast]; rfl))
@[push_cast] theorem t154_1 {N : Nat} (z1 : List Int) (z2 : List Int) : t154 N [.sl false 1 (List.map (cI .i64) z1), .sl false 1 (List.map (cI .i64) z2)] = bindO (F154 N z1 z2) fun r => some (v154 r) :=
  TL_hit i154 (z1, z2) (by first | (simp only [a154, push_cast]; done) | (simp only [a154, push_cast]; rfl))
/-! ## 71: quantale/logic.sorted -/
def H71 : Nat → Hint := fun i => [⟨[], [2], []⟩, ⟨[], [2], []⟩].getD (i - 0) ⟨[], [], []⟩
@[push_cast] theorem H71_0 : H71 0 = ⟨[], [2], []⟩ := rfl
@[push_cast] theorem H71_1 : H71 1 = ⟨[], [2], []⟩ := rfl
def F71_s1 (N : Nat) (s3 : Unit) (x2 : Node) : Option (Sum (Unit) (Bool)) :=
  bindO (F116 N x2) fun r4 =>
  iteO r4
  (bindO (F117 N x2) fun r5 =>
    iteO r5
    (some (.inl ()))
    (some (.inr false)))
  (some (.inr false))
def F71_f1  (s3 : Unit) : Option (Bool) :=
  some true
def F71 (N : Nat) (n : Node) : Option (Bool) :=
  bindO (walkO n) fun l1 =>
  foldO (S := Unit) (F71_s1 N) (F71_f1) l1 ()
def a71 (x : Node) : List AV := [.agg (Node.cells x)]
def v71 (r : Bool) : AV := .bool r
theorem i71 (x y : Node) (h : nzs (a71 x) = nzs (a71 y)) : x = y := by
  simp only [nzs, a71, List.map_cons, List.map_nil, nzV_agg, nzV_int, nzV_bool, nzV_str, nzV_sl, nzL_sl, List.cons.injEq, AV.agg.injEq, AV.int.injEq, AV.bool.injEq, AV.str.injEq, true_and, and_true, or_true, Node.nz_iff] at h
  first | exact h | (obtain ⟨x1, x2⟩ := x; simp_all [Prod.ext_iff]) | simp_all [Prod.ext_iff]
theorem w71 (x : Node) : wks (a71 x) = true := by
  simp only [wks, a71, wkV, wkL, Node.wk, List.all_cons, List.all_nil, Bool.not_false, Bool.and_self, Bool.and_true]
theorem d71 (x : Node) : allData (a71 x) = true := by
  simp only [a71, push_cast]
def sh71 : Shp := .one (.leaf none)
noncomputable def t71 (N : Nat) : List AV → Option AV := TL a71 fun x => bindO (F71 N x) fun r => some (v71 r)
@[push_cast] theorem v71_eq (r : Bool) : v71 r = .bool r := rfl
@[push_cast] theorem t116_1 {N : Nat} (z1 : Int) (z2 : Int) (z3 : ByteArray) (z4 : Int) (z5 : List Node) : t116 N [.agg [.int .i64 z1, .int .i64 z2, .str z3, .int .i64 z4, .sl false 5 (List.map Node.cells z5)]] = bindO (F116 N (⟨z1, z2, z3, z4, z5⟩ : Node)) fun r => some (v116 r) :=
  TL_hit i116 (⟨z1, z2, z3, z4, z5⟩ : Node) (by first | (simp only [a116, push_cast]; done) | (simp only [a116, push_cast]; rfl))
@[push_cast] theorem t117_1 {N : Nat} (z1 : Int) (z2 : Int) (z3 : ByteArray) (z4 : Int) (z5 : List Node) : t117 N [.agg [.int .i64 z1, .int .i64 z2, .str z3, .int .i64 z4, .sl false 5 (List.map Node.cells z5)]] = bindO (F117 N (⟨z1, z2, z3, z4, z5⟩ : Node)) fun r => some (v117 r) :=
  TL_hit i117 (⟨z1, z2, z3, z4, z5⟩ : Node) (by first | (simp only [a117, push_cast]; done) | (simp only [a117, push_cast]; rfl))
/-! ## 40: quantale/logic.Uniform -/
def H40 : Nat → Hint := fun i => [⟨[], [2], []⟩, ⟨[], [2, 3], []⟩].getD (i - 0) ⟨[], [], []⟩
@[push_cast] theorem H40_0 : H40 0 = ⟨[], [2], []⟩ := rfl
@[push_cast] theorem H40_1 : H40 1 = ⟨[], [2, 3], []⟩ := rfl
def F40_s1  (s3 : ByteArray → Option Int) (x2 : Node) : Option (Sum (ByteArray → Option Int) (Bool)) :=
  iteO (x2.op == 3)
  (optO (s3 x2.name) (fun m4 =>
    iteO ((x2.kids.length : Int) == 0)
      (iteO (m4 == (-4611686018427387904))
        (iteO (x2.op == 1)
          (some (.inr false))
          (some (.inl (putM s3 x2.name (-4611686018427387904)))))
        (some (.inr false)))
      (iteO (x2.op == 1)
        (iteO (m4 == (-4611686018427387904))
          (some (.inr false))
          (optO (s3 x2.name) (fun m5 =>
            iteO (m5 == x2.sortf)
              (some (.inl (putM s3 x2.name x2.sortf)))
              (some (.inr false)))
            (some (.inl (putM s3 x2.name x2.sortf)))))
        (some (.inl s3))))
    (iteO ((x2.kids.length : Int) == 0)
      (iteO (x2.op == 1)
        (optO ((putM s3 x2.name (-4611686018427387904)) x2.name) (fun m6 =>
          iteO (m6 == x2.sortf)
            (some (.inl (putM (putM s3 x2.name (-4611686018427387904)) x2.name x2.sortf)))
            (some (.inr false)))
          (some (.inl (putM (putM s3 x2.name (-4611686018427387904)) x2.name x2.sortf))))
        (some (.inl (putM s3 x2.name (-4611686018427387904)))))
      (iteO (x2.op == 1)
        (optO (s3 x2.name) (fun m7 =>
          iteO (m7 == x2.sortf)
            (some (.inl (putM s3 x2.name x2.sortf)))
            (some (.inr false)))
          (some (.inl (putM s3 x2.name x2.sortf))))
        (some (.inl s3)))))
  (optO (s3 x2.name) (fun m8 =>
    iteO (x2.op == 1)
      (iteO (m8 == (-4611686018427387904))
        (some (.inr false))
        (optO (s3 x2.name) (fun m9 =>
          iteO (m9 == x2.sortf)
            (some (.inl (putM s3 x2.name x2.sortf)))
            (some (.inr false)))
          (some (.inl (putM s3 x2.name x2.sortf)))))
      (some (.inl s3)))
    (iteO (x2.op == 1)
      (optO (s3 x2.name) (fun m10 =>
        iteO (m10 == x2.sortf)
          (some (.inl (putM s3 x2.name x2.sortf)))
          (some (.inr false)))
        (some (.inl (putM s3 x2.name x2.sortf))))
      (some (.inl s3))))
def F40_f1  (s3 : ByteArray → Option Int) : Option (Bool) :=
  some true
def F40 (n : Node) : Option (Bool) :=
  bindO (walkO n) fun l1 =>
  foldO (S := ByteArray → Option Int) (F40_s1) (F40_f1) l1 (fun _ => none)
def a40 (x : Node) : List AV := [.agg (Node.cells x)]
def v40 (r : Bool) : AV := .bool r
theorem i40 (x y : Node) (h : nzs (a40 x) = nzs (a40 y)) : x = y := by
  simp only [nzs, a40, List.map_cons, List.map_nil, nzV_agg, nzV_int, nzV_bool, nzV_str, nzV_sl, nzL_sl, List.cons.injEq, AV.agg.injEq, AV.int.injEq, AV.bool.injEq, AV.str.injEq, true_and, and_true, or_true, Node.nz_iff] at h
  first | exact h | (obtain ⟨x1, x2⟩ := x; simp_all [Prod.ext_iff]) | simp_all [Prod.ext_iff]
theorem w40 (x : Node) : wks (a40 x) = true := by
  simp only [wks, a40, wkV, wkL, Node.wk, List.all_cons, List.all_nil, Bool.not_false, Bool.and_self, Bool.and_true]
theorem d40 (x : Node) : allData (a40 x) = true := by
  simp only [a40, push_cast]
def sh40 : Shp := .one (.leaf none)
noncomputable def t40 : List AV → Option AV := TL a40 fun x => bindO (F40 x) fun r => some (v40 r)
@[push_cast] theorem v40_eq (r : Bool) : v40 r = .bool r := rfl
theorem mk98 {E : Env} {fr : Fr} {σ : Store} {t : Nat} (hty : E.ty = tys) : run (aOp E fr σ t (.makeMap 98 none)) = newObj σ (.map .string (mS (evI .i64) fun _ => none)) (.map σ.length) := by
  rw [r_makeMap, hty, ← mS_empty (evI .i64)]
  simp only [push_cast, ty98, ty9]
  rfl
/-! ## 14: quantale/logic.Check -/
def H14 : Nat → Hint := fun i => [⟨[], [], []⟩].getD (i - 0) ⟨[], [], []⟩
@[push_cast] theorem H14_0 : H14 0 = ⟨[], [], []⟩ := rfl
def F14 (N : Nat) (n : Node) (sortq : Int) : Option (Int) :=
  iteO (decide (sortq < 0))
  (some 1)
  (iteO (decide (sortq > 5))
    (some 1)
    (bindO (F70 N n) fun r1 =>
      iteO r1
      (bindO (F71 N n) fun r2 =>
        iteO r2
        (bindO (F40 n) fun r3 =>
          iteO r3
          (iteO (sortq == 0)
            (some 0)
            (bindO (F36 N n) fun r4 =>
              iteO (r4 == sortq)
              (some 0)
              (some 10)))
          (some 3))
        (some 3))
      (some 2)))
def a14 (x : Node × Int) : List AV := [.agg (Node.cells x.1), .int .i64 x.2]
def v14 (r : Int) : AV := .int .i64 r
theorem i14 (x y : Node × Int) (h : nzs (a14 x) = nzs (a14 y)) : x = y := by
  simp only [nzs, a14, List.map_cons, List.map_nil, nzV_agg, nzV_int, nzV_bool, nzV_str, nzV_sl, nzL_sl, List.cons.injEq, AV.agg.injEq, AV.int.injEq, AV.bool.injEq, AV.str.injEq, true_and, and_true, or_true, Node.nz_iff] at h
  first | exact h | (obtain ⟨x1, x2⟩ := x; simp_all [Prod.ext_iff]) | simp_all [Prod.ext_iff]
theorem w14 (x : Node × Int) : wks (a14 x) = true := by
  simp only [wks, a14, wkV, wkL, Node.wk, List.all_cons, List.all_nil, Bool.not_false, Bool.and_self, Bool.and_true]
theorem d14 (x : Node × Int) : allData (a14 x) = true := by
  simp only [a14, push_cast]
def sh14 : Shp := .one (.leaf none)
noncomputable def t14 (N : Nat) : List AV → Option AV := TL a14 fun x => bindO (F14 N x.1 x.2) fun r => some (v14 r)
@[push_cast] theorem v14_eq (r : Int) : v14 r = .int .i64 r := rfl
@[push_cast] theorem t70_1 {N : Nat} (z1 : Int) (z2 : Int) (z3 : ByteArray) (z4 : Int) (z5 : List Node) : t70 N [.agg [.int .i64 z1, .int .i64 z2, .str z3, .int .i64 z4, .sl false 5 (List.map Node.cells z5)]] = bindO (F70 N (⟨z1, z2, z3, z4, z5⟩ : Node)) fun r => some (v70 r) :=
  TL_hit i70 (⟨z1, z2, z3, z4, z5⟩ : Node) (by first | (simp only [a70, push_cast]; done) | (simp only [a70, push_cast]; rfl))
@[push_cast] theorem t71_1 {N : Nat} (z1 : Int) (z2 : Int) (z3 : ByteArray) (z4 : Int) (z5 : List Node) : t71 N [.agg [.int .i64 z1, .int .i64 z2, .str z3, .int .i64 z4, .sl false 5 (List.map Node.cells z5)]] = bindO (F71 N (⟨z1, z2, z3, z4, z5⟩ : Node)) fun r => some (v71 r) :=
  TL_hit i71 (⟨z1, z2, z3, z4, z5⟩ : Node) (by first | (simp only [a71, push_cast]; done) | (simp only [a71, push_cast]; rfl))
@[push_cast] theorem t40_1 (z1 : Int) (z2 : Int) (z3 : ByteArray) (z4 : Int) (z5 : List Node) : t40 [.agg [.int .i64 z1, .int .i64 z2, .str z3, .int .i64 z4, .sl false 5 (List.map Node.cells z5)]] = bindO (F40 (⟨z1, z2, z3, z4, z5⟩ : Node)) fun r => some (v40 r) :=
  TL_hit i40 (⟨z1, z2, z3, z4, z5⟩ : Node) (by first | (simp only [a40, push_cast]; done) | (simp only [a40, push_cast]; rfl))
/-! ## 78: quantale/logic.order[int] -/
def H78 : Nat → Hint := fun _ => ⟨[], [], []⟩
def F78 (a : Int) (b : Int) : Option (Int) :=
  iteO (decide (a < b))
  (some (-1))
  (iteO (decide (a > b))
    (some 1)
    (some 0))
def a78 (x : Int × Int) : List AV := [.int .i64 x.1, .int .i64 x.2]
def v78 (r : Int) : AV := .int .i64 r
theorem i78 (x y : Int × Int) (h : nzs (a78 x) = nzs (a78 y)) : x = y := by
  simp only [nzs, a78, List.map_cons, List.map_nil, nzV_agg, nzV_int, nzV_bool, nzV_str, nzV_sl, nzL_sl, List.cons.injEq, AV.agg.injEq, AV.int.injEq, AV.bool.injEq, AV.str.injEq, true_and, and_true, or_true] at h
  first | exact h | (obtain ⟨x1, x2⟩ := x; simp_all [Prod.ext_iff]) | simp_all [Prod.ext_iff]
theorem w78 (x : Int × Int) : wks (a78 x) = true := by
  simp only [wks, a78, wkV, wkL, List.all_cons, List.all_nil, Bool.not_false, Bool.and_self, Bool.and_true]
theorem d78 (x : Int × Int) : allData (a78 x) = true := by
  simp only [a78, push_cast]
def sh78 : Shp := .one (.leaf none)
noncomputable def t78 : List AV → Option AV := TL a78 fun x => bindO (F78 x.1 x.2) fun r => some (v78 r)
@[push_cast] theorem v78_eq (r : Int) : v78 r = .int .i64 r := rfl
/-! ## 94: quantale/logic.Vars$1 -/
def H94 : Nat → Hint := fun _ => ⟨[], [], []⟩
def F94 (a : Decl) (b : Decl) : Option (Int) :=
  bindO (F79 a.declName b.declName) fun r1 =>
  iteO (r1 == 0)
  (bindO (F78 a.declSort b.declSort) fun r2 =>
    some r2)
  (some r1)
def a94 (x : Decl × Decl) : List AV := [.agg (Decl.cells x.1), .agg (Decl.cells x.2)]
def v94 (r : Int) : AV := .int .i64 r
theorem i94 (x y : Decl × Decl) (h : nzs (a94 x) = nzs (a94 y)) : x = y := by
  simp only [nzs, a94, List.map_cons, List.map_nil, nzV_agg, nzV_int, nzV_bool, nzV_str, nzV_sl, nzL_sl, List.cons.injEq, AV.agg.injEq, AV.int.injEq, AV.bool.injEq, AV.str.injEq, true_and, and_true, or_true, Decl.nz_iff] at h
  first | exact h | (obtain ⟨x1, x2⟩ := x; simp_all [Prod.ext_iff]) | simp_all [Prod.ext_iff]
theorem w94 (x : Decl × Decl) : wks (a94 x) = true := by
  simp only [wks, a94, wkV, wkL, Decl.wk, List.all_cons, List.all_nil, Bool.not_false, Bool.and_self, Bool.and_true]
theorem d94 (x : Decl × Decl) : allData (a94 x) = true := by
  simp only [a94, push_cast]
def sh94 : Shp := .one (.leaf none)
noncomputable def t94 : List AV → Option AV := TL a94 fun x => bindO (F94 x.1 x.2) fun r => some (v94 r)
@[push_cast] theorem v94_eq (r : Int) : v94 r = .int .i64 r := rfl
@[push_cast] theorem t79_1 (z1 : ByteArray) (z2 : ByteArray) : t79 [.str z1, .str z2] = bindO (F79 z1 z2) fun r => some (v79 r) :=
  TL_hit i79 (z1, z2) (by first | (simp only [a79, push_cast]; done) | (simp only [a79, push_cast]; rfl))
@[push_cast] theorem t78_1 (z1 : Int) (z2 : Int) : t78 [.int .i64 z1, .int .i64 z2] = bindO (F78 z1 z2) fun r => some (v78 r) :=
  TL_hit i78 (z1, z2) (by first | (simp only [a78, push_cast]; done) | (simp only [a78, push_cast]; rfl))
/-! ## 46: quantale/logic.Vars -/
def H46 : Nat → Hint := fun i => [⟨[], [3], [.ownS 2 0 2]⟩, ⟨[], [3], []⟩].getD (i - 0) ⟨[], [], []⟩
@[push_cast] theorem H46_0 : H46 0 = ⟨[], [3], [.ownS 2 0 2]⟩ := rfl
@[push_cast] theorem H46_1 : H46 1 = ⟨[], [3], []⟩ := rfl
def H93 : Nat → Hint := fun _ => ⟨[], [], []⟩
def H138 : Nat → Hint := fun i => [⟨[0, 2, 4, 8, 9, 10], [0, 2, 4, 8, 9], []⟩, ⟨[], [0, 2, 4, 8, 9, 10], []⟩].getD (i - 0) ⟨[], [], []⟩
@[push_cast] theorem H138_0 : H138 0 = ⟨[0, 2, 4, 8, 9, 10], [0, 2, 4, 8, 9], []⟩ := rfl
@[push_cast] theorem H138_1 : H138 1 = ⟨[], [0, 2, 4, 8, 9, 10], []⟩ := rfl
def H139 : Nat → Hint := fun _ => ⟨[], [], []⟩
def F46_s3 (s6 : List Decl) (x5 : Node) (s7 : Int × Int) : Option (Sum (Int × Int) (Sum (List Decl) (List Decl))) :=
  iteO (decide (s7.2 < s7.1))
  (bindO (atO s6 (IntKind.i64.wrap ((IntKind.u64.wrap (IntKind.i64.wrap (s7.2 + s7.1))).fdiv (2 ^ (min (1 : Int).toNat (IntKind.u64).bits))))) fun x8 =>
    bindO (F94 x8 (⟨x5.name, x5.sortf⟩ : Decl)) fun r9 =>
    iteO (decide (r9 < 0))
    (some (.inl (s7.1, IntKind.i64.wrap ((IntKind.i64.wrap ((IntKind.u64.wrap (IntKind.i64.wrap (s7.2 + s7.1))).fdiv (2 ^ (min (1 : Int).toNat (IntKind.u64).bits)))) + 1))))
    (some (.inl (IntKind.i64.wrap ((IntKind.u64.wrap (IntKind.i64.wrap (s7.2 + s7.1))).fdiv (2 ^ (min (1 : Int).toNat (IntKind.u64).bits))), s7.2))))
  (iteO (decide (s7.2 < ((s6.length : Int))))
    (bindO (atO s6 s7.2) fun x10 =>
      bindO (F94 x10 (⟨x5.name, x5.sortf⟩ : Decl)) fun r11 =>
      iteO (r11 == 0)
      (some (.inr (.inl s6)))
      (iteO (inS s7.2 ((s6.length : Int)) s6.length)
        (iteO (s7.2 == ((s6.length : Int)))
          (iteO (fits (s6.length + 1) 24)
            (some (.inr (.inl (s6 ++ ([(⟨x5.name, x5.sortf⟩ : Decl)])))))
            (none))
          (none))
        (none)))
    (iteO (inS s7.2 ((s6.length : Int)) s6.length)
      (iteO (s7.2 == ((s6.length : Int)))
        (iteO (fits (s6.length + 1) 24)
          (some (.inr (.inl (s6 ++ ([(⟨x5.name, x5.sortf⟩ : Decl)])))))
          (none))
        (none))
      (none)))
def F46_s2 (N : Nat) (s6 : List Decl) (x5 : Node) : Option (Sum (List Decl) (List Decl)) :=
  iteO (x5.op == 1)
  (whileN (S := Int × Int) (F46_s3 s6 x5) N (((s6.length : Int)), 0))
  (some (.inl s6))
def F46_f2  (s6 : List Decl) : Option (List Decl) :=
  some s6
def F46 (N : Nat) (n : Node) : Option (List Decl) :=
  bindO (walkO n) fun l4 =>
  foldO (S := List Decl) (F46_s2 N) (F46_f2) l4 ([])
def a46 (x : Node) : List AV := [.agg (Node.cells x)]
def v46 (r : List Decl) : AV := .sl false 2 (List.map Decl.cells r)
theorem i46 (x y : Node) (h : nzs (a46 x) = nzs (a46 y)) : x = y := by
  simp only [nzs, a46, List.map_cons, List.map_nil, nzV_agg, nzV_int, nzV_bool, nzV_str, nzV_sl, nzL_sl, List.cons.injEq, AV.agg.injEq, AV.int.injEq, AV.bool.injEq, AV.str.injEq, true_and, and_true, or_true, Node.nz_iff] at h
  first | exact h | (obtain ⟨x1, x2⟩ := x; simp_all [Prod.ext_iff]) | simp_all [Prod.ext_iff]
theorem w46 (x : Node) : wks (a46 x) = true := by
  simp only [wks, a46, wkV, wkL, Node.wk, List.all_cons, List.all_nil, Bool.not_false, Bool.and_self, Bool.and_true]
theorem d46 (x : Node) : allData (a46 x) = true := by
  simp only [a46, push_cast]
def sh46 : Shp := .one (.leaf (some 2))
noncomputable def t46 (N : Nat) : List AV → Option AV := TL a46 fun x => bindO (F46 N x) fun r => some (v46 r)
@[push_cast] theorem v46_eq (r : List Decl) : v46 r = .sl false 2 (List.map Decl.cells r) := rfl
@[push_cast] theorem t94_1 (z1 : ByteArray) (z2 : Int) (z3 : ByteArray) (z4 : Int) : t94 [.agg [.str z1, .int .i64 z2], .agg [.str z3, .int .i64 z4]] = bindO (F94 (⟨z1, z2⟩ : Decl) (⟨z3, z4⟩ : Decl)) fun r => some (v94 r) :=
  TL_hit i94 ((⟨z1, z2⟩ : Decl), (⟨z3, z4⟩ : Decl)) (by first | (simp only [a94, push_cast]; done) | (simp only [a94, push_cast]; rfl))
/-! ## 12: quantale/quantalelaw01.awake -/
def H12 : Nat → Hint := fun _ => ⟨[], [], []⟩
def F12 (N : Nat) : Option (Bool) :=
  bindO (F14 N (⟨38, 0, (⟨#[]⟩ : ByteArray), 0, [(⟨1, 1, (⟨#[120]⟩ : ByteArray), 0, []⟩ : Node), (⟨2, 0, (⟨#[]⟩ : ByteArray), 1, []⟩ : Node)]⟩ : Node) 2) fun r1 =>
  iteO (r1 == 0)
  (bindO (F37 (⟨38, 0, (⟨#[]⟩ : ByteArray), 0, [(⟨1, 1, (⟨#[120]⟩ : ByteArray), 0, []⟩ : Node), (⟨2, 0, (⟨#[]⟩ : ByteArray), 1, []⟩ : Node)]⟩ : Node)) fun r2 =>
    iteO (r2 == 3)
    (bindO (F46 N (⟨38, 0, (⟨#[]⟩ : ByteArray), 0, [(⟨1, 1, (⟨#[120]⟩ : ByteArray), 0, []⟩ : Node), (⟨2, 0, (⟨#[]⟩ : ByteArray), 1, []⟩ : Node)]⟩ : Node)) fun r3 =>
      some ((r3.length : Int) == 1))
    (some false))
  (some false)
def a12 (x : Unit) : List AV := []
def v12 (r : Bool) : AV := .bool r
theorem i12 (x y : Unit) (h : nzs (a12 x) = nzs (a12 y)) : x = y := rfl
theorem w12 (x : Unit) : wks (a12 x) = true := by
  simp only [wks, a12, wkV, wkL, List.all_cons, List.all_nil, Bool.not_false, Bool.and_self, Bool.and_true]
theorem d12 (x : Unit) : allData (a12 x) = true := by
  simp only [a12, push_cast]
def sh12 : Shp := .one (.leaf none)
noncomputable def t12 (N : Nat) : List AV → Option AV := TL a12 fun x => bindO (F12 N) fun r => some (v12 r)
@[push_cast] theorem v12_eq (r : Bool) : v12 r = .bool r := rfl
@[push_cast] theorem t14_1 {N : Nat} (z1 : Int) (z2 : Int) (z3 : ByteArray) (z4 : Int) (z6 : Int) (z7 : Int) (z8 : ByteArray) (z9 : Int) (z11 : Int) (z12 : Int) (z13 : ByteArray) (z14 : Int) (z16 : Int) : t14 N [.agg [.int .i64 z1, .int .i64 z2, .str z3, .int .i64 z4, .sl true 5 [[.int .i64 z6, .int .i64 z7, .str z8, .int .i64 z9, .sl false 5 []], [.int .i64 z11, .int .i64 z12, .str z13, .int .i64 z14, .sl false 5 []]]], .int .i64 z16] = bindO (F14 N (⟨z1, z2, z3, z4, [(⟨z6, z7, z8, z9, []⟩ : Node), (⟨z11, z12, z13, z14, []⟩ : Node)]⟩ : Node) z16) fun r => some (v14 r) :=
  TL_hit i14 ((⟨z1, z2, z3, z4, [(⟨z6, z7, z8, z9, []⟩ : Node), (⟨z11, z12, z13, z14, []⟩ : Node)]⟩ : Node), z16) (by first | (simp only [a14, push_cast]; done) | (simp only [a14, push_cast]; rfl))
@[push_cast] theorem t14_2 {N : Nat} (z1 : Int) (z2 : Int) (z3 : ByteArray) (z4 : Int) (z6 : Int) (z7 : Int) (z8 : ByteArray) (z9 : Int) (z11 : Int) (z12 : Int) (z13 : ByteArray) (z14 : Int) (z16 : Int) : t14 N [.agg [.int .i64 z1, .int .i64 z2, .str z3, .int .i64 z4, .sl false 5 [[.int .i64 z6, .int .i64 z7, .str z8, .int .i64 z9, .sl false 5 []], [.int .i64 z11, .int .i64 z12, .str z13, .int .i64 z14, .sl false 5 []]]], .int .i64 z16] = bindO (F14 N (⟨z1, z2, z3, z4, [(⟨z6, z7, z8, z9, []⟩ : Node), (⟨z11, z12, z13, z14, []⟩ : Node)]⟩ : Node) z16) fun r => some (v14 r) :=
  TL_hit i14 ((⟨z1, z2, z3, z4, [(⟨z6, z7, z8, z9, []⟩ : Node), (⟨z11, z12, z13, z14, []⟩ : Node)]⟩ : Node), z16) (by first | (simp only [a14, push_cast]; done) | (simp only [a14, push_cast]; rfl))
@[push_cast] theorem t37_2 (z1 : Int) (z2 : Int) (z3 : ByteArray) (z4 : Int) (z6 : Int) (z7 : Int) (z8 : ByteArray) (z9 : Int) (z11 : Int) (z12 : Int) (z13 : ByteArray) (z14 : Int) : t37 [.agg [.int .i64 z1, .int .i64 z2, .str z3, .int .i64 z4, .sl true 5 [[.int .i64 z6, .int .i64 z7, .str z8, .int .i64 z9, .sl false 5 []], [.int .i64 z11, .int .i64 z12, .str z13, .int .i64 z14, .sl false 5 []]]]] = bindO (F37 (⟨z1, z2, z3, z4, [(⟨z6, z7, z8, z9, []⟩ : Node), (⟨z11, z12, z13, z14, []⟩ : Node)]⟩ : Node)) fun r => some (v37 r) :=
  TL_hit i37 (⟨z1, z2, z3, z4, [(⟨z6, z7, z8, z9, []⟩ : Node), (⟨z11, z12, z13, z14, []⟩ : Node)]⟩ : Node) (by first | (simp only [a37, push_cast]; done) | (simp only [a37, push_cast]; rfl))
@[push_cast] theorem t37_3 (z1 : Int) (z2 : Int) (z3 : ByteArray) (z4 : Int) (z6 : Int) (z7 : Int) (z8 : ByteArray) (z9 : Int) (z11 : Int) (z12 : Int) (z13 : ByteArray) (z14 : Int) : t37 [.agg [.int .i64 z1, .int .i64 z2, .str z3, .int .i64 z4, .sl false 5 [[.int .i64 z6, .int .i64 z7, .str z8, .int .i64 z9, .sl false 5 []], [.int .i64 z11, .int .i64 z12, .str z13, .int .i64 z14, .sl false 5 []]]]] = bindO (F37 (⟨z1, z2, z3, z4, [(⟨z6, z7, z8, z9, []⟩ : Node), (⟨z11, z12, z13, z14, []⟩ : Node)]⟩ : Node)) fun r => some (v37 r) :=
  TL_hit i37 (⟨z1, z2, z3, z4, [(⟨z6, z7, z8, z9, []⟩ : Node), (⟨z11, z12, z13, z14, []⟩ : Node)]⟩ : Node) (by first | (simp only [a37, push_cast]; done) | (simp only [a37, push_cast]; rfl))
@[push_cast] theorem t46_1 {N : Nat} (z1 : Int) (z2 : Int) (z3 : ByteArray) (z4 : Int) (z6 : Int) (z7 : Int) (z8 : ByteArray) (z9 : Int) (z11 : Int) (z12 : Int) (z13 : ByteArray) (z14 : Int) : t46 N [.agg [.int .i64 z1, .int .i64 z2, .str z3, .int .i64 z4, .sl true 5 [[.int .i64 z6, .int .i64 z7, .str z8, .int .i64 z9, .sl false 5 []], [.int .i64 z11, .int .i64 z12, .str z13, .int .i64 z14, .sl false 5 []]]]] = bindO (F46 N (⟨z1, z2, z3, z4, [(⟨z6, z7, z8, z9, []⟩ : Node), (⟨z11, z12, z13, z14, []⟩ : Node)]⟩ : Node)) fun r => some (v46 r) :=
  TL_hit i46 (⟨z1, z2, z3, z4, [(⟨z6, z7, z8, z9, []⟩ : Node), (⟨z11, z12, z13, z14, []⟩ : Node)]⟩ : Node) (by first | (simp only [a46, push_cast]; done) | (simp only [a46, push_cast]; rfl))
@[push_cast] theorem t46_2 {N : Nat} (z1 : Int) (z2 : Int) (z3 : ByteArray) (z4 : Int) (z6 : Int) (z7 : Int) (z8 : ByteArray) (z9 : Int) (z11 : Int) (z12 : Int) (z13 : ByteArray) (z14 : Int) : t46 N [.agg [.int .i64 z1, .int .i64 z2, .str z3, .int .i64 z4, .sl false 5 [[.int .i64 z6, .int .i64 z7, .str z8, .int .i64 z9, .sl false 5 []], [.int .i64 z11, .int .i64 z12, .str z13, .int .i64 z14, .sl false 5 []]]]] = bindO (F46 N (⟨z1, z2, z3, z4, [(⟨z6, z7, z8, z9, []⟩ : Node), (⟨z11, z12, z13, z14, []⟩ : Node)]⟩ : Node)) fun r => some (v46 r) :=
  TL_hit i46 (⟨z1, z2, z3, z4, [(⟨z6, z7, z8, z9, []⟩ : Node), (⟨z11, z12, z13, z14, []⟩ : Node)]⟩ : Node) (by first | (simp only [a46, push_cast]; done) | (simp only [a46, push_cast]; rfl))
/-! ## 27: quantale/quantaleref01.Size -/
def H27 : Nat → Hint := fun i => [⟨[3, 7, 8, 9], [3], []⟩, ⟨[], [3, 7, 8, 9], []⟩].getD (i - 0) ⟨[], [], []⟩
@[push_cast] theorem H27_0 : H27 0 = ⟨[3, 7, 8, 9], [3], []⟩ := rfl
@[push_cast] theorem H27_1 : H27 1 = ⟨[], [3, 7, 8, 9], []⟩ := rfl
def F27_s1 (self27 : Node → Option (Int)) (s3 : Int) (i1 : Nat) (x2 : Node) : Option (Sum (Int) (Int)) :=
  bindO (self27 x2) fun r4 =>
  some (.inl (IntKind.i64.wrap (s3 + r4)))
def F27_f1  (s3 : Int) : Option (Int) :=
  some s3
def F27b (self27 : Node → Option (Int)) (N : Nat) (n : Node) : Option (Int) :=
  foldN (S := Int) (F27_s1 self27) (F27_f1) N n.kids 0 1
def F27 : Nat → Node → Option (Int)
  | 0 => fun _ => none
  | N + 1 => fun n => F27b (F27 N) N n
def a27 (x : Node) : List AV := [.agg (Node.cells x)]
def v27 (r : Int) : AV := .int .i64 r
theorem i27 (x y : Node) (h : nzs (a27 x) = nzs (a27 y)) : x = y := by
  simp only [nzs, a27, List.map_cons, List.map_nil, nzV_agg, nzV_int, nzV_bool, nzV_str, nzV_sl, nzL_sl, List.cons.injEq, AV.agg.injEq, AV.int.injEq, AV.bool.injEq, AV.str.injEq, true_and, and_true, or_true, Node.nz_iff] at h
  first | exact h | (obtain ⟨x1, x2⟩ := x; simp_all [Prod.ext_iff]) | simp_all [Prod.ext_iff]
theorem w27 (x : Node) : wks (a27 x) = true := by
  simp only [wks, a27, wkV, wkL, Node.wk, List.all_cons, List.all_nil, Bool.not_false, Bool.and_self, Bool.and_true]
theorem d27 (x : Node) : allData (a27 x) = true := by
  simp only [a27, push_cast]
def sh27 : Shp := .one (.leaf none)
noncomputable def t27 (N : Nat) : List AV → Option AV := TL a27 fun x => bindO (F27 N x) fun r => some (v27 r)
@[push_cast] theorem v27_eq (r : Int) : v27 r = .int .i64 r := rfl
noncomputable def ts27 (self27 : Node → Option (Int)) : List AV → Option AV := TL a27 fun x => bindO (self27 x) fun r => some (v27 r)
@[push_cast] theorem t27_1 (self27 : Node → Option (Int)) (z1 : Int) (z2 : Int) (z3 : ByteArray) (z4 : Int) (z5 : List Node) : ts27 self27 [.agg [.int .i64 z1, .int .i64 z2, .str z3, .int .i64 z4, .sl false 5 (List.map Node.cells z5)]] = bindO (self27 (⟨z1, z2, z3, z4, z5⟩ : Node)) fun r => some (v27 r) :=
  TL_hit i27 (⟨z1, z2, z3, z4, z5⟩ : Node) (by first | (simp only [a27, push_cast]; done) | (simp only [a27, push_cast]; rfl))
/-! ## 13: quantale/quantalelaw01.small -/
def H13 : Nat → Hint := fun i => [⟨[0, 7, 8, 9], [0], []⟩, ⟨[], [0, 7, 8, 9], []⟩].getD (i - 0) ⟨[], [], []⟩
@[push_cast] theorem H13_0 : H13 0 = ⟨[0, 7, 8, 9], [0], []⟩ := rfl
@[push_cast] theorem H13_1 : H13 1 = ⟨[], [0, 7, 8, 9], []⟩ := rfl
def F13_s1 (N : Nat) (s3 : Int) (i1 : Nat) (x2 : Node) : Option (Sum (Int) (Bool)) :=
  bindO (F27 N x2) fun r4 =>
  some (.inl (IntKind.i64.wrap (s3 - r4)))
def F13_f1  (s3 : Int) : Option (Bool) :=
  some (decide (s3 ≥ 0))
def F13 (N : Nat) (most : Int) (l : List Node) : Option (Bool) :=
  foldN (S := Int) (F13_s1 N) (F13_f1) N l 0 most
def a13 (x : Int × (List Node)) : List AV := [.int .i64 x.1, .sl false 5 (List.map Node.cells x.2)]
def v13 (r : Bool) : AV := .bool r
theorem i13 (x y : Int × (List Node)) (h : nzs (a13 x) = nzs (a13 y)) : x = y := by
  simp only [nzs, a13, List.map_cons, List.map_nil, nzV_agg, nzV_int, nzV_bool, nzV_str, nzV_sl, nzL_sl, List.cons.injEq, AV.agg.injEq, AV.int.injEq, AV.bool.injEq, AV.str.injEq, true_and, and_true, or_true, map_inj_iff Node.cells_inj] at h
  first | exact h | (obtain ⟨x1, x2⟩ := x; simp_all [Prod.ext_iff]) | simp_all [Prod.ext_iff]
theorem w13 (x : Int × (List Node)) : wks (a13 x) = true := by
  simp only [wks, a13, wkV, wkL, List.all_cons, List.all_nil, Bool.not_false, Bool.and_self, Bool.and_true]
theorem d13 (x : Int × (List Node)) : allData (a13 x) = true := by
  simp only [a13, push_cast]
def sh13 : Shp := .one (.leaf none)
noncomputable def t13 (N : Nat) : List AV → Option AV := TL a13 fun x => bindO (F13 N x.1 x.2) fun r => some (v13 r)
@[push_cast] theorem v13_eq (r : Bool) : v13 r = .bool r := rfl
@[push_cast] theorem t27_2 {N : Nat} (z1 : Int) (z2 : Int) (z3 : ByteArray) (z4 : Int) (z5 : List Node) : t27 N [.agg [.int .i64 z1, .int .i64 z2, .str z3, .int .i64 z4, .sl false 5 (List.map Node.cells z5)]] = bindO (F27 N (⟨z1, z2, z3, z4, z5⟩ : Node)) fun r => some (v27 r) :=
  TL_hit i27 (⟨z1, z2, z3, z4, z5⟩ : Node) (by first | (simp only [a27, push_cast]; done) | (simp only [a27, push_cast]; rfl))
/-! ## 39: quantale/quantaleref01.Levels -/
def H39 : Nat → Hint := fun i => [⟨[3, 7, 8, 9], [3], []⟩, ⟨[], [3, 7, 8, 9], []⟩].getD (i - 0) ⟨[], [], []⟩
@[push_cast] theorem H39_0 : H39 0 = ⟨[3, 7, 8, 9], [3], []⟩ := rfl
@[push_cast] theorem H39_1 : H39 1 = ⟨[], [3, 7, 8, 9], []⟩ := rfl
def F39_s1 (self39 : Node → Option (Int)) (s3 : Int) (i1 : Nat) (x2 : Node) : Option (Sum (Int) (Int)) :=
  bindO (self39 x2) fun r4 =>
  some (.inl (max s3 r4))
def F39_f1  (s3 : Int) : Option (Int) :=
  some (IntKind.i64.wrap (s3 + 1))
def F39b (self39 : Node → Option (Int)) (N : Nat) (n : Node) : Option (Int) :=
  foldN (S := Int) (F39_s1 self39) (F39_f1) N n.kids 0 0
def F39 : Nat → Node → Option (Int)
  | 0 => fun _ => none
  | N + 1 => fun n => F39b (F39 N) N n
def a39 (x : Node) : List AV := [.agg (Node.cells x)]
def v39 (r : Int) : AV := .int .i64 r
theorem i39 (x y : Node) (h : nzs (a39 x) = nzs (a39 y)) : x = y := by
  simp only [nzs, a39, List.map_cons, List.map_nil, nzV_agg, nzV_int, nzV_bool, nzV_str, nzV_sl, nzL_sl, List.cons.injEq, AV.agg.injEq, AV.int.injEq, AV.bool.injEq, AV.str.injEq, true_and, and_true, or_true, Node.nz_iff] at h
  first | exact h | (obtain ⟨x1, x2⟩ := x; simp_all [Prod.ext_iff]) | simp_all [Prod.ext_iff]
theorem w39 (x : Node) : wks (a39 x) = true := by
  simp only [wks, a39, wkV, wkL, Node.wk, List.all_cons, List.all_nil, Bool.not_false, Bool.and_self, Bool.and_true]
theorem d39 (x : Node) : allData (a39 x) = true := by
  simp only [a39, push_cast]
def sh39 : Shp := .one (.leaf none)
noncomputable def t39 (N : Nat) : List AV → Option AV := TL a39 fun x => bindO (F39 N x) fun r => some (v39 r)
@[push_cast] theorem v39_eq (r : Int) : v39 r = .int .i64 r := rfl
noncomputable def ts39 (self39 : Node → Option (Int)) : List AV → Option AV := TL a39 fun x => bindO (self39 x) fun r => some (v39 r)
@[push_cast] theorem t39_1 (self39 : Node → Option (Int)) (z1 : Int) (z2 : Int) (z3 : ByteArray) (z4 : Int) (z5 : List Node) : ts39 self39 [.agg [.int .i64 z1, .int .i64 z2, .str z3, .int .i64 z4, .sl false 5 (List.map Node.cells z5)]] = bindO (self39 (⟨z1, z2, z3, z4, z5⟩ : Node)) fun r => some (v39 r) :=
  TL_hit i39 (⟨z1, z2, z3, z4, z5⟩ : Node) (by first | (simp only [a39, push_cast]; done) | (simp only [a39, push_cast]; rfl))
/-! ## 75: quantale/quantaleref01.Letter -/
def H75 : Nat → Hint := fun _ => ⟨[], [], []⟩
def F75 (c : Int) : Option (Bool) :=
  iteO (decide (c ≥ 97))
  (iteO (decide (c ≤ 122))
    (some true)
    (iteO (decide (c ≥ 65))
      (some (decide (c ≤ 90)))
      (some false)))
  (iteO (decide (c ≥ 65))
    (some (decide (c ≤ 90)))
    (some false))
def a75 (x : Int) : List AV := [.int .u8 x]
def v75 (r : Bool) : AV := .bool r
theorem i75 (x y : Int) (h : nzs (a75 x) = nzs (a75 y)) : x = y := by
  simp only [nzs, a75, List.map_cons, List.map_nil, nzV_agg, nzV_int, nzV_bool, nzV_str, nzV_sl, nzL_sl, List.cons.injEq, AV.agg.injEq, AV.int.injEq, AV.bool.injEq, AV.str.injEq, true_and, and_true, or_true] at h
  first | exact h | (obtain ⟨x1, x2⟩ := x; simp_all [Prod.ext_iff]) | simp_all [Prod.ext_iff]
theorem w75 (x : Int) : wks (a75 x) = true := by
  simp only [wks, a75, wkV, wkL, List.all_cons, List.all_nil, Bool.not_false, Bool.and_self, Bool.and_true]
theorem d75 (x : Int) : allData (a75 x) = true := by
  simp only [a75, push_cast]
def sh75 : Shp := .one (.leaf none)
noncomputable def t75 : List AV → Option AV := TL a75 fun x => bindO (F75 x) fun r => some (v75 r)
@[push_cast] theorem v75_eq (r : Bool) : v75 r = .bool r := rfl
/-! ## 121: quantale/quantaleref01.Words -/
def H121 : Nat → Hint := fun _ => ⟨[], [], []⟩
def F121  : Option (List ByteArray) :=
  some ([(⟨#[116, 114, 117, 101]⟩ : ByteArray), (⟨#[102, 97, 108, 115, 101]⟩ : ByteArray), (⟨#[105, 110]⟩ : ByteArray), (⟨#[115, 117, 98]⟩ : ByteArray), (⟨#[101, 109, 112, 116, 121]⟩ : ByteArray), (⟨#[115, 105, 110, 103]⟩ : ByteArray), (⟨#[99, 117, 112]⟩ : ByteArray), (⟨#[99, 97, 112]⟩ : ByteArray), (⟨#[100, 105, 102, 102]⟩ : ByteArray), (⟨#[115, 101, 108]⟩ : ByteArray), (⟨#[115, 116, 111]⟩ : ByteArray), (⟨#[118, 108, 101, 110]⟩ : ByteArray), (⟨#[105, 116, 101]⟩ : ByteArray)])
def a121 (x : Unit) : List AV := []
def v121 (r : List ByteArray) : AV := .sl false 1 (List.map cS r)
theorem i121 (x y : Unit) (h : nzs (a121 x) = nzs (a121 y)) : x = y := rfl
theorem w121 (x : Unit) : wks (a121 x) = true := by
  simp only [wks, a121, wkV, wkL, List.all_cons, List.all_nil, Bool.not_false, Bool.and_self, Bool.and_true]
theorem d121 (x : Unit) : allData (a121 x) = true := by
  simp only [a121, push_cast]
def sh121 : Shp := .one (.leaf (some 1))
noncomputable def t121 : List AV → Option AV := TL a121 fun x => bindO (F121) fun r => some (v121 r)
@[push_cast] theorem v121_eq (r : List ByteArray) : v121 r = .sl false 1 (List.map cS r) := rfl
/-! ## 76: quantale/quantaleref01.Word -/
def H76 : Nat → Hint := fun i => [⟨[0, 5, 6, 7], [], []⟩, ⟨[], [0, 5, 6, 7], []⟩].getD (i - 0) ⟨[], [], []⟩
@[push_cast] theorem H76_0 : H76 0 = ⟨[0, 5, 6, 7], [], []⟩ := rfl
@[push_cast] theorem H76_1 : H76 1 = ⟨[], [0, 5, 6, 7], []⟩ := rfl
def F76_s1 (s : ByteArray) (s4 : Unit) (i2 : Nat) (x3 : ByteArray) : Option (Sum (Unit) (Bool)) :=
  iteO (x3.toList == s.toList)
  (some (.inr true))
  (some (.inl ()))
def F76_f1  (s4 : Unit) : Option (Bool) :=
  some false
def F76 (N : Nat) (s : ByteArray) : Option (Bool) :=
  bindO (F121) fun r1 =>
  foldN (S := Unit) (F76_s1 s) (F76_f1) N r1 0 ()
def a76 (x : ByteArray) : List AV := [.str x]
def v76 (r : Bool) : AV := .bool r
theorem i76 (x y : ByteArray) (h : nzs (a76 x) = nzs (a76 y)) : x = y := by
  simp only [nzs, a76, List.map_cons, List.map_nil, nzV_agg, nzV_int, nzV_bool, nzV_str, nzV_sl, nzL_sl, List.cons.injEq, AV.agg.injEq, AV.int.injEq, AV.bool.injEq, AV.str.injEq, true_and, and_true, or_true] at h
  first | exact h | (obtain ⟨x1, x2⟩ := x; simp_all [Prod.ext_iff]) | simp_all [Prod.ext_iff]
theorem w76 (x : ByteArray) : wks (a76 x) = true := by
  simp only [wks, a76, wkV, wkL, List.all_cons, List.all_nil, Bool.not_false, Bool.and_self, Bool.and_true]
theorem d76 (x : ByteArray) : allData (a76 x) = true := by
  simp only [a76, push_cast]
def sh76 : Shp := .one (.leaf none)
noncomputable def t76 (N : Nat) : List AV → Option AV := TL a76 fun x => bindO (F76 N x) fun r => some (v76 r)
@[push_cast] theorem v76_eq (r : Bool) : v76 r = .bool r := rfl
@[push_cast] theorem t121_1  : t121 [] = bindO (F121) fun r => some (v121 r) :=
  TL_hit i121 () (by first | (simp only [a121, push_cast]; done) | (simp only [a121, push_cast]; rfl))
/-! ## 77: quantale/quantaleref01.Digit -/
def H77 : Nat → Hint := fun _ => ⟨[], [], []⟩
def F77 (c : Int) : Option (Bool) :=
  iteO (decide (c ≥ 48))
  (some (decide (c ≤ 57)))
  (some false)
def a77 (x : Int) : List AV := [.int .u8 x]
def v77 (r : Bool) : AV := .bool r
theorem i77 (x y : Int) (h : nzs (a77 x) = nzs (a77 y)) : x = y := by
  simp only [nzs, a77, List.map_cons, List.map_nil, nzV_agg, nzV_int, nzV_bool, nzV_str, nzV_sl, nzL_sl, List.cons.injEq, AV.agg.injEq, AV.int.injEq, AV.bool.injEq, AV.str.injEq, true_and, and_true, or_true] at h
  first | exact h | (obtain ⟨x1, x2⟩ := x; simp_all [Prod.ext_iff]) | simp_all [Prod.ext_iff]
theorem w77 (x : Int) : wks (a77 x) = true := by
  simp only [wks, a77, wkV, wkL, List.all_cons, List.all_nil, Bool.not_false, Bool.and_self, Bool.and_true]
theorem d77 (x : Int) : allData (a77 x) = true := by
  simp only [a77, push_cast]
def sh77 : Shp := .one (.leaf none)
noncomputable def t77 : List AV → Option AV := TL a77 fun x => bindO (F77 x) fun r => some (v77 r)
@[push_cast] theorem v77_eq (r : Bool) : v77 r = .bool r := rfl
/-! ## 17: quantale/quantaleref01.Name -/
def H17 : Nat → Hint := fun i => [⟨[0, 3], [], []⟩, ⟨[], [0, 3], []⟩].getD (i - 0) ⟨[], [], []⟩
@[push_cast] theorem H17_0 : H17 0 = ⟨[0, 3], [], []⟩ := rfl
@[push_cast] theorem H17_1 : H17 1 = ⟨[], [0, 3], []⟩ := rfl
def F17_s1 (s : ByteArray) (s3 : Int) : Option (Sum (Int) (Bool)) :=
  iteO (decide (s3 < (s.size : Int)))
  (iteO (inB s3 s.size)
    (bindO (F75 (bt s s3)) fun r4 =>
      iteO r4
      (some (.inl (IntKind.i64.wrap (s3 + 1))))
      (bindO (F77 (bt s s3)) fun r5 =>
        iteO r5
        (some (.inl (IntKind.i64.wrap (s3 + 1))))
        (iteO ((bt s s3) == 46)
          (some (.inl (IntKind.i64.wrap (s3 + 1))))
          (some (.inr false)))))
    (none))
  (some (.inr true))
def F17 (N : Nat) (s : ByteArray) : Option (Bool) :=
  iteO ((s.size : Int) == 0)
  (some false)
  (iteO (decide ((s.size : Int) > 24))
    (some false)
    (iteO (inB 0 s.size)
      (bindO (F75 (bt s 0)) fun r1 =>
        iteO r1
        (bindO (F76 N s) fun r2 =>
          iteO r2
          (some false)
          (whileN (S := Int) (F17_s1 s) N 1))
        (some false))
      (none)))
def a17 (x : ByteArray) : List AV := [.str x]
def v17 (r : Bool) : AV := .bool r
theorem i17 (x y : ByteArray) (h : nzs (a17 x) = nzs (a17 y)) : x = y := by
  simp only [nzs, a17, List.map_cons, List.map_nil, nzV_agg, nzV_int, nzV_bool, nzV_str, nzV_sl, nzL_sl, List.cons.injEq, AV.agg.injEq, AV.int.injEq, AV.bool.injEq, AV.str.injEq, true_and, and_true, or_true] at h
  first | exact h | (obtain ⟨x1, x2⟩ := x; simp_all [Prod.ext_iff]) | simp_all [Prod.ext_iff]
theorem w17 (x : ByteArray) : wks (a17 x) = true := by
  simp only [wks, a17, wkV, wkL, List.all_cons, List.all_nil, Bool.not_false, Bool.and_self, Bool.and_true]
theorem d17 (x : ByteArray) : allData (a17 x) = true := by
  simp only [a17, push_cast]
def sh17 : Shp := .one (.leaf none)
noncomputable def t17 (N : Nat) : List AV → Option AV := TL a17 fun x => bindO (F17 N x) fun r => some (v17 r)
@[push_cast] theorem v17_eq (r : Bool) : v17 r = .bool r := rfl
@[push_cast] theorem t75_1 (z1 : Int) : t75 [.int .u8 z1] = bindO (F75 z1) fun r => some (v75 r) :=
  TL_hit i75 z1 (by first | (simp only [a75, push_cast]; done) | (simp only [a75, push_cast]; rfl))
@[push_cast] theorem t76_1 {N : Nat} (z1 : ByteArray) : t76 N [.str z1] = bindO (F76 N z1) fun r => some (v76 r) :=
  TL_hit i76 z1 (by first | (simp only [a76, push_cast]; done) | (simp only [a76, push_cast]; rfl))
@[push_cast] theorem t77_1 (z1 : Int) : t77 [.int .u8 z1] = bindO (F77 z1) fun r => some (v77 r) :=
  TL_hit i77 z1 (by first | (simp only [a77, push_cast]; done) | (simp only [a77, push_cast]; rfl))
/-! ## 118: quantale/quantaleref01.own -/
def H118 : Nat → Hint := fun i => [⟨[], [1], []⟩].getD (i - 0) ⟨[], [], []⟩
@[push_cast] theorem H118_0 : H118 0 = ⟨[], [1], []⟩ := rfl
def F118 (N : Nat) (n : Node) : Option (Bool) :=
  iteO (n.op == 1)
  (bindO (F17 N n.name) fun r2 =>
    iteO r2
    (iteO (decide (n.sortf < 1))
      (some false)
      (iteO (decide (n.sortf > 5))
        (some false)
        (iteO (n.op == 2)
          (iteO (decide (n.num ≥ (-1000000000000)))
            (some (decide (n.num ≤ 1000000000000)))
            (some false))
          (iteO (n.op == 7)
            (iteO (decide (n.num ≥ (-1000000000000)))
              (some (decide (n.num ≤ 1000000000000)))
              (some false))
            (iteO (n.op == 42)
              (iteO (decide (n.num ≥ 0))
                (some (decide (n.num < 200)))
                (some false))
              (some (n.num == 0)))))))
    (some false))
  (iteO (n.op == 3)
    (bindO (F17 N n.name) fun r1 =>
      iteO r1
      (iteO (decide (n.sortf < 1))
        (some false)
        (iteO (decide (n.sortf > 5))
          (some false)
          (iteO (n.op == 2)
            (iteO (decide (n.num ≥ (-1000000000000)))
              (some (decide (n.num ≤ 1000000000000)))
              (some false))
            (iteO (n.op == 7)
              (iteO (decide (n.num ≥ (-1000000000000)))
                (some (decide (n.num ≤ 1000000000000)))
                (some false))
              (iteO (n.op == 42)
                (iteO (decide (n.num ≥ 0))
                  (some (decide (n.num < 200)))
                  (some false))
                (some (n.num == 0)))))))
      (some false))
    (iteO (n.name.toList == (⟨#[]⟩ : ByteArray).toList)
      (iteO (n.sortf == 0)
        (iteO (n.op == 2)
          (iteO (decide (n.num ≥ (-1000000000000)))
            (some (decide (n.num ≤ 1000000000000)))
            (some false))
          (iteO (n.op == 7)
            (iteO (decide (n.num ≥ (-1000000000000)))
              (some (decide (n.num ≤ 1000000000000)))
              (some false))
            (iteO (n.op == 42)
              (iteO (decide (n.num ≥ 0))
                (some (decide (n.num < 200)))
                (some false))
              (some (n.num == 0)))))
        (some false))
      (some false)))
def a118 (x : Node) : List AV := [.agg (Node.cells x)]
def v118 (r : Bool) : AV := .bool r
theorem i118 (x y : Node) (h : nzs (a118 x) = nzs (a118 y)) : x = y := by
  simp only [nzs, a118, List.map_cons, List.map_nil, nzV_agg, nzV_int, nzV_bool, nzV_str, nzV_sl, nzL_sl, List.cons.injEq, AV.agg.injEq, AV.int.injEq, AV.bool.injEq, AV.str.injEq, true_and, and_true, or_true, Node.nz_iff] at h
  first | exact h | (obtain ⟨x1, x2⟩ := x; simp_all [Prod.ext_iff]) | simp_all [Prod.ext_iff]
theorem w118 (x : Node) : wks (a118 x) = true := by
  simp only [wks, a118, wkV, wkL, Node.wk, List.all_cons, List.all_nil, Bool.not_false, Bool.and_self, Bool.and_true]
theorem d118 (x : Node) : allData (a118 x) = true := by
  simp only [a118, push_cast]
def sh118 : Shp := .one (.leaf none)
noncomputable def t118 (N : Nat) : List AV → Option AV := TL a118 fun x => bindO (F118 N x) fun r => some (v118 r)
@[push_cast] theorem v118_eq (r : Bool) : v118 r = .bool r := rfl
@[push_cast] theorem t17_1 {N : Nat} (z1 : ByteArray) : t17 N [.str z1] = bindO (F17 N z1) fun r => some (v17 r) :=
  TL_hit i17 z1 (by first | (simp only [a17, push_cast]; done) | (simp only [a17, push_cast]; rfl))
/-! ## 28: quantale/quantaleref01.Sort -/
def H28 : Nat → Hint := fun i => [⟨[], [1], []⟩].getD (i - 0) ⟨[], [], []⟩
@[push_cast] theorem H28_0 : H28 0 = ⟨[], [1], []⟩ := rfl
def F28b (self28 : Node → Option (Int)) (N : Nat) (n : Node) : Option (Int) :=
  iteO (n.op == 1)
  (some n.sortf)
  (iteO (n.op == 3)
    (some n.sortf)
    (iteO (n.op == 2)
      (some 1)
      (iteO (n.op == 4)
        (some 1)
        (iteO (n.op == 5)
          (some 1)
          (iteO (n.op == 6)
            (some 1)
            (iteO (n.op == 7)
              (some 1)
              (iteO (n.op == 14)
                (some 1)
                (iteO (n.op == 16)
                  (some 1)
                  (iteO (n.op == 8)
                    (iteO (decide ((n.kids.length : Int) < 2))
                      (some 0)
                      (bindO (atO n.kids 1) fun x1 =>
                        bindO (self28 x1) fun r2 =>
                        some r2))
                    (iteO (n.op == 9)
                      (some 4)
                      (iteO (n.op == 10)
                        (some 4)
                        (iteO (n.op == 11)
                          (some 4)
                          (iteO (n.op == 12)
                            (some 4)
                            (iteO (n.op == 13)
                              (some 4)
                              (iteO (n.op == 15)
                                (some 5)
                                (iteO (decide (n.op ≥ 30))
                                  (iteO (decide (n.op ≤ 42))
                                    (some 2)
                                    (some 0))
                                  (some 0)))))))))))))))))
def F28 : Nat → Node → Option (Int)
  | 0 => fun _ => none
  | N + 1 => fun n => F28b (F28 N) N n
def a28 (x : Node) : List AV := [.agg (Node.cells x)]
def v28 (r : Int) : AV := .int .i64 r
theorem i28 (x y : Node) (h : nzs (a28 x) = nzs (a28 y)) : x = y := by
  simp only [nzs, a28, List.map_cons, List.map_nil, nzV_agg, nzV_int, nzV_bool, nzV_str, nzV_sl, nzL_sl, List.cons.injEq, AV.agg.injEq, AV.int.injEq, AV.bool.injEq, AV.str.injEq, true_and, and_true, or_true, Node.nz_iff] at h
  first | exact h | (obtain ⟨x1, x2⟩ := x; simp_all [Prod.ext_iff]) | simp_all [Prod.ext_iff]
theorem w28 (x : Node) : wks (a28 x) = true := by
  simp only [wks, a28, wkV, wkL, Node.wk, List.all_cons, List.all_nil, Bool.not_false, Bool.and_self, Bool.and_true]
theorem d28 (x : Node) : allData (a28 x) = true := by
  simp only [a28, push_cast]
def sh28 : Shp := .one (.leaf none)
noncomputable def t28 (N : Nat) : List AV → Option AV := TL a28 fun x => bindO (F28 N x) fun r => some (v28 r)
@[push_cast] theorem v28_eq (r : Int) : v28 r = .int .i64 r := rfl
noncomputable def ts28 (self28 : Node → Option (Int)) : List AV → Option AV := TL a28 fun x => bindO (self28 x) fun r => some (v28 r)
@[push_cast] theorem t28_1 (self28 : Node → Option (Int)) (z1 : Int) (z2 : Int) (z3 : ByteArray) (z4 : Int) (z5 : List Node) : ts28 self28 [.agg [.int .i64 z1, .int .i64 z2, .str z3, .int .i64 z4, .sl false 5 (List.map Node.cells z5)]] = bindO (self28 (⟨z1, z2, z3, z4, z5⟩ : Node)) fun r => some (v28 r) :=
  TL_hit i28 (⟨z1, z2, z3, z4, z5⟩ : Node) (by first | (simp only [a28, push_cast]; done) | (simp only [a28, push_cast]; rfl))
/-! ## 119: quantale/quantaleref01.plain -/
def H119 : Nat → Hint := fun _ => ⟨[], [], []⟩
def F119 (s : Int) : Option (Bool) :=
  iteO (s == 1)
  (some true)
  (iteO (s == 3)
    (some true)
    (iteO (s == 4)
      (some true)
      (some (s == 5))))
def a119 (x : Int) : List AV := [.int .i64 x]
def v119 (r : Bool) : AV := .bool r
theorem i119 (x y : Int) (h : nzs (a119 x) = nzs (a119 y)) : x = y := by
  simp only [nzs, a119, List.map_cons, List.map_nil, nzV_agg, nzV_int, nzV_bool, nzV_str, nzV_sl, nzL_sl, List.cons.injEq, AV.agg.injEq, AV.int.injEq, AV.bool.injEq, AV.str.injEq, true_and, and_true, or_true] at h
  first | exact h | (obtain ⟨x1, x2⟩ := x; simp_all [Prod.ext_iff]) | simp_all [Prod.ext_iff]
theorem w119 (x : Int) : wks (a119 x) = true := by
  simp only [wks, a119, wkV, wkL, List.all_cons, List.all_nil, Bool.not_false, Bool.and_self, Bool.and_true]
theorem d119 (x : Int) : allData (a119 x) = true := by
  simp only [a119, push_cast]
def sh119 : Shp := .one (.leaf none)
noncomputable def t119 : List AV → Option AV := TL a119 fun x => bindO (F119 x) fun r => some (v119 r)
@[push_cast] theorem v119_eq (r : Bool) : v119 r = .bool r := rfl
/-! ## 120: quantale/quantaleref01.Wants -/
def H120 : Nat → Hint := fun i => [⟨[], [], []⟩].getD (i - 0) ⟨[], [], []⟩
@[push_cast] theorem H120_0 : H120 0 = ⟨[], [], []⟩ := rfl
def F120 (op : Int) : Option ((List Int) × Bool) :=
  iteO (op == 1)
  (some ([], true))
  (iteO (op == 2)
    (some ([], true))
    (iteO (op == 9)
      (some ([], true))
      (iteO (op == 30)
        (some ([], true))
        (iteO (op == 31)
          (some ([], true))
          (iteO (op == 6)
            (some ([1], true))
            (iteO (op == 7)
              (some ([1], true))
              (iteO (op == 10)
                (some ([1], true))
                (iteO (op == 4)
                  (some ([1, 1], true))
                  (iteO (op == 5)
                    (some ([1, 1], true))
                    (iteO (op == 38)
                      (some ([1, 1], true))
                      (iteO (op == 39)
                        (some ([1, 1], true))
                        (iteO (op == 11)
                          (some ([4, 4], true))
                          (iteO (op == 12)
                            (some ([4, 4], true))
                            (iteO (op == 13)
                              (some ([4, 4], true))
                              (iteO (op == 41)
                                (some ([4, 4], true))
                                (iteO (op == 40)
                                  (some ([1, 4], true))
                                  (iteO (op == 14)
                                    (some ([5, 1], true))
                                    (iteO (op == 15)
                                      (some ([5, 1, 1], true))
                                      (iteO (op == 16)
                                        (some ([5], true))
                                        (iteO (op == 32)
                                          (some ([2], true))
                                          (iteO (op == 33)
                                            (some ([2, 2], true))
                                            (iteO (op == 34)
                                              (some ([2, 2], true))
                                              (iteO (op == 35)
                                                (some ([2, 2], true))
                                                (iteO (op == 36)
                                                  (some ([2, 2], true))
                                                  (some ([], false))))))))))))))))))))))))))
def a120 (x : Int) : List AV := [.int .i64 x]
def v120 (r : (List Int) × Bool) : AV := .tuple [.sl false 1 (List.map (cI .i64) r.1), .bool r.2]
theorem i120 (x y : Int) (h : nzs (a120 x) = nzs (a120 y)) : x = y := by
  simp only [nzs, a120, List.map_cons, List.map_nil, nzV_agg, nzV_int, nzV_bool, nzV_str, nzV_sl, nzL_sl, List.cons.injEq, AV.agg.injEq, AV.int.injEq, AV.bool.injEq, AV.str.injEq, true_and, and_true, or_true] at h
  first | exact h | (obtain ⟨x1, x2⟩ := x; simp_all [Prod.ext_iff]) | simp_all [Prod.ext_iff]
theorem w120 (x : Int) : wks (a120 x) = true := by
  simp only [wks, a120, wkV, wkL, List.all_cons, List.all_nil, Bool.not_false, Bool.and_self, Bool.and_true]
theorem d120 (x : Int) : allData (a120 x) = true := by
  simp only [a120, push_cast]
def sh120 : Shp := .tup [.leaf (some 1), .leaf none]
noncomputable def t120 : List AV → Option AV := TL a120 fun x => bindO (F120 x) fun r => some (v120 r)
@[push_cast] theorem v120_eq (r : (List Int) × Bool) : v120 r = .tuple [.sl false 1 (List.map (cI .i64) r.1), .bool r.2] := rfl
/-! ## 72: quantale/quantaleref01.Sorted -/
def H72 : Nat → Hint := fun i => [⟨[1, 13, 14, 15], [1], []⟩, ⟨[], [1, 13, 14, 15], []⟩, ⟨[], [1], []⟩, ⟨[1, 121, 122, 123], [], []⟩, ⟨[], [1, 121, 122, 123], []⟩].getD (i - 0) ⟨[], [], []⟩
@[push_cast] theorem H72_0 : H72 0 = ⟨[1, 13, 14, 15], [1], []⟩ := rfl
@[push_cast] theorem H72_1 : H72 1 = ⟨[], [1, 13, 14, 15], []⟩ := rfl
@[push_cast] theorem H72_2 : H72 2 = ⟨[], [1], []⟩ := rfl
@[push_cast] theorem H72_3 : H72 3 = ⟨[1, 121, 122, 123], [], []⟩ := rfl
@[push_cast] theorem H72_4 : H72 4 = ⟨[], [1, 121, 122, 123], []⟩ := rfl
def F72_s1 (self72 : Node → Option (Bool)) (s4 : Unit) (i2 : Nat) (x3 : Node) : Option (Sum (Unit) (Bool)) :=
  bindO (self72 x3) fun r5 =>
  iteO r5
  (some (.inl ()))
  (some (.inr false))
def F72_s2 (N : Nat) (n : Node) (s23 : Unit) (i21 : Nat) (x22 : Int) : Option (Sum (Unit) (Bool)) :=
  bindO (atO n.kids (i21 : Int)) fun x24 =>
  bindO (F28 N x24) fun r25 =>
  iteO (r25 == x22)
  (some (.inl ()))
  (some (.inr false))
def F72_f2  (s23 : Unit) : Option (Bool) :=
  some true
def F72_f1 (N : Nat) (n : Node) (s4 : Unit) : Option (Bool) :=
  iteO (n.op == 3)
  (some (decide ((n.kids.length : Int) ≤ 8)))
  (iteO (n.op == 42)
    (iteO (decide ((n.kids.length : Int) ≥ 1))
      (some (decide ((n.kids.length : Int) ≤ 40)))
      (some false))
    (iteO (n.op == 37)
      (iteO ((n.kids.length : Int) == 2)
        (bindO (atO n.kids 0) fun x6 =>
          bindO (F28 N x6) fun r7 =>
          bindO (atO n.kids 1) fun x8 =>
          bindO (F28 N x8) fun r9 =>
          iteO (r7 == r9)
          (bindO (F28 N x6) fun r10 =>
            bindO (F119 r10) fun r11 =>
            some r11)
          (some false))
        (some false))
      (iteO (n.op == 8)
        (iteO ((n.kids.length : Int) == 3)
          (bindO (atO n.kids 0) fun x12 =>
            bindO (F28 N x12) fun r13 =>
            iteO (r13 == 2)
            (bindO (atO n.kids 1) fun x14 =>
              bindO (F28 N x14) fun r15 =>
              bindO (atO n.kids 2) fun x16 =>
              bindO (F28 N x16) fun r17 =>
              iteO (r15 == r17)
              (bindO (F28 N x14) fun r18 =>
                bindO (F119 r18) fun r19 =>
                some r19)
              (some false))
            (some false))
          (some false))
        (bindO (F120 n.op) fun r20 =>
          iteO r20.2
          (iteO ((r20.1.length : Int) == (n.kids.length : Int))
            (foldN (S := Unit) (F72_s2 N n) (F72_f2) N r20.1 0 ())
            (some false))
          (some false)))))
def F72b (self72 : Node → Option (Bool)) (N : Nat) (n : Node) : Option (Bool) :=
  bindO (F118 N n) fun r1 =>
  iteO r1
  (foldN (S := Unit) (F72_s1 self72) (F72_f1 N n) N n.kids 0 ())
  (some false)
def F72 : Nat → Node → Option (Bool)
  | 0 => fun _ => none
  | N + 1 => fun n => F72b (F72 N) N n
def a72 (x : Node) : List AV := [.agg (Node.cells x)]
def v72 (r : Bool) : AV := .bool r
theorem i72 (x y : Node) (h : nzs (a72 x) = nzs (a72 y)) : x = y := by
  simp only [nzs, a72, List.map_cons, List.map_nil, nzV_agg, nzV_int, nzV_bool, nzV_str, nzV_sl, nzL_sl, List.cons.injEq, AV.agg.injEq, AV.int.injEq, AV.bool.injEq, AV.str.injEq, true_and, and_true, or_true, Node.nz_iff] at h
  first | exact h | (obtain ⟨x1, x2⟩ := x; simp_all [Prod.ext_iff]) | simp_all [Prod.ext_iff]
theorem w72 (x : Node) : wks (a72 x) = true := by
  simp only [wks, a72, wkV, wkL, Node.wk, List.all_cons, List.all_nil, Bool.not_false, Bool.and_self, Bool.and_true]
theorem d72 (x : Node) : allData (a72 x) = true := by
  simp only [a72, push_cast]
def sh72 : Shp := .one (.leaf none)
noncomputable def t72 (N : Nat) : List AV → Option AV := TL a72 fun x => bindO (F72 N x) fun r => some (v72 r)
@[push_cast] theorem v72_eq (r : Bool) : v72 r = .bool r := rfl
noncomputable def ts72 (self72 : Node → Option (Bool)) : List AV → Option AV := TL a72 fun x => bindO (self72 x) fun r => some (v72 r)
@[push_cast] theorem t118_1 {N : Nat} (z1 : Int) (z2 : Int) (z3 : ByteArray) (z4 : Int) (z5 : List Node) : t118 N [.agg [.int .i64 z1, .int .i64 z2, .str z3, .int .i64 z4, .sl false 5 (List.map Node.cells z5)]] = bindO (F118 N (⟨z1, z2, z3, z4, z5⟩ : Node)) fun r => some (v118 r) :=
  TL_hit i118 (⟨z1, z2, z3, z4, z5⟩ : Node) (by first | (simp only [a118, push_cast]; done) | (simp only [a118, push_cast]; rfl))
@[push_cast] theorem t72_1 (self72 : Node → Option (Bool)) (z1 : Int) (z2 : Int) (z3 : ByteArray) (z4 : Int) (z5 : List Node) : ts72 self72 [.agg [.int .i64 z1, .int .i64 z2, .str z3, .int .i64 z4, .sl false 5 (List.map Node.cells z5)]] = bindO (self72 (⟨z1, z2, z3, z4, z5⟩ : Node)) fun r => some (v72 r) :=
  TL_hit i72 (⟨z1, z2, z3, z4, z5⟩ : Node) (by first | (simp only [a72, push_cast]; done) | (simp only [a72, push_cast]; rfl))
@[push_cast] theorem t28_2 {N : Nat} (z1 : Int) (z2 : Int) (z3 : ByteArray) (z4 : Int) (z5 : List Node) : t28 N [.agg [.int .i64 z1, .int .i64 z2, .str z3, .int .i64 z4, .sl false 5 (List.map Node.cells z5)]] = bindO (F28 N (⟨z1, z2, z3, z4, z5⟩ : Node)) fun r => some (v28 r) :=
  TL_hit i28 (⟨z1, z2, z3, z4, z5⟩ : Node) (by first | (simp only [a28, push_cast]; done) | (simp only [a28, push_cast]; rfl))
@[push_cast] theorem t119_1 (z1 : Int) : t119 [.int .i64 z1] = bindO (F119 z1) fun r => some (v119 r) :=
  TL_hit i119 z1 (by first | (simp only [a119, push_cast]; done) | (simp only [a119, push_cast]; rfl))
@[push_cast] theorem t120_1 (z1 : Int) : t120 [.int .i64 z1] = bindO (F120 z1) fun r => some (v120 r) :=
  TL_hit i120 z1 (by first | (simp only [a120, push_cast]; done) | (simp only [a120, push_cast]; rfl))
/-! ## 168: quantale/quantaleref01.ahead -/
def H168 : Nat → Hint := fun _ => ⟨[], [], []⟩
def F168 (a : Decl) (b : Decl) : Option (Bool) :=
  iteO (Op.bytesLess a.declName.toList b.declName.toList)
  (some true)
  (iteO (a.declName.toList == b.declName.toList)
    (some (decide (a.declSort < b.declSort)))
    (some false))
def a168 (x : Decl × Decl) : List AV := [.agg (Decl.cells x.1), .agg (Decl.cells x.2)]
def v168 (r : Bool) : AV := .bool r
theorem i168 (x y : Decl × Decl) (h : nzs (a168 x) = nzs (a168 y)) : x = y := by
  simp only [nzs, a168, List.map_cons, List.map_nil, nzV_agg, nzV_int, nzV_bool, nzV_str, nzV_sl, nzL_sl, List.cons.injEq, AV.agg.injEq, AV.int.injEq, AV.bool.injEq, AV.str.injEq, true_and, and_true, or_true, Decl.nz_iff] at h
  first | exact h | (obtain ⟨x1, x2⟩ := x; simp_all [Prod.ext_iff]) | simp_all [Prod.ext_iff]
theorem w168 (x : Decl × Decl) : wks (a168 x) = true := by
  simp only [wks, a168, wkV, wkL, Decl.wk, List.all_cons, List.all_nil, Bool.not_false, Bool.and_self, Bool.and_true]
theorem d168 (x : Decl × Decl) : allData (a168 x) = true := by
  simp only [a168, push_cast]
def sh168 : Shp := .one (.leaf none)
noncomputable def t168 : List AV → Option AV := TL a168 fun x => bindO (F168 x.1 x.2) fun r => some (v168 r)
@[push_cast] theorem v168_eq (r : Bool) : v168 r = .bool r := rfl
/-! ## 140: quantale/quantaleref01.putDecl -/
def H140 : Nat → Hint := fun i => [⟨[3, 5, 6, 9, 10, 11], [3, 5, 6], []⟩, ⟨[], [3, 5, 6, 9, 10, 11], []⟩].getD (i - 0) ⟨[], [], []⟩
@[push_cast] theorem H140_0 : H140 0 = ⟨[3, 5, 6, 9, 10, 11], [3, 5, 6], []⟩ := rfl
@[push_cast] theorem H140_1 : H140 1 = ⟨[], [3, 5, 6, 9, 10, 11], []⟩ := rfl
def F140_s1 (d : Decl) (s3 : (List Decl) × Bool) (i1 : Nat) (x2 : Decl) : Option (Sum ((List Decl) × Bool) (List Decl)) :=
  iteO ((x2.declName.toList == d.declName.toList) && (x2.declSort == d.declSort))
  (iteO (fits (s3.1.length + 1) 24)
    (some (.inl (s3.1 ++ ([x2]), true)))
    (none))
  (iteO s3.2
    (iteO (fits (s3.1.length + 1) 24)
      (some (.inl (s3.1 ++ ([x2]), s3.2)))
      (none))
    (bindO (F168 d x2) fun r4 =>
      iteO r4
      (iteO (fits (s3.1.length + 1) 24)
        (iteO (fits (s3.1.length + 1 + 1) 24)
          (some (.inl ((s3.1 ++ ([d])) ++ ([x2]), true)))
          (none))
        (none))
      (iteO (fits (s3.1.length + 1) 24)
        (some (.inl (s3.1 ++ ([x2]), s3.2)))
        (none))))
def F140_f1 (d : Decl) (s3 : (List Decl) × Bool) : Option (List Decl) :=
  iteO s3.2
  (some s3.1)
  (iteO (fits (s3.1.length + 1) 24)
    (some (s3.1 ++ ([d])))
    (none))
def F140 (N : Nat) (l : List Decl) (d : Decl) : Option (List Decl) :=
  foldN (S := (List Decl) × Bool) (F140_s1 d) (F140_f1 d) N l 0 ([], false)
def a140 (x : (List Decl) × Decl) : List AV := [.sl false 2 (List.map Decl.cells x.1), .agg (Decl.cells x.2)]
def v140 (r : List Decl) : AV := .sl false 2 (List.map Decl.cells r)
theorem i140 (x y : (List Decl) × Decl) (h : nzs (a140 x) = nzs (a140 y)) : x = y := by
  simp only [nzs, a140, List.map_cons, List.map_nil, nzV_agg, nzV_int, nzV_bool, nzV_str, nzV_sl, nzL_sl, List.cons.injEq, AV.agg.injEq, AV.int.injEq, AV.bool.injEq, AV.str.injEq, true_and, and_true, or_true, Decl.nz_iff, map_inj_iff Decl.cells_inj] at h
  first | exact h | (obtain ⟨x1, x2⟩ := x; simp_all [Prod.ext_iff]) | simp_all [Prod.ext_iff]
theorem w140 (x : (List Decl) × Decl) : wks (a140 x) = true := by
  simp only [wks, a140, wkV, wkL, Decl.wk, List.all_cons, List.all_nil, Bool.not_false, Bool.and_self, Bool.and_true]
theorem d140 (x : (List Decl) × Decl) : allData (a140 x) = true := by
  simp only [a140, push_cast]
def sh140 : Shp := .one (.leaf (some 2))
noncomputable def t140 (N : Nat) : List AV → Option AV := TL a140 fun x => bindO (F140 N x.1 x.2) fun r => some (v140 r)
@[push_cast] theorem v140_eq (r : List Decl) : v140 r = .sl false 2 (List.map Decl.cells r) := rfl
@[push_cast] theorem t168_1 (z1 : ByteArray) (z2 : Int) (z3 : ByteArray) (z4 : Int) : t168 [.agg [.str z1, .int .i64 z2], .agg [.str z3, .int .i64 z4]] = bindO (F168 (⟨z1, z2⟩ : Decl) (⟨z3, z4⟩ : Decl)) fun r => some (v168 r) :=
  TL_hit i168 ((⟨z1, z2⟩ : Decl), (⟨z3, z4⟩ : Decl)) (by first | (simp only [a168, push_cast]; done) | (simp only [a168, push_cast]; rfl))
/-! ## 95: quantale/quantaleref01.gather -/
def H95 : Nat → Hint := fun i => [⟨[0, 18, 19, 20], [0], []⟩, ⟨[], [0, 18, 19, 20], []⟩].getD (i - 0) ⟨[], [], []⟩
@[push_cast] theorem H95_0 : H95 0 = ⟨[0, 18, 19, 20], [0], []⟩ := rfl
@[push_cast] theorem H95_1 : H95 1 = ⟨[], [0, 18, 19, 20], []⟩ := rfl
def F95_s1 (self95 : (List Decl) → Node → Option (List Decl)) (s4 : List Decl) (i2 : Nat) (x3 : Node) : Option (Sum (List Decl) (List Decl)) :=
  bindO (self95 s4 x3) fun r5 =>
  some (.inl r5)
def F95_f1  (s4 : List Decl) : Option (List Decl) :=
  some s4
def F95_s2 (self95 : (List Decl) → Node → Option (List Decl)) (s8 : List Decl) (i6 : Nat) (x7 : Node) : Option (Sum (List Decl) (List Decl)) :=
  bindO (self95 s8 x7) fun r9 =>
  some (.inl r9)
def F95_f2  (s8 : List Decl) : Option (List Decl) :=
  some s8
def F95b (self95 : (List Decl) → Node → Option (List Decl)) (N : Nat) (l : List Decl) (n : Node) : Option (List Decl) :=
  iteO (n.op == 1)
  (bindO (F140 N l (⟨n.name, n.sortf⟩ : Decl)) fun r1 =>
    foldN (S := List Decl) (F95_s1 self95) (F95_f1) N n.kids 0 r1)
  (foldN (S := List Decl) (F95_s2 self95) (F95_f2) N n.kids 0 l)
def F95 : Nat → (List Decl) → Node → Option (List Decl)
  | 0 => fun _ _ => none
  | N + 1 => fun l n => F95b (F95 N) N l n
def a95 (x : (List Decl) × Node) : List AV := [.sl false 2 (List.map Decl.cells x.1), .agg (Node.cells x.2)]
def v95 (r : List Decl) : AV := .sl false 2 (List.map Decl.cells r)
theorem i95 (x y : (List Decl) × Node) (h : nzs (a95 x) = nzs (a95 y)) : x = y := by
  simp only [nzs, a95, List.map_cons, List.map_nil, nzV_agg, nzV_int, nzV_bool, nzV_str, nzV_sl, nzL_sl, List.cons.injEq, AV.agg.injEq, AV.int.injEq, AV.bool.injEq, AV.str.injEq, true_and, and_true, or_true, Node.nz_iff, map_inj_iff Decl.cells_inj] at h
  first | exact h | (obtain ⟨x1, x2⟩ := x; simp_all [Prod.ext_iff]) | simp_all [Prod.ext_iff]
theorem w95 (x : (List Decl) × Node) : wks (a95 x) = true := by
  simp only [wks, a95, wkV, wkL, Node.wk, List.all_cons, List.all_nil, Bool.not_false, Bool.and_self, Bool.and_true]
theorem d95 (x : (List Decl) × Node) : allData (a95 x) = true := by
  simp only [a95, push_cast]
def sh95 : Shp := .one (.leaf (some 2))
noncomputable def t95 (N : Nat) : List AV → Option AV := TL a95 fun x => bindO (F95 N x.1 x.2) fun r => some (v95 r)
@[push_cast] theorem v95_eq (r : List Decl) : v95 r = .sl false 2 (List.map Decl.cells r) := rfl
noncomputable def ts95 (self95 : (List Decl) → Node → Option (List Decl)) : List AV → Option AV := TL a95 fun x => bindO (self95 x.1 x.2) fun r => some (v95 r)
@[push_cast] theorem t140_1 {N : Nat} (z1 : List Decl) (z2 : ByteArray) (z3 : Int) : t140 N [.sl false 2 (List.map Decl.cells z1), .agg [.str z2, .int .i64 z3]] = bindO (F140 N z1 (⟨z2, z3⟩ : Decl)) fun r => some (v140 r) :=
  TL_hit i140 (z1, (⟨z2, z3⟩ : Decl)) (by first | (simp only [a140, push_cast]; done) | (simp only [a140, push_cast]; rfl))
@[push_cast] theorem t95_1 (self95 : (List Decl) → Node → Option (List Decl)) (z1 : List Decl) (z2 : Int) (z3 : Int) (z4 : ByteArray) (z5 : Int) (z6 : List Node) : ts95 self95 [.sl false 2 (List.map Decl.cells z1), .agg [.int .i64 z2, .int .i64 z3, .str z4, .int .i64 z5, .sl false 5 (List.map Node.cells z6)]] = bindO (self95 z1 (⟨z2, z3, z4, z5, z6⟩ : Node)) fun r => some (v95 r) :=
  TL_hit i95 (z1, (⟨z2, z3, z4, z5, z6⟩ : Node)) (by first | (simp only [a95, push_cast]; done) | (simp only [a95, push_cast]; rfl))
/-! ## 47: quantale/quantaleref01.Vars -/
def H47 : Nat → Hint := fun _ => ⟨[], [], []⟩
def F47 (N : Nat) (n : Node) : Option (List Decl) :=
  bindO (F95 N ([]) n) fun r1 =>
  some r1
def a47 (x : Node) : List AV := [.agg (Node.cells x)]
def v47 (r : List Decl) : AV := .sl false 2 (List.map Decl.cells r)
theorem i47 (x y : Node) (h : nzs (a47 x) = nzs (a47 y)) : x = y := by
  simp only [nzs, a47, List.map_cons, List.map_nil, nzV_agg, nzV_int, nzV_bool, nzV_str, nzV_sl, nzL_sl, List.cons.injEq, AV.agg.injEq, AV.int.injEq, AV.bool.injEq, AV.str.injEq, true_and, and_true, or_true, Node.nz_iff] at h
  first | exact h | (obtain ⟨x1, x2⟩ := x; simp_all [Prod.ext_iff]) | simp_all [Prod.ext_iff]
theorem w47 (x : Node) : wks (a47 x) = true := by
  simp only [wks, a47, wkV, wkL, Node.wk, List.all_cons, List.all_nil, Bool.not_false, Bool.and_self, Bool.and_true]
theorem d47 (x : Node) : allData (a47 x) = true := by
  simp only [a47, push_cast]
def sh47 : Shp := .one (.leaf (some 2))
noncomputable def t47 (N : Nat) : List AV → Option AV := TL a47 fun x => bindO (F47 N x) fun r => some (v47 r)
@[push_cast] theorem v47_eq (r : List Decl) : v47 r = .sl false 2 (List.map Decl.cells r) := rfl
@[push_cast] theorem t95_2 {N : Nat} (z2 : Int) (z3 : Int) (z4 : ByteArray) (z5 : Int) (z6 : List Node) : t95 N [.sl true 0 [], .agg [.int .i64 z2, .int .i64 z3, .str z4, .int .i64 z5, .sl false 5 (List.map Node.cells z6)]] = bindO (F95 N ([]) (⟨z2, z3, z4, z5, z6⟩ : Node)) fun r => some (v95 r) :=
  TL_hit i95 ([], (⟨z2, z3, z4, z5, z6⟩ : Node)) (by first | (simp only [a95, push_cast]; done) | (simp only [a95, push_cast]; rfl))
@[push_cast] theorem t95_3 {N : Nat} (z2 : Int) (z3 : Int) (z4 : ByteArray) (z5 : Int) (z6 : List Node) : t95 N [.sl false 0 [], .agg [.int .i64 z2, .int .i64 z3, .str z4, .int .i64 z5, .sl false 5 (List.map Node.cells z6)]] = bindO (F95 N ([]) (⟨z2, z3, z4, z5, z6⟩ : Node)) fun r => some (v95 r) :=
  TL_hit i95 ([], (⟨z2, z3, z4, z5, z6⟩ : Node)) (by first | (simp only [a95, push_cast]; done) | (simp only [a95, push_cast]; rfl))
/-! ## 92: quantale/quantaleref01.constant -/
def H92 : Nat → Hint := fun i => [⟨[1, 23, 24, 25], [], []⟩, ⟨[], [1, 23, 24, 25], []⟩].getD (i - 0) ⟨[], [], []⟩
@[push_cast] theorem H92_0 : H92 0 = ⟨[1, 23, 24, 25], [], []⟩ := rfl
@[push_cast] theorem H92_1 : H92 1 = ⟨[], [1, 23, 24, 25], []⟩ := rfl
def F92_s1 (self92 : Node → ByteArray → Option (Bool)) (name : ByteArray) (s3 : Unit) (i1 : Nat) (x2 : Node) : Option (Sum (Unit) (Bool)) :=
  bindO (self92 x2 name) fun r4 =>
  iteO r4
  (some (.inr true))
  (some (.inl ()))
def F92_f1  (s3 : Unit) : Option (Bool) :=
  some false
def F92_s2 (self92 : Node → ByteArray → Option (Bool)) (name : ByteArray) (s7 : Unit) (i5 : Nat) (x6 : Node) : Option (Sum (Unit) (Bool)) :=
  bindO (self92 x6 name) fun r8 =>
  iteO r8
  (some (.inr true))
  (some (.inl ()))
def F92_f2  (s7 : Unit) : Option (Bool) :=
  some false
def F92_s3 (self92 : Node → ByteArray → Option (Bool)) (name : ByteArray) (s11 : Unit) (i9 : Nat) (x10 : Node) : Option (Sum (Unit) (Bool)) :=
  bindO (self92 x10 name) fun r12 =>
  iteO r12
  (some (.inr true))
  (some (.inl ()))
def F92_f3  (s11 : Unit) : Option (Bool) :=
  some false
def F92b (self92 : Node → ByteArray → Option (Bool)) (N : Nat) (n : Node) (name : ByteArray) : Option (Bool) :=
  iteO (n.op == 3)
  (iteO (n.name.toList == name.toList)
    (iteO ((n.kids.length : Int) == 0)
      (some true)
      (foldN (S := Unit) (F92_s1 self92 name) (F92_f1) N n.kids 0 ()))
    (foldN (S := Unit) (F92_s2 self92 name) (F92_f2) N n.kids 0 ()))
  (foldN (S := Unit) (F92_s3 self92 name) (F92_f3) N n.kids 0 ())
def F92 : Nat → Node → ByteArray → Option (Bool)
  | 0 => fun _ _ => none
  | N + 1 => fun n name => F92b (F92 N) N n name
def a92 (x : Node × ByteArray) : List AV := [.agg (Node.cells x.1), .str x.2]
def v92 (r : Bool) : AV := .bool r
theorem i92 (x y : Node × ByteArray) (h : nzs (a92 x) = nzs (a92 y)) : x = y := by
  simp only [nzs, a92, List.map_cons, List.map_nil, nzV_agg, nzV_int, nzV_bool, nzV_str, nzV_sl, nzL_sl, List.cons.injEq, AV.agg.injEq, AV.int.injEq, AV.bool.injEq, AV.str.injEq, true_and, and_true, or_true, Node.nz_iff] at h
  first | exact h | (obtain ⟨x1, x2⟩ := x; simp_all [Prod.ext_iff]) | simp_all [Prod.ext_iff]
theorem w92 (x : Node × ByteArray) : wks (a92 x) = true := by
  simp only [wks, a92, wkV, wkL, Node.wk, List.all_cons, List.all_nil, Bool.not_false, Bool.and_self, Bool.and_true]
theorem d92 (x : Node × ByteArray) : allData (a92 x) = true := by
  simp only [a92, push_cast]
def sh92 : Shp := .one (.leaf none)
noncomputable def t92 (N : Nat) : List AV → Option AV := TL a92 fun x => bindO (F92 N x.1 x.2) fun r => some (v92 r)
@[push_cast] theorem v92_eq (r : Bool) : v92 r = .bool r := rfl
noncomputable def ts92 (self92 : Node → ByteArray → Option (Bool)) : List AV → Option AV := TL a92 fun x => bindO (self92 x.1 x.2) fun r => some (v92 r)
@[push_cast] theorem t92_1 (self92 : Node → ByteArray → Option (Bool)) (z1 : Int) (z2 : Int) (z3 : ByteArray) (z4 : Int) (z5 : List Node) (z6 : ByteArray) : ts92 self92 [.agg [.int .i64 z1, .int .i64 z2, .str z3, .int .i64 z4, .sl false 5 (List.map Node.cells z5)], .str z6] = bindO (self92 (⟨z1, z2, z3, z4, z5⟩ : Node) z6) fun r => some (v92 r) :=
  TL_hit i92 ((⟨z1, z2, z3, z4, z5⟩ : Node), z6) (by first | (simp only [a92, push_cast]; done) | (simp only [a92, push_cast]; rfl))
/-! ## 41: quantale/quantaleref01.Uniform -/
def H41 : Nat → Hint := fun i => [⟨[1, 3, 4], [1, 3], []⟩, ⟨[], [1, 3, 4], []⟩, ⟨[1, 27, 28, 29], [], []⟩, ⟨[], [1, 27, 28, 29], []⟩].getD (i - 0) ⟨[], [], []⟩
@[push_cast] theorem H41_0 : H41 0 = ⟨[1, 3, 4], [1, 3], []⟩ := rfl
@[push_cast] theorem H41_1 : H41 1 = ⟨[], [1, 3, 4], []⟩ := rfl
@[push_cast] theorem H41_2 : H41 2 = ⟨[1, 27, 28, 29], [], []⟩ := rfl
@[push_cast] theorem H41_3 : H41 3 = ⟨[], [1, 27, 28, 29], []⟩ := rfl
def F41_s2 (N : Nat) (n : Node) (s7 : Unit) (i5 : Nat) (x6 : Decl) : Option (Sum (Unit) (Bool)) :=
  bindO (F92 N n x6.declName) fun r8 =>
  iteO r8
  (some (.inr false))
  (some (.inl ()))
def F41_f2  (s7 : Unit) : Option (Bool) :=
  some true
def F41_s1 (N : Nat) (n : Node) (r1 : List Decl) (s2 : Int) : Option (Sum (Int) (Bool)) :=
  iteO (decide (s2 < (r1.length : Int)))
  (bindO (atO r1 (IntKind.i64.wrap (s2 - 1))) fun x3 =>
    bindO (atO r1 s2) fun x4 =>
    iteO (x3.declName.toList == x4.declName.toList)
    (some (.inr false))
    (some (.inl (IntKind.i64.wrap (s2 + 1)))))
  (bindO (foldN (S := Unit) (F41_s2 N n) (F41_f2) N r1 0 ()) fun yy => some (.inr yy))
def F41 (N : Nat) (n : Node) : Option (Bool) :=
  bindO (F47 N n) fun r1 =>
  whileN (S := Int) (F41_s1 N n r1) N 1
def a41 (x : Node) : List AV := [.agg (Node.cells x)]
def v41 (r : Bool) : AV := .bool r
theorem i41 (x y : Node) (h : nzs (a41 x) = nzs (a41 y)) : x = y := by
  simp only [nzs, a41, List.map_cons, List.map_nil, nzV_agg, nzV_int, nzV_bool, nzV_str, nzV_sl, nzL_sl, List.cons.injEq, AV.agg.injEq, AV.int.injEq, AV.bool.injEq, AV.str.injEq, true_and, and_true, or_true, Node.nz_iff] at h
  first | exact h | (obtain ⟨x1, x2⟩ := x; simp_all [Prod.ext_iff]) | simp_all [Prod.ext_iff]
theorem w41 (x : Node) : wks (a41 x) = true := by
  simp only [wks, a41, wkV, wkL, Node.wk, List.all_cons, List.all_nil, Bool.not_false, Bool.and_self, Bool.and_true]
theorem d41 (x : Node) : allData (a41 x) = true := by
  simp only [a41, push_cast]
def sh41 : Shp := .one (.leaf none)
noncomputable def t41 (N : Nat) : List AV → Option AV := TL a41 fun x => bindO (F41 N x) fun r => some (v41 r)
@[push_cast] theorem v41_eq (r : Bool) : v41 r = .bool r := rfl
@[push_cast] theorem t47_1 {N : Nat} (z1 : Int) (z2 : Int) (z3 : ByteArray) (z4 : Int) (z5 : List Node) : t47 N [.agg [.int .i64 z1, .int .i64 z2, .str z3, .int .i64 z4, .sl false 5 (List.map Node.cells z5)]] = bindO (F47 N (⟨z1, z2, z3, z4, z5⟩ : Node)) fun r => some (v47 r) :=
  TL_hit i47 (⟨z1, z2, z3, z4, z5⟩ : Node) (by first | (simp only [a47, push_cast]; done) | (simp only [a47, push_cast]; rfl))
@[push_cast] theorem t92_2 {N : Nat} (z1 : Int) (z2 : Int) (z3 : ByteArray) (z4 : Int) (z5 : List Node) (z6 : ByteArray) : t92 N [.agg [.int .i64 z1, .int .i64 z2, .str z3, .int .i64 z4, .sl false 5 (List.map Node.cells z5)], .str z6] = bindO (F92 N (⟨z1, z2, z3, z4, z5⟩ : Node) z6) fun r => some (v92 r) :=
  TL_hit i92 ((⟨z1, z2, z3, z4, z5⟩ : Node), z6) (by first | (simp only [a92, push_cast]; done) | (simp only [a92, push_cast]; rfl))
/-! ## 15: quantale/quantaleref01.Check -/
def H15 : Nat → Hint := fun i => [⟨[], [], []⟩].getD (i - 0) ⟨[], [], []⟩
@[push_cast] theorem H15_0 : H15 0 = ⟨[], [], []⟩ := rfl
def F15 (N : Nat) (n : Node) (sortq : Int) : Option (Int) :=
  iteO (decide (sortq < 0))
  (some 1)
  (iteO (decide (sortq > 5))
    (some 1)
    (bindO (F27 N n) fun r1 =>
      iteO (decide (r1 > 4000))
      (some 2)
      (bindO (F39 N n) fun r2 =>
        iteO (decide (r2 > 100))
        (some 2)
        (bindO (F72 N n) fun r3 =>
          iteO r3
          (bindO (F41 N n) fun r4 =>
            iteO r4
            (iteO (sortq == 0)
              (some 0)
              (bindO (F28 N n) fun r5 =>
                iteO (r5 == sortq)
                (some 0)
                (some 10)))
            (some 3))
          (some 3)))))
def a15 (x : Node × Int) : List AV := [.agg (Node.cells x.1), .int .i64 x.2]
def v15 (r : Int) : AV := .int .i64 r
theorem i15 (x y : Node × Int) (h : nzs (a15 x) = nzs (a15 y)) : x = y := by
  simp only [nzs, a15, List.map_cons, List.map_nil, nzV_agg, nzV_int, nzV_bool, nzV_str, nzV_sl, nzL_sl, List.cons.injEq, AV.agg.injEq, AV.int.injEq, AV.bool.injEq, AV.str.injEq, true_and, and_true, or_true, Node.nz_iff] at h
  first | exact h | (obtain ⟨x1, x2⟩ := x; simp_all [Prod.ext_iff]) | simp_all [Prod.ext_iff]
theorem w15 (x : Node × Int) : wks (a15 x) = true := by
  simp only [wks, a15, wkV, wkL, Node.wk, List.all_cons, List.all_nil, Bool.not_false, Bool.and_self, Bool.and_true]
theorem d15 (x : Node × Int) : allData (a15 x) = true := by
  simp only [a15, push_cast]
def sh15 : Shp := .one (.leaf none)
noncomputable def t15 (N : Nat) : List AV → Option AV := TL a15 fun x => bindO (F15 N x.1 x.2) fun r => some (v15 r)
@[push_cast] theorem v15_eq (r : Int) : v15 r = .int .i64 r := rfl
@[push_cast] theorem t39_2 {N : Nat} (z1 : Int) (z2 : Int) (z3 : ByteArray) (z4 : Int) (z5 : List Node) : t39 N [.agg [.int .i64 z1, .int .i64 z2, .str z3, .int .i64 z4, .sl false 5 (List.map Node.cells z5)]] = bindO (F39 N (⟨z1, z2, z3, z4, z5⟩ : Node)) fun r => some (v39 r) :=
  TL_hit i39 (⟨z1, z2, z3, z4, z5⟩ : Node) (by first | (simp only [a39, push_cast]; done) | (simp only [a39, push_cast]; rfl))
@[push_cast] theorem t72_2 {N : Nat} (z1 : Int) (z2 : Int) (z3 : ByteArray) (z4 : Int) (z5 : List Node) : t72 N [.agg [.int .i64 z1, .int .i64 z2, .str z3, .int .i64 z4, .sl false 5 (List.map Node.cells z5)]] = bindO (F72 N (⟨z1, z2, z3, z4, z5⟩ : Node)) fun r => some (v72 r) :=
  TL_hit i72 (⟨z1, z2, z3, z4, z5⟩ : Node) (by first | (simp only [a72, push_cast]; done) | (simp only [a72, push_cast]; rfl))
@[push_cast] theorem t41_1 {N : Nat} (z1 : Int) (z2 : Int) (z3 : ByteArray) (z4 : Int) (z5 : List Node) : t41 N [.agg [.int .i64 z1, .int .i64 z2, .str z3, .int .i64 z4, .sl false 5 (List.map Node.cells z5)]] = bindO (F41 N (⟨z1, z2, z3, z4, z5⟩ : Node)) fun r => some (v41 r) :=
  TL_hit i41 (⟨z1, z2, z3, z4, z5⟩ : Node) (by first | (simp only [a41, push_cast]; done) | (simp only [a41, push_cast]; rfl))
/-! ## 3: quantale/quantalelaw01.LogicChecks -/
def H3 : Nat → Hint := fun _ => ⟨[], [], []⟩
def F3 (N : Nat) (n : Node) (sortq : Int) (s : ByteArray) : Option (Bool) :=
  bindO (F12 N) fun r1 =>
  iteO r1
  (bindO (F13 N 6000 ([n])) fun r2 =>
    iteO r2
    (bindO (F14 N n sortq) fun r3 =>
      bindO (F15 N n sortq) fun r4 =>
      iteO (r3 == r4)
      (bindO (F16 N s) fun r5 =>
        bindO (F17 N s) fun r6 =>
        some (r5 == r6))
      (some false))
    (some true))
  (some false)
def a3 (x : Node × Int × ByteArray) : List AV := [.agg (Node.cells x.1), .int .i64 x.2.1, .str x.2.2]
def v3 (r : Bool) : AV := .bool r
theorem i3 (x y : Node × Int × ByteArray) (h : nzs (a3 x) = nzs (a3 y)) : x = y := by
  simp only [nzs, a3, List.map_cons, List.map_nil, nzV_agg, nzV_int, nzV_bool, nzV_str, nzV_sl, nzL_sl, List.cons.injEq, AV.agg.injEq, AV.int.injEq, AV.bool.injEq, AV.str.injEq, true_and, and_true, or_true, Node.nz_iff] at h
  first | exact h | (obtain ⟨x1, x2⟩ := x; simp_all [Prod.ext_iff]) | simp_all [Prod.ext_iff]
theorem w3 (x : Node × Int × ByteArray) : wks (a3 x) = true := by
  simp only [wks, a3, wkV, wkL, Node.wk, List.all_cons, List.all_nil, Bool.not_false, Bool.and_self, Bool.and_true]
theorem d3 (x : Node × Int × ByteArray) : allData (a3 x) = true := by
  simp only [a3, push_cast]
def sh3 : Shp := .one (.leaf none)
noncomputable def t3 (N : Nat) : List AV → Option AV := TL a3 fun x => bindO (F3 N x.1 x.2.1 x.2.2) fun r => some (v3 r)
@[push_cast] theorem v3_eq (r : Bool) : v3 r = .bool r := rfl
@[push_cast] theorem t12_1 {N : Nat}  : t12 N [] = bindO (F12 N) fun r => some (v12 r) :=
  TL_hit i12 () (by first | (simp only [a12, push_cast]; done) | (simp only [a12, push_cast]; rfl))
@[push_cast] theorem t13_1 {N : Nat} (z1 : Int) (z3 : Int) (z4 : Int) (z5 : ByteArray) (z6 : Int) (z7 : List Node) : t13 N [.int .i64 z1, .sl true 5 [[.int .i64 z3, .int .i64 z4, .str z5, .int .i64 z6, .sl false 5 (List.map Node.cells z7)]]] = bindO (F13 N z1 ([(⟨z3, z4, z5, z6, z7⟩ : Node)])) fun r => some (v13 r) :=
  TL_hit i13 (z1, [(⟨z3, z4, z5, z6, z7⟩ : Node)]) (by first | (simp only [a13, push_cast]; done) | (simp only [a13, push_cast]; rfl))
@[push_cast] theorem t13_2 {N : Nat} (z1 : Int) (z3 : Int) (z4 : Int) (z5 : ByteArray) (z6 : Int) (z7 : List Node) : t13 N [.int .i64 z1, .sl false 5 [[.int .i64 z3, .int .i64 z4, .str z5, .int .i64 z6, .sl false 5 (List.map Node.cells z7)]]] = bindO (F13 N z1 ([(⟨z3, z4, z5, z6, z7⟩ : Node)])) fun r => some (v13 r) :=
  TL_hit i13 (z1, [(⟨z3, z4, z5, z6, z7⟩ : Node)]) (by first | (simp only [a13, push_cast]; done) | (simp only [a13, push_cast]; rfl))
@[push_cast] theorem t14_3 {N : Nat} (z1 : Int) (z2 : Int) (z3 : ByteArray) (z4 : Int) (z5 : List Node) (z6 : Int) : t14 N [.agg [.int .i64 z1, .int .i64 z2, .str z3, .int .i64 z4, .sl false 5 (List.map Node.cells z5)], .int .i64 z6] = bindO (F14 N (⟨z1, z2, z3, z4, z5⟩ : Node) z6) fun r => some (v14 r) :=
  TL_hit i14 ((⟨z1, z2, z3, z4, z5⟩ : Node), z6) (by first | (simp only [a14, push_cast]; done) | (simp only [a14, push_cast]; rfl))
@[push_cast] theorem t15_1 {N : Nat} (z1 : Int) (z2 : Int) (z3 : ByteArray) (z4 : Int) (z5 : List Node) (z6 : Int) : t15 N [.agg [.int .i64 z1, .int .i64 z2, .str z3, .int .i64 z4, .sl false 5 (List.map Node.cells z5)], .int .i64 z6] = bindO (F15 N (⟨z1, z2, z3, z4, z5⟩ : Node) z6) fun r => some (v15 r) :=
  TL_hit i15 ((⟨z1, z2, z3, z4, z5⟩ : Node), z6) (by first | (simp only [a15, push_cast]; done) | (simp only [a15, push_cast]; rfl))
end Go.Abs.Try
