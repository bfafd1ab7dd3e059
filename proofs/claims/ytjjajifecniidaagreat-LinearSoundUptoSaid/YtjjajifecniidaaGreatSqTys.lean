import Derived.Test.YtjjajifecniidaaGreatAbs24ztoAbs2
import Derived.Test.YtjjajifecniidaaGreatProg
set_option linter.unusedSimpArgs false
set_option linter.unusedVariables false
namespace Go.Abs.Try
set_option maxRecDepth 100000
def tyList : List (Option TInfo) := [
 none,
 some ⟨1, 8, [.nilfn], .other⟩,
 some ⟨1, 8, [.int .i64 0], .int .i64⟩,
 some ⟨1, 8, [.int .i64 0], .int .i64⟩,
 some ⟨1, 1, [.bool false], .bool⟩,
 some ⟨1, 1, [.int .u8 0], .int .u8⟩,
 some ⟨1, 1, [.int .u8 0], .int .u8⟩,
 some ⟨4, 24, [.int .i64 0, .int .i64 0, .bool false, .int .u8 0], .struct [(2, 0), (3, 1), (4, 2), (6, 3)]⟩,
 some ⟨4, 24, [.int .i64 0, .int .i64 0, .bool false, .int .u8 0], .struct [(2, 0), (3, 1), (4, 2), (6, 3)]⟩,
 some ⟨1, 16, [.str ⟨#[]⟩], .string⟩,
 some ⟨1, 16, [.str ⟨#[]⟩], .string⟩,
 some ⟨1, 16, [.str ⟨#[]⟩], .string⟩,
 some ⟨1, 8, [.int .u64 0], .int .u64⟩,
 some ⟨2, 24, [.str ⟨#[]⟩, .int .u64 0], .struct [(9, 0), (12, 1)]⟩,
 some ⟨2, 24, [.str ⟨#[]⟩, .int .u64 0], .struct [(9, 0), (12, 1)]⟩,
 some ⟨1, 8, [.nilp], .other⟩,
 some ⟨1, 8, [.nilp], .other⟩,
 some ⟨1, 8, [.nilp], .other⟩,
 some ⟨1, 8, [.nilp], .struct [(17, 0)]⟩,
 some ⟨1, 8, [.nilp], .struct [(17, 0)]⟩,
 some ⟨1, 16, [.nilif], .other⟩,
 some ⟨1, 4, [.int .i32 0], .int .i32⟩,
 some ⟨1, 24, [.sl true 3 []], .slice 32⟩,
 some ⟨1, 24, [.sl true 2 []], .slice 79⟩,
 some ⟨1, 8, [.nilfn], .other⟩,
 some ⟨1, 8, [.nilfn], .other⟩,
 some ⟨1, 24, [.sl true 2 []], .slice 30⟩,
 some ⟨1, 8, [.nilfn], .other⟩,
 some ⟨1, 24, [.sl true 6 []], .slice 54⟩,
 some ⟨2, 32, [.sl true 6 [], .int .i64 0], .struct [(28, 0), (2, 1)]⟩,
 some ⟨2, 32, [.sl true 6 [], .int .i64 0], .struct [(28, 0), (2, 1)]⟩,
 some ⟨3, 40, [.sl true 6 [], .int .i64 0, .int .i64 0], .struct [(30, 0), (3, 2)]⟩,
 some ⟨3, 40, [.sl true 6 [], .int .i64 0, .int .i64 0], .struct [(30, 0), (3, 2)]⟩,
 some ⟨1, 8, [.int .i64 0], .int .i64⟩,
 none,
 some ⟨1, 8, [.nilfn], .other⟩,
 some ⟨1, 8, [.nilfn], .other⟩,
 some ⟨1, 8, [.nilfn], .other⟩,
 some ⟨1, 24, [.sl true 1 []], .slice 23⟩,
 some ⟨1, 24, [.sl true 5 []], .slice 41⟩,
 some ⟨5, 88, [.sl true 1 [], .bool false, .sl true 6 [], .int .i64 0, .sl true 5 []], .struct [(38, 0), (4, 1), (30, 2), (39, 4)]⟩,
 some ⟨5, 88, [.sl true 1 [], .bool false, .sl true 6 [], .int .i64 0, .sl true 5 []], .struct [(38, 0), (4, 1), (30, 2), (39, 4)]⟩,
 some ⟨1, 8, [.nilfn], .other⟩,
 some ⟨1, 8, [.nilfn], .other⟩,
 none,
 some ⟨1, 8, [.nilfn], .other⟩,
 some ⟨1, 8, [.nilfn], .other⟩,
 some ⟨1, 24, [.sl true 7 []], .slice 119⟩,
 some ⟨1, 24, [.sl true 7 []], .slice 119⟩,
 some ⟨1, 8, [.nilfn], .other⟩,
 some ⟨1, 24, [.sl true 5 []], .slice 52⟩,
 some ⟨5, 64, [.int .i64 0, .int .i64 0, .str ⟨#[]⟩, .int .i64 0, .sl true 5 []], .struct [(3, 0), (3, 1), (9, 2), (2, 3), (50, 4)]⟩,
 some ⟨5, 64, [.int .i64 0, .int .i64 0, .str ⟨#[]⟩, .int .i64 0, .sl true 5 []], .struct [(3, 0), (3, 1), (9, 2), (2, 3), (50, 4)]⟩,
 some ⟨6, 72, [.int .i64 0, .int .i64 0, .int .i64 0, .str ⟨#[]⟩, .int .i64 0, .sl true 5 []], .struct [(2, 0), (52, 1)]⟩,
 some ⟨6, 72, [.int .i64 0, .int .i64 0, .int .i64 0, .str ⟨#[]⟩, .int .i64 0, .sl true 5 []], .struct [(2, 0), (52, 1)]⟩,
 some ⟨1, 24, [.sl true 1 []], .slice 2⟩,
 some ⟨5, 88, [.int .i64 0, .int .i64 0, .sl true 1 [], .sl true 1 [], .sl true 1 []], .struct [(3, 0), (2, 1), (55, 2), (55, 3), (55, 4)]⟩,
 some ⟨5, 88, [.int .i64 0, .int .i64 0, .sl true 1 [], .sl true 1 [], .sl true 1 []], .struct [(3, 0), (2, 1), (55, 2), (55, 3), (55, 4)]⟩,
 none,
 some ⟨1, 8, [.nilfn], .other⟩,
 some ⟨1, 8, [.nilfn], .other⟩,
 none,
 some ⟨1, 8, [.nilfn], .other⟩,
 some ⟨1, 8, [.nilfn], .other⟩,
 some ⟨1, 8, [.nilfn], .other⟩,
 some ⟨1, 8, [.nilfn], .other⟩,
 some ⟨1, 8, [.nilfn], .other⟩,
 some ⟨1, 8, [.nilfn], .other⟩,
 none,
 some ⟨1, 8, [.nilfn], .other⟩,
 some ⟨1, 8, [.nilfn], .other⟩,
 none,
 some ⟨1, 8, [.nilfn], .other⟩,
 some ⟨1, 8, [.nilfn], .other⟩,
 some ⟨1, 8, [.nilfn], .other⟩,
 none,
 some ⟨1, 8, [.nilfn], .other⟩,
 some ⟨1, 8, [.nilfn], .other⟩,
 some ⟨2, 16, [.int .i64 0, .int .i64 0], .struct [(3, 0), (2, 1)]⟩,
 some ⟨2, 16, [.int .i64 0, .int .i64 0], .struct [(3, 0), (2, 1)]⟩,
 some ⟨1, 8, [.nilfn], .other⟩,
 some ⟨1, 8, [.nilfn], .other⟩,
 some ⟨1, 8, [.nilfn], .other⟩,
 some ⟨1, 8, [.nilfn], .other⟩,
 some ⟨1, 8, [.nilfn], .other⟩,
 some ⟨1, 8, [.nilfn], .other⟩,
 some ⟨1, 8, [.nilfn], .other⟩,
 some ⟨1, 8, [.nilfn], .other⟩,
 some ⟨1, 8, [.nilfn], .other⟩,
 some ⟨1, 8, [.nilfn], .other⟩,
 none,
 some ⟨1, 8, [.nilfn], .other⟩,
 some ⟨1, 8, [.nilfn], .other⟩,
 some ⟨1, 8, [.nilfn], .other⟩,
 some ⟨1, 24, [.sl true 2 []], .slice 97⟩,
 some ⟨1, 8, [.int .u64 0], .int .u64⟩,
 some ⟨2, 16, [.int .i64 0, .int .u64 0], .struct [(2, 0), (95, 1)]⟩,
 some ⟨2, 16, [.int .i64 0, .int .u64 0], .struct [(2, 0), (95, 1)]⟩,
 none,
 some ⟨1, 8, [.nilfn], .other⟩,
 some ⟨1, 8, [.nilfn], .other⟩,
 some ⟨1, 8, [.nilfn], .other⟩,
 some ⟨1, 8, [.nilfn], .other⟩,
 none,
 some ⟨1, 8, [.nilfn], .other⟩,
 some ⟨1, 8, [.nilfn], .other⟩,
 some ⟨1, 8, [.nilfn], .other⟩,
 some ⟨1, 8, [.nilfn], .other⟩,
 some ⟨1, 24, [.sl true 1 []], .slice 9⟩,
 some ⟨1, 8, [.nilfn], .other⟩,
 some ⟨3, 24, [.bool false, .int .u64 0, .int .u64 0], .struct [(4, 0), (95, 1), (95, 2)]⟩,
 some ⟨3, 24, [.bool false, .int .u64 0, .int .u64 0], .struct [(4, 0), (95, 1), (95, 2)]⟩,
 some ⟨1, 8, [.nilfn], .other⟩,
 some ⟨1, 8, [.nilfn], .other⟩,
 some ⟨1, 8, [.nilfn], .other⟩,
 some ⟨1, 8, [.nilfn], .other⟩,
 some ⟨1, 8, [.nilfn], .other⟩,
 some ⟨1, 24, [.sl true 5 []], .slice 57⟩,
 some ⟨7, 128, [.str ⟨#[]⟩, .sl true 5 [], .int .i64 0, .int .i64 0, .sl true 1 [], .sl true 1 [], .sl true 1 []], .struct [(9, 0), (117, 1), (57, 2)]⟩,
 some ⟨7, 128, [.str ⟨#[]⟩, .sl true 5 [], .int .i64 0, .int .i64 0, .sl true 1 [], .sl true 1 [], .sl true 1 []], .struct [(9, 0), (117, 1), (57, 2)]⟩,
 some ⟨1, 8, [.nilfn], .other⟩,
 some ⟨1, 8, [.nilfn], .other⟩,
 some ⟨1, 8, [.nilfn], .other⟩,
 some ⟨1, 8, [.nilfn], .other⟩,
 some ⟨1, 8, [.nilfn], .other⟩,
 some ⟨1, 8, [.nilfn], .other⟩,
 some ⟨1, 8, [.nilfn], .other⟩,
 some ⟨1, 8, [.nilmap], .map 9 3⟩,
 some ⟨1, 8, [.nilfn], .other⟩,
 some ⟨1, 8, [.nilfn], .other⟩,
 some ⟨1, 8, [.nilfn], .other⟩,
 some ⟨1, 8, [.int .u64 0], .int .u64⟩,
 some ⟨1, 8, [.nilfn], .other⟩,
 some ⟨1, 8, [.nilfn], .other⟩,
 some ⟨1, 8, [.nilfn], .other⟩,
 some ⟨1, 8, [.nilfn], .other⟩,
 none,
 some ⟨1, 8, [.nilfn], .other⟩,
 some ⟨1, 8, [.nilfn], .other⟩,
 some ⟨1, 8, [.nilfn], .other⟩,
 some ⟨1, 8, [.nilfn], .other⟩,
 some ⟨1, 8, [.nilfn], .other⟩,
 some ⟨1, 8, [.nilfn], .other⟩,
 some ⟨1, 24, [.sl true 1 []], .slice 3⟩,
 none,
 some ⟨1, 8, [.nilfn], .other⟩,
 some ⟨1, 24, [.sl true 2 []], .slice 149⟩,
 some ⟨1, 8, [.nilfn], .other⟩,
 some ⟨2, 24, [.str ⟨#[]⟩, .int .i64 0], .struct [(9, 0), (3, 1)]⟩,
 some ⟨2, 24, [.str ⟨#[]⟩, .int .i64 0], .struct [(9, 0), (3, 1)]⟩,
 some ⟨1, 8, [.nilfn], .other⟩,
 some ⟨1, 8, [.nilfn], .other⟩,
 some ⟨1, 8, [.nilfn], .other⟩,
 some ⟨1, 8, [.nilfn], .other⟩,
 some ⟨1, 8, [.nilfn], .other⟩,
 some ⟨1, 8, [.nilfn], .other⟩,
 some ⟨1, 8, [.nilfn], .other⟩,
 some ⟨1, 8, [.nilfn], .other⟩,
 some ⟨1, 8, [.nilfn], .other⟩,
 some ⟨1, 8, [.nilfn], .other⟩,
 some ⟨1, 8, [.nilfn], .other⟩,
 some ⟨1, 8, [.nilfn], .other⟩,
 some ⟨1, 8, [.nilfn], .other⟩,
 some ⟨1, 8, [.nilfn], .other⟩,
 some ⟨1, 8, [.nilfn], .other⟩,
 some ⟨1, 8, [.nilfn], .other⟩,
 some ⟨1, 8, [.nilfn], .other⟩,
 some ⟨1, 8, [.nilfn], .other⟩,
 some ⟨1, 8, [.nilfn], .other⟩,
 some ⟨1, 8, [.nilfn], .other⟩,
 some ⟨1, 8, [.nilfn], .other⟩,
 some ⟨1, 8, [.nilfn], .other⟩,
 some ⟨1, 8, [.nilfn], .other⟩,
 some ⟨1, 8, [.nilfn], .other⟩,
 some ⟨1, 8, [.nilfn], .other⟩,
 some ⟨1, 8, [.nilfn], .other⟩,
 some ⟨1, 8, [.nilfn], .other⟩,
 some ⟨4, 40, [.nilp, .nilp, .nilp, .str ⟨#[]⟩], .struct [(17, 0), (17, 1), (17, 2), (9, 3)]⟩,
 some ⟨4, 40, [.nilp, .nilp, .nilp, .str ⟨#[]⟩], .struct [(17, 0), (17, 1), (17, 2), (9, 3)]⟩,
 some ⟨0, 0, [], .array 0 16⟩,
 some ⟨0, 0, [], .struct [(179, 0)]⟩,
 some ⟨0, 0, [], .struct [(179, 0)]⟩,
 some ⟨1, 8, [.nilfn], .other⟩,
 some ⟨1, 4, [.int .u32 0], .int .u32⟩,
 some ⟨1, 1, [.int .u8 0], .int .u8⟩,
 some ⟨1, 1, [.int .u8 0], .int .u8⟩,
 some ⟨1, 8, [.nilfn], .other⟩,
 some ⟨1, 8, [.nilp], .other⟩,
 some ⟨1, 4, [.int .i32 0], .int .i32⟩,
 some ⟨1, 4, [.int .i32 0], .int .i32⟩,
 some ⟨11, 48, [.int .u64 0, .int .u64 0, .int .u32 0, .int .u8 0, .int .u8 0, .int .u8 0, .int .u8 0, .nilfn, .nilp, .int .i32 0, .int .i32 0], .struct [(12, 0), (12, 1), (183, 2), (184, 3), (5, 4), (5, 5), (185, 6), (186, 7), (187, 8), (188, 9), (189, 10)]⟩,
 some ⟨11, 48, [.int .u64 0, .int .u64 0, .int .u32 0, .int .u8 0, .int .u8 0, .int .u8 0, .int .u8 0, .nilfn, .nilp, .int .i32 0, .int .i32 0], .struct [(12, 0), (12, 1), (183, 2), (184, 3), (5, 4), (5, 5), (185, 6), (186, 7), (187, 8), (188, 9), (189, 10)]⟩,
 none]
theorem tyList_ok : tysChk Proofs.Tryz.prog 0 tyList = true := by kernel_rfl
def tys (t : Nat) : Option TInfo := tyAt tyList t
theorem tys_ok (t : Nat) (i : TInfo) (h : tys t = some i) : TyOk Proofs.Tryz.prog t i := by
 have := tysChk_ok tyList 0 tyList_ok t i h
 rwa [Nat.zero_add] at this
theorem ty2 : tys 2 = some ⟨1, 8, [.int .i64 0], .int .i64⟩ := rfl
theorem ty3 : tys 3 = some ⟨1, 8, [.int .i64 0], .int .i64⟩ := rfl
theorem ty4 : tys 4 = some ⟨1, 1, [.bool false], .bool⟩ := rfl
theorem ty9 : tys 9 = some ⟨1, 16, [.str ⟨#[]⟩], .string⟩ := rfl
theorem ty22 : tys 22 = some ⟨1, 24, [.sl true 3 []], .slice 32⟩ := rfl
theorem ty23 : tys 23 = some ⟨1, 24, [.sl true 2 []], .slice 79⟩ := rfl
theorem ty26 : tys 26 = some ⟨1, 24, [.sl true 2 []], .slice 30⟩ := rfl
theorem ty28 : tys 28 = some ⟨1, 24, [.sl true 6 []], .slice 54⟩ := rfl
theorem ty30 : tys 30 = some ⟨2, 32, [.sl true 6 [], .int .i64 0], .struct [(28, 0), (2, 1)]⟩ := rfl
theorem ty32 : tys 32 = some ⟨3, 40, [.sl true 6 [], .int .i64 0, .int .i64 0], .struct [(30, 0), (3, 2)]⟩ := rfl
theorem ty38 : tys 38 = some ⟨1, 24, [.sl true 1 []], .slice 23⟩ := rfl
theorem ty39 : tys 39 = some ⟨1, 24, [.sl true 5 []], .slice 41⟩ := rfl
theorem ty41 : tys 41 = some ⟨5, 88, [.sl true 1 [], .bool false, .sl true 6 [], .int .i64 0, .sl true 5 []], .struct [(38, 0), (4, 1), (30, 2), (39, 4)]⟩ := rfl
theorem ty48 : tys 48 = some ⟨1, 24, [.sl true 7 []], .slice 119⟩ := rfl
theorem ty50 : tys 50 = some ⟨1, 24, [.sl true 5 []], .slice 52⟩ := rfl
theorem ty52 : tys 52 = some ⟨5, 64, [.int .i64 0, .int .i64 0, .str ⟨#[]⟩, .int .i64 0, .sl true 5 []], .struct [(3, 0), (3, 1), (9, 2), (2, 3), (50, 4)]⟩ := rfl
theorem ty54 : tys 54 = some ⟨6, 72, [.int .i64 0, .int .i64 0, .int .i64 0, .str ⟨#[]⟩, .int .i64 0, .sl true 5 []], .struct [(2, 0), (52, 1)]⟩ := rfl
theorem ty55 : tys 55 = some ⟨1, 24, [.sl true 1 []], .slice 2⟩ := rfl
theorem ty57 : tys 57 = some ⟨5, 88, [.int .i64 0, .int .i64 0, .sl true 1 [], .sl true 1 [], .sl true 1 []], .struct [(3, 0), (2, 1), (55, 2), (55, 3), (55, 4)]⟩ := rfl
theorem ty79 : tys 79 = some ⟨2, 16, [.int .i64 0, .int .i64 0], .struct [(3, 0), (2, 1)]⟩ := rfl
theorem ty88 : tys 88 = some ⟨1, 8, [.nilfn], .other⟩ := rfl
theorem ty94 : tys 94 = some ⟨1, 24, [.sl true 2 []], .slice 97⟩ := rfl
theorem ty95 : tys 95 = some ⟨1, 8, [.int .u64 0], .int .u64⟩ := rfl
theorem ty97 : tys 97 = some ⟨2, 16, [.int .i64 0, .int .u64 0], .struct [(2, 0), (95, 1)]⟩ := rfl
theorem ty108 : tys 108 = some ⟨1, 24, [.sl true 1 []], .slice 9⟩ := rfl
theorem ty117 : tys 117 = some ⟨1, 24, [.sl true 5 []], .slice 57⟩ := rfl
theorem ty119 : tys 119 = some ⟨7, 128, [.str ⟨#[]⟩, .sl true 5 [], .int .i64 0, .int .i64 0, .sl true 1 [], .sl true 1 [], .sl true 1 []], .struct [(9, 0), (117, 1), (57, 2)]⟩ := rfl
theorem ty125 : tys 125 = some ⟨1, 8, [.nilfn], .other⟩ := rfl
theorem ty127 : tys 127 = some ⟨1, 8, [.nilmap], .map 9 3⟩ := rfl
theorem ty131 : tys 131 = some ⟨1, 8, [.int .u64 0], .int .u64⟩ := rfl
theorem ty143 : tys 143 = some ⟨1, 24, [.sl true 1 []], .slice 3⟩ := rfl
theorem ty146 : tys 146 = some ⟨1, 24, [.sl true 2 []], .slice 149⟩ := rfl
theorem ty149 : tys 149 = some ⟨2, 24, [.str ⟨#[]⟩, .int .i64 0], .struct [(9, 0), (3, 1)]⟩ := rfl
end Go.Abs.Try
