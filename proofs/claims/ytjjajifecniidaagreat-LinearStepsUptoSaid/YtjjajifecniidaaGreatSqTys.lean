import Derived.Test.YtjjajifecniidaaGreatAbs24ztoAbs30
import Derived.Test.YtjjajifecniidaaGreatProg
namespace Go.Abs.Try
set_option maxRecDepth 100000

def tyList : List (Option TInfo) := [
  none,
  some ⟨1, 8, [.nilfn], .other⟩,
  some ⟨1, 8, [.int .i64 0], .int .i64⟩,
  some ⟨1, 8, [.int .i64 0], .int .i64⟩,
  some ⟨1, 1, [.bool false], .bool⟩,
  some ⟨1, 1, [.int .u8 0], .int .u8⟩,
  some ⟨1, 1, [.int .u8 0], .int .u8⟩,
  some ⟨4, 24, [.int .i64 0, .int .i64 0, .bool false, .int .u8 0], .struct [(2, 0), (3, 1), (4, 2), (6, 3)]⟩,
  some ⟨4, 24, [.int .i64 0, .int .i64 0, .bool false, .int .u8 0], .struct [(2, 0), (3, 1), (4, 2), (6, 3)]⟩,
  some ⟨1, 16, [.str ⟨#[]⟩], .string⟩,
  some ⟨1, 16, [.str ⟨#[]⟩], .string⟩,
  some ⟨1, 16, [.str ⟨#[]⟩], .string⟩,
  some ⟨1, 8, [.int .u64 0], .int .u64⟩,
  some ⟨2, 24, [.str ⟨#[]⟩, .int .u64 0], .struct [(9, 0), (12, 1)]⟩,
  some ⟨2, 24, [.str ⟨#[]⟩, .int .u64 0], .struct [(9, 0), (12, 1)]⟩,
  some ⟨1, 8, [.nilp], .other⟩,
  some ⟨1, 8, [.nilp], .other⟩,
  some ⟨1, 8, [.nilp], .other⟩,
  some ⟨1, 8, [.nilp], .struct [(17, 0)]⟩,
  some ⟨1, 8, [.nilp], .struct [(17, 0)]⟩,
  some ⟨1, 16, [.nilif], .other⟩,
  some ⟨1, 4, [.int .i32 0], .int .i32⟩,
  some ⟨1, 24, [.sl true 3 []], .slice 32⟩,
  some ⟨1, 24, [.sl true 2 []], .slice 79⟩,
  some ⟨1, 8, [.nilfn], .other⟩,
  some ⟨1, 8, [.nilfn], .other⟩,
  some ⟨1, 24, [.sl true 2 []], .slice 30⟩,
  some ⟨1, 8, [.nilfn], .other⟩,
  some ⟨1, 24, [.sl true 6 []], .slice 54⟩,
  some ⟨2, 32, [.sl true 6 [], .int .i64 0], .struct [(28, 0), (2, 1)]⟩,
  some ⟨2, 32, [.sl true 6 [], .int .i64 0], .struct [(28, 0), (2, 1)]⟩,
  some ⟨3, 40, [.sl true 6 [], .int .i64 0, .int .i64 0], .struct [(30, 0), (3, 2)]⟩,
  some ⟨3, 40, [.sl true 6 [], .int .i64 0, .int .i64 0], .struct [(30, 0), (3, 2)]⟩,
  some ⟨1, 8, [.int .i64 0], .int .i64⟩,
  none,
  some ⟨1, 8, [.nilfn], .other⟩,
  some ⟨1, 8, [.nilfn], .other⟩,
  some ⟨1, 8, [.nilfn], .other⟩,
  some ⟨1, 24, [.sl true 1 []], .slice 23⟩,
  some ⟨1, 24, [.sl true 5 []], .slice 41⟩,
  some ⟨5, 88, [.sl true 1 [], .bool false, .sl true 6 [], .int .i64 0, .sl true 5 []], .struct [(38, 0), (4, 1), (30, 2), (39, 4)]⟩,
  some ⟨5, 88, [.sl true 1 [], .bool false, .sl true 6 [], .int .i64 0, .sl true 5 []], .struct [(38, 0), (4, 1), (30, 2), (39, 4)]⟩,
  some ⟨1, 8, [.nilfn], .other⟩,
  some ⟨1, 8, [.nilfn], .other⟩,
  none,
  some ⟨1, 8, [.nilfn], .other⟩,
  some ⟨1, 8, [.nilfn], .other⟩,
  some ⟨1, 24, [.sl true 7 []], .slice 119⟩,
  some ⟨1, 24, [.sl true 7 []], .slice 119⟩,
  some ⟨1, 8, [.nilfn], .other⟩,
  some ⟨1, 24, [.sl true 5 []], .slice 52⟩,
  some ⟨5, 64, [.int .i64 0, .int .i64 0, .str ⟨#[]⟩, .int .i64 0, .sl true 5 []], .struct [(3, 0), (3, 1), (9, 2), (2, 3), (50, 4)]⟩,
  some ⟨5, 64, [.int .i64 0, .int .i64 0, .str ⟨#[]⟩, .int .i64 0, .sl true 5 []], .struct [(3, 0), (3, 1), (9, 2), (2, 3), (50, 4)]⟩,
  some ⟨6, 72, [.int .i64 0, .int .i64 0, .int .i64 0, .str ⟨#[]⟩, .int .i64 0, .sl true 5 []], .struct [(2, 0), (52, 1)]⟩,
  some ⟨6, 72, [.int .i64 0, .int .i64 0, .int .i64 0, .str ⟨#[]⟩, .int .i64 0, .sl true 5 []], .struct [(2, 0), (52, 1)]⟩,
  some ⟨1, 24, [.sl true 1 []], .slice 2⟩,
  some ⟨5, 88, [.int .i64 0, .int .i64 0, .sl true 1 [], .sl true 1 [], .sl true 1 []], .struct [(3, 0), (2, 1), (55, 2), (55, 3), (55, 4)]⟩,
  some ⟨5, 88, [.int .i64 0, .int .i64 0, .sl true 1 [], .sl true 1 [], .sl true 1 []], .struct [(3, 0), (2, 1), (55, 2), (55, 3), (55, 4)]⟩,
  none,
  some ⟨1, 8, [.nilfn], .other⟩,
  some ⟨1, 8, [.nilfn], .other⟩,
  none,
  some ⟨1, 8, [.nilfn], .other⟩,
  some ⟨1, 8, [.nilfn], .other⟩,
  some ⟨1, 8, [.nilfn], .other⟩,
  some ⟨1, 8, [.nilfn], .other⟩,
  some ⟨1, 8, [.nilfn], .other⟩,
  some ⟨1, 8, [.nilfn], .other⟩,
  none,
  some ⟨1, 8, [.nilfn], .other⟩,
  some ⟨1, 8, [.nilfn], .other⟩,
  none,
  some ⟨1, 8, [.nilfn], .other⟩,
  some ⟨1, 8, [.nilfn], .other⟩,
  some ⟨1, 8, [.nilfn], .other⟩,
  none,
  some ⟨1, 8, [.nilfn], .other⟩,
  some ⟨1, 8, [.nilfn], .other⟩,
  some ⟨2, 16, [.int .i64 0, .int .i64 0], .struct [(3, 0), (2, 1)]⟩,
  some ⟨2, 16, [.int .i64 0, .int .i64 0], .struct [(3, 0), (2, 1)]⟩,
  some ⟨1, 8, [.nilfn], .other⟩,
  some ⟨1, 8, [.nilfn], .other⟩,
  some ⟨1, 8, [.nilfn], .other⟩,
  some ⟨1, 8, [.nilfn], .other⟩,
  some ⟨1, 8, [.nilfn], .other⟩,
  some ⟨1, 8, [.nilfn], .other⟩,
  some ⟨1, 8, [.nilfn], .other⟩,
  some ⟨1, 8, [.nilfn], .other⟩,
  some ⟨1, 8, [.nilfn], .other⟩,
  some ⟨1, 8, [.nilfn], .other⟩,
  none,
  some ⟨1, 8, [.nilfn], .other⟩,
  some ⟨1, 8, [.nilfn], .other⟩,
  some ⟨1, 8, [.nilfn], .other⟩,
  some ⟨1, 24, [.sl true 2 []], .slice 97⟩,
  some ⟨1, 8, [.int .u64 0], .int .u64⟩,
  some ⟨2, 16, [.int .i64 0, .int .u64 0], .struct [(2, 0), (95, 1)]⟩,
  some ⟨2, 16, [.int .i64 0, .int .u64 0], .struct [(2, 0), (95, 1)]⟩,
  none,
  some ⟨1, 8, [.nilfn], .other⟩,
  some ⟨1, 8, [.nilfn], .other⟩,
  some ⟨1, 8, [.nilfn], .other⟩,
  some ⟨1, 8, [.nilfn], .other⟩,
  none,
  some ⟨1, 8, [.nilfn], .other⟩,
  some ⟨1, 8, [.nilfn], .other⟩,
  some ⟨1, 8, [.nilfn], .other⟩,
  some ⟨1, 8, [.nilfn], .other⟩,
  some ⟨1, 24, [.sl true 1 []], .slice 9⟩,
  some ⟨1, 8, [.nilfn], .other⟩,
  some ⟨3, 24, [.bool false, .int .u64 0, .int .u64 0], .struct [(4, 0), (95, 1), (95, 2)]⟩,
  some ⟨3, 24, [.bool false, .int .u64 0, .int .u64 0], .struct [(4, 0), (95, 1), (95, 2)]⟩,
  some ⟨1, 8, [.nilfn], .other⟩,
  some ⟨1, 8, [.nilfn], .other⟩,
  some ⟨1, 8, [.nilfn], .other⟩,
  some ⟨1, 8, [.nilfn], .other⟩,
  some ⟨1, 8, [.nilfn], .other⟩,
  some ⟨1, 24, [.sl true 5 []], .slice 57⟩,
  some ⟨7, 128, [.str ⟨#[]⟩, .sl true 5 [], .int .i64 0, .int .i64 0, .sl true 1 [], .sl true 1 [], .sl true 1 []], .struct [(9, 0), (117, 1), (57, 2)]⟩,
  some ⟨7, 128, [.str ⟨#[]⟩, .sl true 5 [], .int .i64 0, .int .i64 0, .sl true 1 [], .sl true 1 [], .sl true 1 []], .struct [(9, 0), (117, 1), (57, 2)]⟩,
  some ⟨1, 8, [.nilfn], .other⟩,
  some ⟨1, 8, [.nilfn], .other⟩,
  some ⟨1, 8, [.nilfn], .other⟩,
  some ⟨1, 8, [.nilfn], .other⟩,
  some ⟨1, 8, [.nilfn], .other⟩,
  some ⟨1, 8, [.nilfn], .other⟩,
  some ⟨1, 8, [.nilfn], .other⟩,
  some ⟨1, 8, [.nilmap], .map 9 3⟩,
  some ⟨1, 8, [.nilfn], .other⟩,
  some ⟨1, 8, [.nilfn], .other⟩,
  some ⟨1, 8, [.nilfn], .other⟩,
  some ⟨1, 8, [.int .u64 0], .int .u64⟩,
  some ⟨1, 8, [.nilfn], .other⟩,
  some ⟨1, 8, [.nilfn], .other⟩,
  some ⟨1, 8, [.nilfn], .other⟩,
  some ⟨1, 8, [.nilfn], .other⟩,
  none,
  some ⟨1, 8, [.nilfn], .other⟩,
  some ⟨1, 8, [.nilfn], .other⟩,
  some ⟨1, 8, [.nilfn], .other⟩,
  some ⟨1, 8, [.nilfn], .other⟩,
  some ⟨1, 8, [.nilfn], .other⟩,
  some ⟨1, 8, [.nilfn], .other⟩,
  some ⟨1, 24, [.sl true 1 []], .slice 3⟩,
  none,
  some ⟨1, 8, [.nilfn], .other⟩,
  some ⟨1, 24, [.sl true 2 []], .slice 149⟩,
  some ⟨1, 8, [.nilfn], .other⟩,
  some ⟨2, 24, [.str ⟨#[]⟩, .int .i64 0], .struct [(9, 0), (3, 1)]⟩,
  some ⟨2, 24, [.str ⟨#[]⟩, .int .i64 0], .struct [(9, 0), (3, 1)]⟩,
  some ⟨1, 8, [.nilfn], .other⟩,
  some ⟨1, 8, [.nilfn], .other⟩,
  some ⟨1, 8, [.nilfn], .other⟩,
  some ⟨1, 8, [.nilfn], .other⟩,
  some ⟨1, 8, [.nilfn], .other⟩,
  some ⟨1, 8, [.nilfn], .other⟩,
  some ⟨1, 8, [.nilfn], .other⟩,
  some ⟨1, 8, [.nilfn], .other⟩,
  some ⟨1, 8, [.nilfn], .other⟩,
  some ⟨1, 8, [.nilfn], .other⟩,
  some ⟨1, 8, [.nilfn], .other⟩,
  some ⟨1, 8, [.nilfn], .other⟩,
  some ⟨1, 8, [.nilfn], .other⟩,
  some ⟨1, 8, [.nilfn], .other⟩,
  some ⟨1, 8, [.nilfn], .other⟩,
  some ⟨1, 8, [.nilfn], .other⟩,
  some ⟨1, 8, [.nilfn], .other⟩,
  some ⟨1, 8, [.nilfn], .other⟩,
  some ⟨1, 8, [.nilfn], .other⟩,
  some ⟨1, 8, [.nilfn], .other⟩,
  some ⟨1, 8, [.nilfn], .other⟩,
  some ⟨1, 8, [.nilfn], .other⟩,
  some ⟨1, 8, [.nilfn], .other⟩,
  some ⟨1, 8, [.nilfn], .other⟩,
  some ⟨1, 8, [.nilfn], .other⟩,
  some ⟨1, 8, [.nilfn], .other⟩,
  some ⟨1, 8, [.nilfn], .other⟩,
  some ⟨4, 40, [.nilp, .nilp, .nilp, .str ⟨#[]⟩], .struct [(17, 0), (17, 1), (17, 2), (9, 3)]⟩,
  some ⟨4, 40, [.nilp, .nilp, .nilp, .str ⟨#[]⟩], .struct [(17, 0), (17, 1), (17, 2), (9, 3)]⟩,
  some ⟨0, 0, [], .array 0 16⟩,
  some ⟨0, 0, [], .struct [(179, 0)]⟩,
  some ⟨0, 0, [], .struct [(179, 0)]⟩,
  some ⟨1, 8, [.nilfn], .other⟩,
  some ⟨1, 4, [.int .u32 0], .int .u32⟩,
  some ⟨1, 1, [.int .u8 0], .int .u8⟩,
  some ⟨1, 1, [.int .u8 0], .int .u8⟩,
  some ⟨1, 8, [.nilfn], .other⟩,
  some ⟨1, 8, [.nilp], .other⟩,
  some ⟨1, 4, [.int .i32 0], .int .i32⟩,
  some ⟨1, 4, [.int .i32 0], .int .i32⟩,
  some ⟨11, 48, [.int .u64 0, .int .u64 0, .int .u32 0, .int .u8 0, .int .u8 0, .int .u8 0, .int .u8 0, .nilfn, .nilp, .int .i32 0, .int .i32 0], .struct [(12, 0), (12, 1), (183, 2), (184, 3), (5, 4), (5, 5), (185, 6), (186, 7), (187, 8), (188, 9), (189, 10)]⟩,
  some ⟨11, 48, [.int .u64 0, .int .u64 0, .int .u32 0, .int .u8 0, .int .u8 0, .int .u8 0, .int .u8 0, .nilfn, .nilp, .int .i32 0, .int .i32 0], .struct [(12, 0), (12, 1), (183, 2), (184, 3), (5, 4), (5, 5), (185, 6), (186, 7), (187, 8), (188, 9), (189, 10)]⟩,
  none]
theorem tyList_ok : tysChk Proofs.Tryz.prog 0 tyList = true := by kernel_rfl
def tys (t : Nat) : Option TInfo := tyAt tyList t
theorem tys_ok (t : Nat) (i : TInfo) (h : tys t = some i) : TyOk Proofs.Tryz.prog t i := by
  have := tysChk_ok tyList 0 tyList_ok t i h
  rwa [Nat.zero_add] at this
theorem ty1 : tys 1 = some ⟨1, 8, [.nilfn], .other⟩ := rfl
theorem ty2 : tys 2 = some ⟨1, 8, [.int .i64 0], .int .i64⟩ := rfl
theorem ty3 : tys 3 = some ⟨1, 8, [.int .i64 0], .int .i64⟩ := rfl
theorem ty4 : tys 4 = some ⟨1, 1, [.bool false], .bool⟩ := rfl
theorem ty5 : tys 5 = some ⟨1, 1, [.int .u8 0], .int .u8⟩ := rfl
theorem ty6 : tys 6 = some ⟨1, 1, [.int .u8 0], .int .u8⟩ := rfl
theorem ty7 : tys 7 = some ⟨4, 24, [.int .i64 0, .int .i64 0, .bool false, .int .u8 0], .struct [(2, 0), (3, 1), (4, 2), (6, 3)]⟩ := rfl
theorem ty8 : tys 8 = some ⟨4, 24, [.int .i64 0, .int .i64 0, .bool false, .int .u8 0], .struct [(2, 0), (3, 1), (4, 2), (6, 3)]⟩ := rfl
theorem ty9 : tys 9 = some ⟨1, 16, [.str ⟨#[]⟩], .string⟩ := rfl
theorem ty10 : tys 10 = some ⟨1, 16, [.str ⟨#[]⟩], .string⟩ := rfl
theorem ty11 : tys 11 = some ⟨1, 16, [.str ⟨#[]⟩], .string⟩ := rfl
theorem ty12 : tys 12 = some ⟨1, 8, [.int .u64 0], .int .u64⟩ := rfl
theorem ty13 : tys 13 = some ⟨2, 24, [.str ⟨#[]⟩, .int .u64 0], .struct [(9, 0), (12, 1)]⟩ := rfl
theorem ty14 : tys 14 = some ⟨2, 24, [.str ⟨#[]⟩, .int .u64 0], .struct [(9, 0), (12, 1)]⟩ := rfl
theorem ty15 : tys 15 = some ⟨1, 8, [.nilp], .other⟩ := rfl
theorem ty16 : tys 16 = some ⟨1, 8, [.nilp], .other⟩ := rfl
theorem ty17 : tys 17 = some ⟨1, 8, [.nilp], .other⟩ := rfl
theorem ty18 : tys 18 = some ⟨1, 8, [.nilp], .struct [(17, 0)]⟩ := rfl
theorem ty19 : tys 19 = some ⟨1, 8, [.nilp], .struct [(17, 0)]⟩ := rfl
theorem ty20 : tys 20 = some ⟨1, 16, [.nilif], .other⟩ := rfl
theorem ty21 : tys 21 = some ⟨1, 4, [.int .i32 0], .int .i32⟩ := rfl
theorem ty22 : tys 22 = some ⟨1, 24, [.sl true 3 []], .slice 32⟩ := rfl
theorem ty23 : tys 23 = some ⟨1, 24, [.sl true 2 []], .slice 79⟩ := rfl
theorem ty24 : tys 24 = some ⟨1, 8, [.nilfn], .other⟩ := rfl
theorem ty25 : tys 25 = some ⟨1, 8, [.nilfn], .other⟩ := rfl
theorem ty26 : tys 26 = some ⟨1, 24, [.sl true 2 []], .slice 30⟩ := rfl
theorem ty27 : tys 27 = some ⟨1, 8, [.nilfn], .other⟩ := rfl
theorem ty28 : tys 28 = some ⟨1, 24, [.sl true 6 []], .slice 54⟩ := rfl
theorem ty29 : tys 29 = some ⟨2, 32, [.sl true 6 [], .int .i64 0], .struct [(28, 0), (2, 1)]⟩ := rfl
theorem ty30 : tys 30 = some ⟨2, 32, [.sl true 6 [], .int .i64 0], .struct [(28, 0), (2, 1)]⟩ := rfl
theorem ty31 : tys 31 = some ⟨3, 40, [.sl true 6 [], .int .i64 0, .int .i64 0], .struct [(30, 0), (3, 2)]⟩ := rfl
theorem ty32 : tys 32 = some ⟨3, 40, [.sl true 6 [], .int .i64 0, .int .i64 0], .struct [(30, 0), (3, 2)]⟩ := rfl
theorem ty33 : tys 33 = some ⟨1, 8, [.int .i64 0], .int .i64⟩ := rfl
theorem ty35 : tys 35 = some ⟨1, 8, [.nilfn], .other⟩ := rfl
theorem ty36 : tys 36 = some ⟨1, 8, [.nilfn], .other⟩ := rfl
theorem ty37 : tys 37 = some ⟨1, 8, [.nilfn], .other⟩ := rfl
theorem ty38 : tys 38 = some ⟨1, 24, [.sl true 1 []], .slice 23⟩ := rfl
theorem ty39 : tys 39 = some ⟨1, 24, [.sl true 5 []], .slice 41⟩ := rfl
theorem ty40 : tys 40 = some ⟨5, 88, [.sl true 1 [], .bool false, .sl true 6 [], .int .i64 0, .sl true 5 []], .struct [(38, 0), (4, 1), (30, 2), (39, 4)]⟩ := rfl
theorem ty41 : tys 41 = some ⟨5, 88, [.sl true 1 [], .bool false, .sl true 6 [], .int .i64 0, .sl true 5 []], .struct [(38, 0), (4, 1), (30, 2), (39, 4)]⟩ := rfl
theorem ty42 : tys 42 = some ⟨1, 8, [.nilfn], .other⟩ := rfl
theorem ty43 : tys 43 = some ⟨1, 8, [.nilfn], .other⟩ := rfl
theorem ty45 : tys 45 = some ⟨1, 8, [.nilfn], .other⟩ := rfl
theorem ty46 : tys 46 = some ⟨1, 8, [.nilfn], .other⟩ := rfl
theorem ty47 : tys 47 = some ⟨1, 24, [.sl true 7 []], .slice 119⟩ := rfl
theorem ty48 : tys 48 = some ⟨1, 24, [.sl true 7 []], .slice 119⟩ := rfl
theorem ty49 : tys 49 = some ⟨1, 8, [.nilfn], .other⟩ := rfl
theorem ty50 : tys 50 = some ⟨1, 24, [.sl true 5 []], .slice 52⟩ := rfl
theorem ty51 : tys 51 = some ⟨5, 64, [.int .i64 0, .int .i64 0, .str ⟨#[]⟩, .int .i64 0, .sl true 5 []], .struct [(3, 0), (3, 1), (9, 2), (2, 3), (50, 4)]⟩ := rfl
theorem ty52 : tys 52 = some ⟨5, 64, [.int .i64 0, .int .i64 0, .str ⟨#[]⟩, .int .i64 0, .sl true 5 []], .struct [(3, 0), (3, 1), (9, 2), (2, 3), (50, 4)]⟩ := rfl
theorem ty53 : tys 53 = some ⟨6, 72, [.int .i64 0, .int .i64 0, .int .i64 0, .str ⟨#[]⟩, .int .i64 0, .sl true 5 []], .struct [(2, 0), (52, 1)]⟩ := rfl
theorem ty54 : tys 54 = some ⟨6, 72, [.int .i64 0, .int .i64 0, .int .i64 0, .str ⟨#[]⟩, .int .i64 0, .sl true 5 []], .struct [(2, 0), (52, 1)]⟩ := rfl
theorem ty55 : tys 55 = some ⟨1, 24, [.sl true 1 []], .slice 2⟩ := rfl
theorem ty56 : tys 56 = some ⟨5, 88, [.int .i64 0, .int .i64 0, .sl true 1 [], .sl true 1 [], .sl true 1 []], .struct [(3, 0), (2, 1), (55, 2), (55, 3), (55, 4)]⟩ := rfl
theorem ty57 : tys 57 = some ⟨5, 88, [.int .i64 0, .int .i64 0, .sl true 1 [], .sl true 1 [], .sl true 1 []], .struct [(3, 0), (2, 1), (55, 2), (55, 3), (55, 4)]⟩ := rfl
theorem ty59 : tys 59 = some ⟨1, 8, [.nilfn], .other⟩ := rfl
theorem ty60 : tys 60 = some ⟨1, 8, [.nilfn], .other⟩ := rfl
theorem ty62 : tys 62 = some ⟨1, 8, [.nilfn], .other⟩ := rfl
theorem ty63 : tys 63 = some ⟨1, 8, [.nilfn], .other⟩ := rfl
theorem ty64 : tys 64 = some ⟨1, 8, [.nilfn], .other⟩ := rfl
theorem ty65 : tys 65 = some ⟨1, 8, [.nilfn], .other⟩ := rfl
theorem ty66 : tys 66 = some ⟨1, 8, [.nilfn], .other⟩ := rfl
theorem ty67 : tys 67 = some ⟨1, 8, [.nilfn], .other⟩ := rfl
theorem ty69 : tys 69 = some ⟨1, 8, [.nilfn], .other⟩ := rfl
theorem ty70 : tys 70 = some ⟨1, 8, [.nilfn], .other⟩ := rfl
theorem ty72 : tys 72 = some ⟨1, 8, [.nilfn], .other⟩ := rfl
theorem ty73 : tys 73 = some ⟨1, 8, [.nilfn], .other⟩ := rfl
theorem ty74 : tys 74 = some ⟨1, 8, [.nilfn], .other⟩ := rfl
theorem ty76 : tys 76 = some ⟨1, 8, [.nilfn], .other⟩ := rfl
theorem ty77 : tys 77 = some ⟨1, 8, [.nilfn], .other⟩ := rfl
theorem ty78 : tys 78 = some ⟨2, 16, [.int .i64 0, .int .i64 0], .struct [(3, 0), (2, 1)]⟩ := rfl
theorem ty79 : tys 79 = some ⟨2, 16, [.int .i64 0, .int .i64 0], .struct [(3, 0), (2, 1)]⟩ := rfl
theorem ty80 : tys 80 = some ⟨1, 8, [.nilfn], .other⟩ := rfl
theorem ty81 : tys 81 = some ⟨1, 8, [.nilfn], .other⟩ := rfl
theorem ty82 : tys 82 = some ⟨1, 8, [.nilfn], .other⟩ := rfl
theorem ty83 : tys 83 = some ⟨1, 8, [.nilfn], .other⟩ := rfl
theorem ty84 : tys 84 = some ⟨1, 8, [.nilfn], .other⟩ := rfl
theorem ty85 : tys 85 = some ⟨1, 8, [.nilfn], .other⟩ := rfl
theorem ty86 : tys 86 = some ⟨1, 8, [.nilfn], .other⟩ := rfl
theorem ty87 : tys 87 = some ⟨1, 8, [.nilfn], .other⟩ := rfl
theorem ty88 : tys 88 = some ⟨1, 8, [.nilfn], .other⟩ := rfl
theorem ty89 : tys 89 = some ⟨1, 8, [.nilfn], .other⟩ := rfl
theorem ty91 : tys 91 = some ⟨1, 8, [.nilfn], .other⟩ := rfl
theorem ty92 : tys 92 = some ⟨1, 8, [.nilfn], .other⟩ := rfl
theorem ty93 : tys 93 = some ⟨1, 8, [.nilfn], .other⟩ := rfl
theorem ty94 : tys 94 = some ⟨1, 24, [.sl true 2 []], .slice 97⟩ := rfl
theorem ty95 : tys 95 = some ⟨1, 8, [.int .u64 0], .int .u64⟩ := rfl
theorem ty96 : tys 96 = some ⟨2, 16, [.int .i64 0, .int .u64 0], .struct [(2, 0), (95, 1)]⟩ := rfl
theorem ty97 : tys 97 = some ⟨2, 16, [.int .i64 0, .int .u64 0], .struct [(2, 0), (95, 1)]⟩ := rfl
theorem ty99 : tys 99 = some ⟨1, 8, [.nilfn], .other⟩ := rfl
theorem ty100 : tys 100 = some ⟨1, 8, [.nilfn], .other⟩ := rfl
theorem ty101 : tys 101 = some ⟨1, 8, [.nilfn], .other⟩ := rfl
theorem ty102 : tys 102 = some ⟨1, 8, [.nilfn], .other⟩ := rfl
theorem ty104 : tys 104 = some ⟨1, 8, [.nilfn], .other⟩ := rfl
theorem ty105 : tys 105 = some ⟨1, 8, [.nilfn], .other⟩ := rfl
theorem ty106 : tys 106 = some ⟨1, 8, [.nilfn], .other⟩ := rfl
theorem ty107 : tys 107 = some ⟨1, 8, [.nilfn], .other⟩ := rfl
theorem ty108 : tys 108 = some ⟨1, 24, [.sl true 1 []], .slice 9⟩ := rfl
theorem ty109 : tys 109 = some ⟨1, 8, [.nilfn], .other⟩ := rfl
theorem ty110 : tys 110 = some ⟨3, 24, [.bool false, .int .u64 0, .int .u64 0], .struct [(4, 0), (95, 1), (95, 2)]⟩ := rfl
theorem ty111 : tys 111 = some ⟨3, 24, [.bool false, .int .u64 0, .int .u64 0], .struct [(4, 0), (95, 1), (95, 2)]⟩ := rfl
theorem ty112 : tys 112 = some ⟨1, 8, [.nilfn], .other⟩ := rfl
theorem ty113 : tys 113 = some ⟨1, 8, [.nilfn], .other⟩ := rfl
theorem ty114 : tys 114 = some ⟨1, 8, [.nilfn], .other⟩ := rfl
theorem ty115 : tys 115 = some ⟨1, 8, [.nilfn], .other⟩ := rfl
theorem ty116 : tys 116 = some ⟨1, 8, [.nilfn], .other⟩ := rfl
theorem ty117 : tys 117 = some ⟨1, 24, [.sl true 5 []], .slice 57⟩ := rfl
theorem ty118 : tys 118 = some ⟨7, 128, [.str ⟨#[]⟩, .sl true 5 [], .int .i64 0, .int .i64 0, .sl true 1 [], .sl true 1 [], .sl true 1 []], .struct [(9, 0), (117, 1), (57, 2)]⟩ := rfl
theorem ty119 : tys 119 = some ⟨7, 128, [.str ⟨#[]⟩, .sl true 5 [], .int .i64 0, .int .i64 0, .sl true 1 [], .sl true 1 [], .sl true 1 []], .struct [(9, 0), (117, 1), (57, 2)]⟩ := rfl
theorem ty120 : tys 120 = some ⟨1, 8, [.nilfn], .other⟩ := rfl
theorem ty121 : tys 121 = some ⟨1, 8, [.nilfn], .other⟩ := rfl
theorem ty122 : tys 122 = some ⟨1, 8, [.nilfn], .other⟩ := rfl
theorem ty123 : tys 123 = some ⟨1, 8, [.nilfn], .other⟩ := rfl
theorem ty124 : tys 124 = some ⟨1, 8, [.nilfn], .other⟩ := rfl
theorem ty125 : tys 125 = some ⟨1, 8, [.nilfn], .other⟩ := rfl
theorem ty126 : tys 126 = some ⟨1, 8, [.nilfn], .other⟩ := rfl
theorem ty127 : tys 127 = some ⟨1, 8, [.nilmap], .map 9 3⟩ := rfl
theorem ty128 : tys 128 = some ⟨1, 8, [.nilfn], .other⟩ := rfl
theorem ty129 : tys 129 = some ⟨1, 8, [.nilfn], .other⟩ := rfl
theorem ty130 : tys 130 = some ⟨1, 8, [.nilfn], .other⟩ := rfl
theorem ty131 : tys 131 = some ⟨1, 8, [.int .u64 0], .int .u64⟩ := rfl
theorem ty132 : tys 132 = some ⟨1, 8, [.nilfn], .other⟩ := rfl
theorem ty133 : tys 133 = some ⟨1, 8, [.nilfn], .other⟩ := rfl
theorem ty134 : tys 134 = some ⟨1, 8, [.nilfn], .other⟩ := rfl
theorem ty135 : tys 135 = some ⟨1, 8, [.nilfn], .other⟩ := rfl
theorem ty137 : tys 137 = some ⟨1, 8, [.nilfn], .other⟩ := rfl
theorem ty138 : tys 138 = some ⟨1, 8, [.nilfn], .other⟩ := rfl
theorem ty139 : tys 139 = some ⟨1, 8, [.nilfn], .other⟩ := rfl
theorem ty140 : tys 140 = some ⟨1, 8, [.nilfn], .other⟩ := rfl
theorem ty141 : tys 141 = some ⟨1, 8, [.nilfn], .other⟩ := rfl
theorem ty142 : tys 142 = some ⟨1, 8, [.nilfn], .other⟩ := rfl
theorem ty143 : tys 143 = some ⟨1, 24, [.sl true 1 []], .slice 3⟩ := rfl
theorem ty145 : tys 145 = some ⟨1, 8, [.nilfn], .other⟩ := rfl
theorem ty146 : tys 146 = some ⟨1, 24, [.sl true 2 []], .slice 149⟩ := rfl
theorem ty147 : tys 147 = some ⟨1, 8, [.nilfn], .other⟩ := rfl
theorem ty148 : tys 148 = some ⟨2, 24, [.str ⟨#[]⟩, .int .i64 0], .struct [(9, 0), (3, 1)]⟩ := rfl
theorem ty149 : tys 149 = some ⟨2, 24, [.str ⟨#[]⟩, .int .i64 0], .struct [(9, 0), (3, 1)]⟩ := rfl
theorem ty150 : tys 150 = some ⟨1, 8, [.nilfn], .other⟩ := rfl
theorem ty151 : tys 151 = some ⟨1, 8, [.nilfn], .other⟩ := rfl
theorem ty152 : tys 152 = some ⟨1, 8, [.nilfn], .other⟩ := rfl
theorem ty153 : tys 153 = some ⟨1, 8, [.nilfn], .other⟩ := rfl
theorem ty154 : tys 154 = some ⟨1, 8, [.nilfn], .other⟩ := rfl
theorem ty155 : tys 155 = some ⟨1, 8, [.nilfn], .other⟩ := rfl
theorem ty156 : tys 156 = some ⟨1, 8, [.nilfn], .other⟩ := rfl
theorem ty157 : tys 157 = some ⟨1, 8, [.nilfn], .other⟩ := rfl
theorem ty158 : tys 158 = some ⟨1, 8, [.nilfn], .other⟩ := rfl
theorem ty159 : tys 159 = some ⟨1, 8, [.nilfn], .other⟩ := rfl
theorem ty160 : tys 160 = some ⟨1, 8, [.nilfn], .other⟩ := rfl
theorem ty161 : tys 161 = some ⟨1, 8, [.nilfn], .other⟩ := rfl
theorem ty162 : tys 162 = some ⟨1, 8, [.nilfn], .other⟩ := rfl
theorem ty163 : tys 163 = some ⟨1, 8, [.nilfn], .other⟩ := rfl
theorem ty164 : tys 164 = some ⟨1, 8, [.nilfn], .other⟩ := rfl
theorem ty165 : tys 165 = some ⟨1, 8, [.nilfn], .other⟩ := rfl
theorem ty166 : tys 166 = some ⟨1, 8, [.nilfn], .other⟩ := rfl
theorem ty167 : tys 167 = some ⟨1, 8, [.nilfn], .other⟩ := rfl
theorem ty168 : tys 168 = some ⟨1, 8, [.nilfn], .other⟩ := rfl
theorem ty169 : tys 169 = some ⟨1, 8, [.nilfn], .other⟩ := rfl
theorem ty170 : tys 170 = some ⟨1, 8, [.nilfn], .other⟩ := rfl
theorem ty171 : tys 171 = some ⟨1, 8, [.nilfn], .other⟩ := rfl
theorem ty172 : tys 172 = some ⟨1, 8, [.nilfn], .other⟩ := rfl
theorem ty173 : tys 173 = some ⟨1, 8, [.nilfn], .other⟩ := rfl
theorem ty174 : tys 174 = some ⟨1, 8, [.nilfn], .other⟩ := rfl
theorem ty175 : tys 175 = some ⟨1, 8, [.nilfn], .other⟩ := rfl
theorem ty176 : tys 176 = some ⟨1, 8, [.nilfn], .other⟩ := rfl
theorem ty177 : tys 177 = some ⟨4, 40, [.nilp, .nilp, .nilp, .str ⟨#[]⟩], .struct [(17, 0), (17, 1), (17, 2), (9, 3)]⟩ := rfl
theorem ty178 : tys 178 = some ⟨4, 40, [.nilp, .nilp, .nilp, .str ⟨#[]⟩], .struct [(17, 0), (17, 1), (17, 2), (9, 3)]⟩ := rfl
theorem ty179 : tys 179 = some ⟨0, 0, [], .array 0 16⟩ := rfl
theorem ty180 : tys 180 = some ⟨0, 0, [], .struct [(179, 0)]⟩ := rfl
theorem ty181 : tys 181 = some ⟨0, 0, [], .struct [(179, 0)]⟩ := rfl
theorem ty182 : tys 182 = some ⟨1, 8, [.nilfn], .other⟩ := rfl
theorem ty183 : tys 183 = some ⟨1, 4, [.int .u32 0], .int .u32⟩ := rfl
theorem ty184 : tys 184 = some ⟨1, 1, [.int .u8 0], .int .u8⟩ := rfl
theorem ty185 : tys 185 = some ⟨1, 1, [.int .u8 0], .int .u8⟩ := rfl
theorem ty186 : tys 186 = some ⟨1, 8, [.nilfn], .other⟩ := rfl
theorem ty187 : tys 187 = some ⟨1, 8, [.nilp], .other⟩ := rfl
theorem ty188 : tys 188 = some ⟨1, 4, [.int .i32 0], .int .i32⟩ := rfl
theorem ty189 : tys 189 = some ⟨1, 4, [.int .i32 0], .int .i32⟩ := rfl
theorem ty190 : tys 190 = some ⟨11, 48, [.int .u64 0, .int .u64 0, .int .u32 0, .int .u8 0, .int .u8 0, .int .u8 0, .int .u8 0, .nilfn, .nilp, .int .i32 0, .int .i32 0], .struct [(12, 0), (12, 1), (183, 2), (184, 3), (5, 4), (5, 5), (185, 6), (186, 7), (187, 8), (188, 9), (189, 10)]⟩ := rfl
theorem ty191 : tys 191 = some ⟨11, 48, [.int .u64 0, .int .u64 0, .int .u32 0, .int .u8 0, .int .u8 0, .int .u8 0, .int .u8 0, .nilfn, .nilp, .int .i32 0, .int .i32 0], .struct [(12, 0), (12, 1), (183, 2), (184, 3), (5, 4), (5, 5), (185, 6), (186, 7), (187, 8), (188, 9), (189, 10)]⟩ := rfl
end Go.Abs.Try
