import Derived.Test.YtjealnlacmfbiaaAbs24ztoAbs2
import Derived.Test.YtjealnlacmfbiaaProg
set_option linter.unusedSimpArgs false
set_option linter.unusedVariables false
namespace Go.Abs.Try
set_option maxRecDepth 100000
def tyList : List (Option TInfo) := [
 none,
 some ⟨1, 8, [.nilfn], .other⟩,
 some ⟨1, 8, [.int .i64 0], .int .i64⟩,
 some ⟨1, 8, [.int .i64 0], .int .i64⟩,
 some ⟨1, 1, [.bool false], .bool⟩,
 some ⟨1, 1, [.int .u8 0], .int .u8⟩,
 some ⟨1, 1, [.int .u8 0], .int .u8⟩,
 some ⟨4, 24, [.int .i64 0, .int .i64 0, .bool false, .int .u8 0], .struct [(2, 0), (3, 1), (4, 2), (6, 3)]⟩,
 some ⟨4, 24, [.int .i64 0, .int .i64 0, .bool false, .int .u8 0], .struct [(2, 0), (3, 1), (4, 2), (6, 3)]⟩,
 some ⟨1, 16, [.str ⟨#[]⟩], .string⟩,
 some ⟨1, 16, [.str ⟨#[]⟩], .string⟩,
 some ⟨1, 16, [.str ⟨#[]⟩], .string⟩,
 some ⟨1, 8, [.int .u64 0], .int .u64⟩,
 some ⟨2, 24, [.str ⟨#[]⟩, .int .u64 0], .struct [(9, 0), (12, 1)]⟩,
 some ⟨2, 24, [.str ⟨#[]⟩, .int .u64 0], .struct [(9, 0), (12, 1)]⟩,
 some ⟨1, 8, [.nilp], .other⟩,
 some ⟨1, 8, [.nilp], .other⟩,
 some ⟨1, 8, [.nilp], .other⟩,
 some ⟨1, 8, [.nilp], .struct [(17, 0)]⟩,
 some ⟨1, 8, [.nilp], .struct [(17, 0)]⟩,
 some ⟨1, 16, [.nilif], .other⟩,
 some ⟨1, 4, [.int .i32 0], .int .i32⟩,
 some ⟨1, 24, [.sl true 5 []], .slice 24⟩,
 some ⟨5, 64, [.int .i64 0, .int .i64 0, .str ⟨#[]⟩, .int .i64 0, .sl true 5 []], .struct [(3, 0), (3, 1), (9, 2), (2, 3), (22, 4)]⟩,
 some ⟨5, 64, [.int .i64 0, .int .i64 0, .str ⟨#[]⟩, .int .i64 0, .sl true 5 []], .struct [(3, 0), (3, 1), (9, 2), (2, 3), (22, 4)]⟩,
 some ⟨1, 24, [.sl true 2 []], .slice 46⟩,
 some ⟨1, 24, [.sl true 3 []], .slice 52⟩,
 some ⟨1, 8, [.nilfn], .other⟩,
 some ⟨1, 8, [.nilfn], .other⟩,
 some ⟨1, 8, [.int .i64 0], .int .i64⟩,
 none,
 some ⟨1, 8, [.nilfn], .other⟩,
 some ⟨1, 8, [.nilfn], .other⟩,
 some ⟨1, 8, [.nilfn], .other⟩,
 some ⟨1, 8, [.nilfn], .other⟩,
 some ⟨1, 8, [.nilfn], .other⟩,
 some ⟨1, 8, [.nilfn], .other⟩,
 some ⟨1, 8, [.nilfn], .other⟩,
 some ⟨1, 8, [.nilmap], .map 9 3⟩,
 some ⟨1, 8, [.nilmap], .map 9 52⟩,
 some ⟨2, 16, [.nilmap, .nilmap], .struct [(38, 0), (39, 1)]⟩,
 some ⟨2, 16, [.nilmap, .nilmap], .struct [(38, 0), (39, 1)]⟩,
 some ⟨1, 8, [.nilfn], .other⟩,
 some ⟨1, 8, [.nilfn], .other⟩,
 some ⟨1, 8, [.nilfn], .other⟩,
 some ⟨2, 24, [.str ⟨#[]⟩, .int .i64 0], .struct [(9, 0), (3, 1)]⟩,
 some ⟨2, 24, [.str ⟨#[]⟩, .int .i64 0], .struct [(9, 0), (3, 1)]⟩,
 some ⟨1, 8, [.nilfn], .other⟩,
 some ⟨1, 8, [.nilfn], .other⟩,
 some ⟨1, 8, [.nilfn], .other⟩,
 some ⟨1, 24, [.sl true 1 []], .slice 3⟩,
 some ⟨3, 48, [.str ⟨#[]⟩, .sl true 1 [], .int .i64 0], .struct [(9, 0), (50, 1), (3, 2)]⟩,
 some ⟨3, 48, [.str ⟨#[]⟩, .sl true 1 [], .int .i64 0], .struct [(9, 0), (50, 1), (3, 2)]⟩,
 some ⟨1, 8, [.nilfn], .other⟩,
 some ⟨1, 8, [.nilfn], .other⟩,
 some ⟨1, 8, [.nilfn], .other⟩,
 some ⟨1, 8, [.nilfn], .other⟩,
 some ⟨1, 8, [.nilfn], .other⟩,
 some ⟨1, 8, [.nilfn], .other⟩,
 some ⟨1, 8, [.nilfn], .other⟩,
 some ⟨1, 8, [.nilfn], .other⟩,
 some ⟨1, 8, [.nilfn], .other⟩,
 some ⟨1, 8, [.nilfn], .other⟩,
 some ⟨1, 8, [.nilfn], .other⟩,
 some ⟨1, 8, [.nilfn], .other⟩,
 some ⟨1, 8, [.nilfn], .other⟩,
 some ⟨1, 8, [.nilfn], .other⟩,
 some ⟨1, 8, [.nilfn], .other⟩,
 some ⟨1, 8, [.nilp], .other⟩,
 none,
 none,
 some ⟨1, 8, [.nilfn], .other⟩,
 some ⟨1, 8, [.nilfn], .other⟩,
 some ⟨1, 8, [.nilfn], .other⟩,
 none,
 some ⟨1, 8, [.nilfn], .other⟩,
 some ⟨1, 8, [.nilfn], .other⟩,
 some ⟨1, 8, [.nilfn], .other⟩,
 some ⟨1, 8, [.nilfn], .other⟩,
 some ⟨1, 8, [.nilfn], .other⟩,
 some ⟨1, 8, [.nilfn], .other⟩,
 some ⟨1, 8, [.nilfn], .other⟩,
 some ⟨1, 8, [.nilfn], .other⟩,
 some ⟨1, 8, [.int .u64 0], .int .u64⟩,
 some ⟨1, 8, [.nilfn], .other⟩,
 some ⟨1, 8, [.nilfn], .other⟩,
 some ⟨1, 8, [.nilfn], .other⟩,
 some ⟨1, 8, [.nilfn], .other⟩,
 some ⟨1, 24, [.sl true 1 []], .slice 9⟩,
 some ⟨1, 8, [.nilfn], .other⟩,
 some ⟨1, 8, [.nilfn], .other⟩,
 some ⟨1, 8, [.nilfn], .other⟩,
 some ⟨1, 8, [.nilfn], .other⟩,
 some ⟨4, 40, [.nilp, .nilp, .nilp, .str ⟨#[]⟩], .struct [(17, 0), (17, 1), (17, 2), (9, 3)]⟩,
 some ⟨4, 40, [.nilp, .nilp, .nilp, .str ⟨#[]⟩], .struct [(17, 0), (17, 1), (17, 2), (9, 3)]⟩,
 some ⟨0, 0, [], .array 0 16⟩,
 some ⟨0, 0, [], .struct [(95, 0)]⟩,
 some ⟨0, 0, [], .struct [(95, 0)]⟩,
 some ⟨1, 8, [.nilfn], .other⟩,
 some ⟨1, 4, [.int .u32 0], .int .u32⟩,
 some ⟨1, 1, [.int .u8 0], .int .u8⟩,
 some ⟨1, 1, [.int .u8 0], .int .u8⟩,
 some ⟨1, 8, [.nilfn], .other⟩,
 some ⟨1, 8, [.nilp], .other⟩,
 some ⟨1, 4, [.int .i32 0], .int .i32⟩,
 some ⟨1, 4, [.int .i32 0], .int .i32⟩,
 some ⟨11, 48, [.int .u64 0, .int .u64 0, .int .u32 0, .int .u8 0, .int .u8 0, .int .u8 0, .int .u8 0, .nilfn, .nilp, .int .i32 0, .int .i32 0], .struct [(12, 0), (12, 1), (99, 2), (100, 3), (5, 4), (5, 5), (101, 6), (102, 7), (103, 8), (104, 9), (105, 10)]⟩,
 some ⟨11, 48, [.int .u64 0, .int .u64 0, .int .u32 0, .int .u8 0, .int .u8 0, .int .u8 0, .int .u8 0, .nilfn, .nilp, .int .i32 0, .int .i32 0], .struct [(12, 0), (12, 1), (99, 2), (100, 3), (5, 4), (5, 5), (101, 6), (102, 7), (103, 8), (104, 9), (105, 10)]⟩,
 none]
theorem tyList_ok : tysChk Proofs.Try.prog 0 tyList = true := by kernel_rfl
def tys (t : Nat) : Option TInfo := tyAt tyList t
theorem tys_ok (t : Nat) (i : TInfo) (h : tys t = some i) : TyOk Proofs.Try.prog t i := by
 have := tysChk_ok tyList 0 tyList_ok t i h
 rwa [Nat.zero_add] at this
theorem ty2 : tys 2 = some ⟨1, 8, [.int .i64 0], .int .i64⟩ := rfl
theorem ty3 : tys 3 = some ⟨1, 8, [.int .i64 0], .int .i64⟩ := rfl
theorem ty4 : tys 4 = some ⟨1, 1, [.bool false], .bool⟩ := rfl
theorem ty9 : tys 9 = some ⟨1, 16, [.str ⟨#[]⟩], .string⟩ := rfl
theorem ty22 : tys 22 = some ⟨1, 24, [.sl true 5 []], .slice 24⟩ := rfl
theorem ty24 : tys 24 = some ⟨5, 64, [.int .i64 0, .int .i64 0, .str ⟨#[]⟩, .int .i64 0, .sl true 5 []], .struct [(3, 0), (3, 1), (9, 2), (2, 3), (22, 4)]⟩ := rfl
theorem ty25 : tys 25 = some ⟨1, 24, [.sl true 2 []], .slice 46⟩ := rfl
theorem ty26 : tys 26 = some ⟨1, 24, [.sl true 3 []], .slice 52⟩ := rfl
theorem ty29 : tys 29 = some ⟨1, 8, [.int .i64 0], .int .i64⟩ := rfl
theorem ty37 : tys 37 = some ⟨1, 8, [.nilfn], .other⟩ := rfl
theorem ty38 : tys 38 = some ⟨1, 8, [.nilmap], .map 9 3⟩ := rfl
theorem ty39 : tys 39 = some ⟨1, 8, [.nilmap], .map 9 52⟩ := rfl
theorem ty41 : tys 41 = some ⟨2, 16, [.nilmap, .nilmap], .struct [(38, 0), (39, 1)]⟩ := rfl
theorem ty42 : tys 42 = some ⟨1, 8, [.nilfn], .other⟩ := rfl
theorem ty43 : tys 43 = some ⟨1, 8, [.nilfn], .other⟩ := rfl
theorem ty46 : tys 46 = some ⟨2, 24, [.str ⟨#[]⟩, .int .i64 0], .struct [(9, 0), (3, 1)]⟩ := rfl
theorem ty47 : tys 47 = some ⟨1, 8, [.nilfn], .other⟩ := rfl
theorem ty48 : tys 48 = some ⟨1, 8, [.nilfn], .other⟩ := rfl
theorem ty50 : tys 50 = some ⟨1, 24, [.sl true 1 []], .slice 3⟩ := rfl
theorem ty52 : tys 52 = some ⟨3, 48, [.str ⟨#[]⟩, .sl true 1 [], .int .i64 0], .struct [(9, 0), (50, 1), (3, 2)]⟩ := rfl
theorem ty54 : tys 54 = some ⟨1, 8, [.nilfn], .other⟩ := rfl
theorem ty65 : tys 65 = some ⟨1, 8, [.nilfn], .other⟩ := rfl
theorem ty66 : tys 66 = some ⟨1, 8, [.nilfn], .other⟩ := rfl
theorem ty68 : tys 68 = some ⟨1, 8, [.nilp], .other⟩ := rfl
theorem ty83 : tys 83 = some ⟨1, 8, [.int .u64 0], .int .u64⟩ := rfl
theorem ty88 : tys 88 = some ⟨1, 24, [.sl true 1 []], .slice 9⟩ := rfl
end Go.Abs.Try
