import Derived.Test.YthgibjeclmkbpaaAbs24stoAbs25
import Derived.Test.YthgibjeclmkbpaaProg
set_option linter.unusedSimpArgs false
set_option linter.unusedVariables false
namespace Go.Abs.Try
set_option maxRecDepth 100000
def tyList : List (Option TInfo) := [
 none,
 some ⟨1, 8, [.nilfn], .other⟩,
 some ⟨1, 8, [.int .i64 0], .int .i64⟩,
 some ⟨1, 8, [.int .i64 0], .int .i64⟩,
 some ⟨1, 1, [.bool false], .bool⟩,
 some ⟨1, 1, [.int .u8 0], .int .u8⟩,
 some ⟨1, 1, [.int .u8 0], .int .u8⟩,
 some ⟨4, 24, [.int .i64 0, .int .i64 0, .bool false, .int .u8 0], .struct [(2, 0), (3, 1), (4, 2), (6, 3)]⟩,
 some ⟨4, 24, [.int .i64 0, .int .i64 0, .bool false, .int .u8 0], .struct [(2, 0), (3, 1), (4, 2), (6, 3)]⟩,
 some ⟨1, 16, [.str ⟨#[]⟩], .string⟩,
 some ⟨1, 16, [.str ⟨#[]⟩], .string⟩,
 some ⟨1, 16, [.str ⟨#[]⟩], .string⟩,
 some ⟨1, 8, [.int .u64 0], .int .u64⟩,
 some ⟨2, 24, [.str ⟨#[]⟩, .int .u64 0], .struct [(9, 0), (12, 1)]⟩,
 some ⟨2, 24, [.str ⟨#[]⟩, .int .u64 0], .struct [(9, 0), (12, 1)]⟩,
 some ⟨1, 8, [.nilp], .other⟩,
 some ⟨1, 8, [.nilp], .other⟩,
 some ⟨1, 8, [.nilp], .other⟩,
 some ⟨1, 8, [.nilp], .struct [(17, 0)]⟩,
 some ⟨1, 8, [.nilp], .struct [(17, 0)]⟩,
 some ⟨1, 16, [.nilif], .other⟩,
 some ⟨1, 4, [.int .i32 0], .int .i32⟩,
 some ⟨1, 24, [.sl true 5 []], .slice 24⟩,
 some ⟨5, 64, [.int .i64 0, .int .i64 0, .str ⟨#[]⟩, .int .i64 0, .sl true 5 []], .struct [(3, 0), (3, 1), (9, 2), (2, 3), (22, 4)]⟩,
 some ⟨5, 64, [.int .i64 0, .int .i64 0, .str ⟨#[]⟩, .int .i64 0, .sl true 5 []], .struct [(3, 0), (3, 1), (9, 2), (2, 3), (22, 4)]⟩,
 some ⟨1, 24, [.sl true 7 []], .slice 40⟩,
 some ⟨1, 24, [.sl true 7 []], .slice 40⟩,
 some ⟨1, 8, [.nilfn], .other⟩,
 some ⟨1, 8, [.nilfn], .other⟩,
 some ⟨1, 8, [.nilfn], .other⟩,
 some ⟨1, 24, [.sl true 1 []], .slice 2⟩,
 some ⟨5, 88, [.int .i64 0, .int .i64 0, .sl true 1 [], .sl true 1 [], .sl true 1 []], .struct [(3, 0), (2, 1), (30, 2), (30, 3), (30, 4)]⟩,
 some ⟨5, 88, [.int .i64 0, .int .i64 0, .sl true 1 [], .sl true 1 [], .sl true 1 []], .struct [(3, 0), (2, 1), (30, 2), (30, 3), (30, 4)]⟩,
 some ⟨1, 8, [.int .i64 0], .int .i64⟩,
 none,
 some ⟨1, 8, [.nilfn], .other⟩,
 some ⟨1, 8, [.nilfn], .other⟩,
 some ⟨1, 8, [.nilfn], .other⟩,
 some ⟨1, 24, [.sl true 5 []], .slice 32⟩,
 some ⟨7, 128, [.str ⟨#[]⟩, .sl true 5 [], .int .i64 0, .int .i64 0, .sl true 1 [], .sl true 1 [], .sl true 1 []], .struct [(9, 0), (38, 1), (32, 2)]⟩,
 some ⟨7, 128, [.str ⟨#[]⟩, .sl true 5 [], .int .i64 0, .int .i64 0, .sl true 1 [], .sl true 1 [], .sl true 1 []], .struct [(9, 0), (38, 1), (32, 2)]⟩,
 some ⟨1, 8, [.nilfn], .other⟩,
 some ⟨1, 8, [.nilfn], .other⟩,
 some ⟨1, 8, [.nilfn], .other⟩,
 some ⟨1, 8, [.nilfn], .other⟩,
 some ⟨1, 8, [.nilfn], .other⟩,
 some ⟨1, 8, [.nilfn], .other⟩,
 some ⟨1, 8, [.nilp], .other⟩,
 some ⟨2, 32, [.sl true 7 [], .bool false], .struct [(26, 0), (4, 1)]⟩,
 some ⟨2, 32, [.sl true 7 [], .bool false], .struct [(26, 0), (4, 1)]⟩,
 some ⟨1, 8, [.nilfn], .other⟩,
 some ⟨1, 8, [.nilfn], .other⟩,
 some ⟨1, 8, [.nilfn], .other⟩,
 some ⟨1, 8, [.nilfn], .other⟩,
 some ⟨1, 8, [.nilfn], .other⟩,
 some ⟨1, 8, [.nilmap], .map 9 56⟩,
 some ⟨1, 24, [.sl true 1 []], .slice 3⟩,
 some ⟨1, 8, [.nilfn], .other⟩,
 some ⟨1, 8, [.nilfn], .other⟩,
 some ⟨1, 8, [.nilfn], .other⟩,
 some ⟨1, 8, [.nilfn], .other⟩,
 some ⟨1, 8, [.nilfn], .other⟩,
 some ⟨1, 8, [.nilfn], .other⟩,
 some ⟨1, 8, [.nilfn], .other⟩,
 some ⟨1, 8, [.nilfn], .other⟩,
 some ⟨1, 8, [.nilfn], .other⟩,
 some ⟨1, 8, [.nilfn], .other⟩,
 some ⟨1, 8, [.nilmap], .map 9 3⟩,
 none,
 some ⟨1, 8, [.nilfn], .other⟩,
 some ⟨1, 8, [.nilfn], .other⟩,
 some ⟨1, 8, [.nilfn], .other⟩,
 some ⟨1, 8, [.nilfn], .other⟩,
 some ⟨1, 8, [.nilfn], .other⟩,
 some ⟨1, 8, [.nilfn], .other⟩,
 some ⟨1, 8, [.nilfn], .other⟩,
 some ⟨1, 8, [.nilfn], .other⟩,
 some ⟨1, 8, [.nilfn], .other⟩,
 some ⟨1, 8, [.nilfn], .other⟩,
 some ⟨1, 8, [.nilfn], .other⟩,
 none,
 some ⟨1, 8, [.nilfn], .other⟩,
 some ⟨1, 8, [.nilfn], .other⟩,
 some ⟨1, 8, [.nilfn], .other⟩,
 some ⟨1, 8, [.nilfn], .other⟩,
 some ⟨1, 8, [.nilfn], .other⟩,
 some ⟨1, 8, [.nilfn], .other⟩,
 some ⟨1, 8, [.int .u64 0], .int .u64⟩,
 some ⟨1, 8, [.nilfn], .other⟩,
 some ⟨1, 8, [.nilfn], .other⟩,
 some ⟨1, 8, [.nilfn], .other⟩,
 some ⟨1, 8, [.nilfn], .other⟩,
 some ⟨1, 8, [.nilfn], .other⟩,
 some ⟨1, 8, [.nilfn], .other⟩,
 some ⟨1, 8, [.int .i64 0], .int .i64⟩,
 none,
 some ⟨1, 8, [.nilfn], .other⟩,
 some ⟨1, 8, [.nilfn], .other⟩,
 some ⟨1, 8, [.nilfn], .other⟩,
 some ⟨1, 8, [.nilfn], .other⟩,
 some ⟨1, 8, [.nilfn], .other⟩,
 some ⟨1, 4, [.int .u32 0], .int .u32⟩,
 some ⟨1, 8, [.nilfn], .other⟩,
 some ⟨1, 8, [.int .u64 0], .int .u64⟩,
 some ⟨1, 8, [.int .u64 0], .int .u64⟩,
 some ⟨1, 8, [.nilfn], .other⟩,
 some ⟨1, 8, [.nilfn], .other⟩,
 some ⟨1, 8, [.nilfn], .other⟩,
 some ⟨1, 8, [.nilp], .other⟩,
 some ⟨1, 8, [.nilfn], .other⟩,
 some ⟨1, 8, [.nilp], .other⟩,
 none,
 some ⟨1, 8, [.nilfn], .other⟩,
 some ⟨1, 8, [.nilfn], .other⟩,
 some ⟨4, 40, [.nilp, .nilp, .nilp, .str ⟨#[]⟩], .struct [(17, 0), (17, 1), (17, 2), (9, 3)]⟩,
 some ⟨4, 40, [.nilp, .nilp, .nilp, .str ⟨#[]⟩], .struct [(17, 0), (17, 1), (17, 2), (9, 3)]⟩,
 some ⟨0, 0, [], .array 0 16⟩,
 some ⟨0, 0, [], .struct [(116, 0)]⟩,
 some ⟨0, 0, [], .struct [(116, 0)]⟩,
 some ⟨1, 8, [.nilfn], .other⟩,
 some ⟨1, 1, [.int .u8 0], .int .u8⟩,
 some ⟨1, 1, [.int .u8 0], .int .u8⟩,
 some ⟨1, 8, [.nilfn], .other⟩,
 some ⟨1, 8, [.nilp], .other⟩,
 some ⟨1, 4, [.int .i32 0], .int .i32⟩,
 some ⟨1, 4, [.int .i32 0], .int .i32⟩,
 some ⟨11, 48, [.int .u64 0, .int .u64 0, .int .u32 0, .int .u8 0, .int .u8 0, .int .u8 0, .int .u8 0, .nilfn, .nilp, .int .i32 0, .int .i32 0], .struct [(12, 0), (12, 1), (101, 2), (120, 3), (5, 4), (5, 5), (121, 6), (122, 7), (123, 8), (124, 9), (125, 10)]⟩,
 some ⟨11, 48, [.int .u64 0, .int .u64 0, .int .u32 0, .int .u8 0, .int .u8 0, .int .u8 0, .int .u8 0, .nilfn, .nilp, .int .i32 0, .int .i32 0], .struct [(12, 0), (12, 1), (101, 2), (120, 3), (5, 4), (5, 5), (121, 6), (122, 7), (123, 8), (124, 9), (125, 10)]⟩,
 none]
theorem tyList_ok : tysChk Proofs.Try.prog 0 tyList = true := by kernel_rfl
def tys (t : Nat) : Option TInfo := tyAt tyList t
theorem tys_ok (t : Nat) (i : TInfo) (h : tys t = some i) : TyOk Proofs.Try.prog t i := by
 have := tysChk_ok tyList 0 tyList_ok t i h
 rwa [Nat.zero_add] at this
theorem ty2 : tys 2 = some ⟨1, 8, [.int .i64 0], .int .i64⟩ := rfl
theorem ty3 : tys 3 = some ⟨1, 8, [.int .i64 0], .int .i64⟩ := rfl
theorem ty4 : tys 4 = some ⟨1, 1, [.bool false], .bool⟩ := rfl
theorem ty9 : tys 9 = some ⟨1, 16, [.str ⟨#[]⟩], .string⟩ := rfl
theorem ty22 : tys 22 = some ⟨1, 24, [.sl true 5 []], .slice 24⟩ := rfl
theorem ty24 : tys 24 = some ⟨5, 64, [.int .i64 0, .int .i64 0, .str ⟨#[]⟩, .int .i64 0, .sl true 5 []], .struct [(3, 0), (3, 1), (9, 2), (2, 3), (22, 4)]⟩ := rfl
theorem ty26 : tys 26 = some ⟨1, 24, [.sl true 7 []], .slice 40⟩ := rfl
theorem ty30 : tys 30 = some ⟨1, 24, [.sl true 1 []], .slice 2⟩ := rfl
theorem ty32 : tys 32 = some ⟨5, 88, [.int .i64 0, .int .i64 0, .sl true 1 [], .sl true 1 [], .sl true 1 []], .struct [(3, 0), (2, 1), (30, 2), (30, 3), (30, 4)]⟩ := rfl
theorem ty38 : tys 38 = some ⟨1, 24, [.sl true 5 []], .slice 32⟩ := rfl
theorem ty40 : tys 40 = some ⟨7, 128, [.str ⟨#[]⟩, .sl true 5 [], .int .i64 0, .int .i64 0, .sl true 1 [], .sl true 1 [], .sl true 1 []], .struct [(9, 0), (38, 1), (32, 2)]⟩ := rfl
theorem ty46 : tys 46 = some ⟨1, 8, [.nilfn], .other⟩ := rfl
theorem ty49 : tys 49 = some ⟨2, 32, [.sl true 7 [], .bool false], .struct [(26, 0), (4, 1)]⟩ := rfl
theorem ty53 : tys 53 = some ⟨1, 8, [.nilfn], .other⟩ := rfl
theorem ty56 : tys 56 = some ⟨1, 24, [.sl true 1 []], .slice 3⟩ := rfl
theorem ty67 : tys 67 = some ⟨1, 8, [.nilmap], .map 9 3⟩ := rfl
theorem ty87 : tys 87 = some ⟨1, 8, [.int .u64 0], .int .u64⟩ := rfl
end Go.Abs.Try
