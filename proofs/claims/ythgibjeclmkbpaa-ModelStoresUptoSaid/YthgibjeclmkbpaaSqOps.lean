import Derived.Test.YthgibjeclmkbpaaSqPre2
import Derived.Test.YthgibjeclmkbpaaRowOp
import Derived.Test.YthgibjeclmkbpaaCl
import Derived.Shelf.SlGeneric
import Derived.Ground.SlgnProg
import Derived.WalkKit
import Derived.Laws.AppendOwn
import Derived.Lib.Walk
import Derived.Lib.SliceRun
import Derived.Deep.LoopGhost
import Derived.Shelf.SortG.Plain
import Derived.Shelf.SortG.SortNone
import Derived.Shelf.SlicesG.CompactI
import Derived.Shelf.SlicesG.Delete
set_option linter.unusedSimpArgs false
set_option linter.unusedVariables false
namespace Go.Proofs
open Go.RowKit Go.Lib Go.Shelf
def Try.laySort_ren : Go.Shelf.Ren := ⟨fun | 53 => 51 | 64 => 68 | 63 => 67 | 78 => 80 | 79 => 81 | 70 => 72 | 71 => 73 | 72 => 74 | 73 => 75 | 74 => 76 | 75 => 77 | 59 => 63 | 76 => 78 | 77 => 79 | 88 => 83 | 89 => 84 | 90 => 85 | 91 => 86 | 92 => 87 | 68 => 70 | 96 => 88 | n => n, fun | 22 => 30 | 23 => 2 | 3 => 3 | 51 => 87 | 0 => 0 | 67 => 101 | 69 => 103 | 4 => 4 | 61 => 95 | 60 => 94 | 44 => 68 | 5 => 5 | 9 => 9 | 75 => 104 | 79 => 108 | 83 => 110 | 84 => 111 | n => n, fun | n => n⟩
theorem Try.laySort : Go.Proofs.SlLaysN.n53 Try.prog Try.laySort_ren where
 mixed := by kernel_rfl
 f53 := ⟨Try.f51.name, by decide, Try.func51.trans (congrArg some (by kernel_rfl))⟩
 f59 := ⟨Try.f63.name, by decide, Try.func63.trans (congrArg some (by kernel_rfl))⟩
 f63 := ⟨Try.f67.name, by decide, Try.func67.trans (congrArg some (by kernel_rfl))⟩
 f64 := Try.func68.trans (congrArg some (by kernel_rfl))
 f68 := ⟨Try.f70.name, by decide, Try.func70.trans (congrArg some (by kernel_rfl))⟩
 f70 := ⟨Try.f72.name, by decide, Try.func72.trans (congrArg some (by kernel_rfl))⟩
 f71 := ⟨Try.f73.name, by decide, Try.func73.trans (congrArg some (by kernel_rfl))⟩
 f72 := ⟨Try.f74.name, by decide, Try.func74.trans (congrArg some (by kernel_rfl))⟩
 f73 := ⟨Try.f75.name, by decide, Try.func75.trans (congrArg some (by kernel_rfl))⟩
 f74 := ⟨Try.f76.name, by decide, Try.func76.trans (congrArg some (by kernel_rfl))⟩
 f75 := ⟨Try.f77.name, by decide, Try.func77.trans (congrArg some (by kernel_rfl))⟩
 f76 := ⟨Try.f78.name, by decide, Try.func78.trans (congrArg some (by kernel_rfl))⟩
 f77 := ⟨Try.f79.name, by decide, Try.func79.trans (congrArg some (by kernel_rfl))⟩
 f78 := Try.func80.trans (congrArg some (by kernel_rfl))
 f79 := Try.func81.trans (congrArg some (by kernel_rfl))
 f88 := ⟨Try.f83.name, by decide, Try.func83.trans (congrArg some (by kernel_rfl))⟩
 f89 := Try.func84.trans (congrArg some (by kernel_rfl))
 f90 := Try.func85.trans (congrArg some (by kernel_rfl))
 f91 := ⟨Try.f86.name, by decide, Try.func86.trans (congrArg some (by kernel_rfl))⟩
 f92 := ⟨Try.f87.name, by decide, Try.func87.trans (congrArg some (by kernel_rfl))⟩
 f96 := ⟨Try.f88.name, by decide, Try.func88.trans (congrArg some (by kernel_rfl))⟩
 t0 := Try.underlying0
 a0 := Try.isAgg0
 z0 := Try.sizeOf0
 v0 := Try.zeroValue0
 t3 := Try.underlying3
 a3 := Try.isAgg3
 z3 := Try.sizeOf3
 v3 := Try.zeroValue3
 t4 := Try.underlying4
 a4 := Try.isAgg4
 z4 := Try.sizeOf4
 v4 := Try.zeroValue4
 t5 := Try.underlying5
 a5 := Try.isAgg5
 z5 := Try.sizeOf5
 v5 := Try.zeroValue5
 t9 := Try.underlying9
 a9 := Try.isAgg9
 z9 := Try.sizeOf9
 v9 := Try.zeroValue9
 t22 := Try.underlying30
 a22 := Try.isAgg30
 z22 := Try.sizeOf30
 v22 := Try.zeroValue30
 t23 := Try.underlying2
 a23 := Try.isAgg2
 z23 := Try.sizeOf2
 v23 := Try.zeroValue2
 t44 := Try.underlying68
 a44 := Try.isAgg68
 z44 := Try.sizeOf68
 v44 := Try.zeroValue68
 t51 := Try.underlying87
 a51 := Try.isAgg87
 z51 := Try.sizeOf87
 v51 := Try.zeroValue87
 t60 := Try.underlying94
 a60 := Try.isAgg94
 z60 := Try.sizeOf94
 v60 := Try.zeroValue94
 t61 := Try.underlying95
 a61 := Try.isAgg95
 z61 := Try.sizeOf95
 v61 := Try.zeroValue95
 t67 := Try.underlying101
 a67 := Try.isAgg101
 z67 := Try.sizeOf101
 v67 := Try.zeroValue101
 t69 := Try.underlying103
 a69 := Try.isAgg103
 z69 := Try.sizeOf103
 v69 := Try.zeroValue103
 t75 := Try.underlying104
 a75 := Try.isAgg104
 z75 := Try.sizeOf104
 v75 := Try.zeroValue104
 t79 := Try.underlying108
 a79 := Try.isAgg108
 z79 := Try.sizeOf108
 v79 := Try.zeroValue108
 t83 := Try.underlying110
 a83 := Try.isAgg110
 z83 := Try.sizeOf110
 v83 := Try.zeroValue110
 t84 := Try.underlying111
 a84 := Try.isAgg111
 z84 := Try.sizeOf111
 v84 := Try.zeroValue111
def Try.layCompact_ren : Go.Shelf.Ren := ⟨fun | 43 => 52 | n => n, fun | 22 => 30 | 23 => 2 | 3 => 3 | 4 => 4 | 0 => 0 | n => n, fun | n => n⟩
theorem Try.layCompact : Go.Proofs.SlLaysN.n43 Try.prog Try.layCompact_ren where
 mixed := by kernel_rfl
 f43 := ⟨Try.f52.name, by decide, Try.func52.trans (congrArg some (by kernel_rfl))⟩
 t0 := Try.underlying0
 a0 := Try.isAgg0
 z0 := Try.sizeOf0
 v0 := Try.zeroValue0
 t3 := Try.underlying3
 a3 := Try.isAgg3
 z3 := Try.sizeOf3
 v3 := Try.zeroValue3
 t4 := Try.underlying4
 a4 := Try.isAgg4
 z4 := Try.sizeOf4
 v4 := Try.zeroValue4
 t22 := Try.underlying30
 a22 := Try.isAgg30
 z22 := Try.sizeOf30
 v22 := Try.zeroValue30
 t23 := Try.underlying2
 a23 := Try.isAgg2
 z23 := Try.sizeOf2
 v23 := Try.zeroValue2
 i23 := by kernel_rfl
def Try.layDelete_ren : Go.Shelf.Ren := ⟨fun | 45 => 49 | n => n, fun | 22 => 30 | 23 => 2 | 3 => 3 | 4 => 4 | 0 => 0 | n => n, fun | n => n⟩
theorem Try.layDelete : Go.Proofs.SlLaysN.n45 Try.prog Try.layDelete_ren where
 mixed := by kernel_rfl
 f45 := ⟨Try.f49.name, by decide, Try.func49.trans (congrArg some (by kernel_rfl))⟩
 t0 := Try.underlying0
 a0 := Try.isAgg0
 z0 := Try.sizeOf0
 v0 := Try.zeroValue0
 t3 := Try.underlying3
 a3 := Try.isAgg3
 z3 := Try.sizeOf3
 v3 := Try.zeroValue3
 t4 := Try.underlying4
 a4 := Try.isAgg4
 z4 := Try.sizeOf4
 v4 := Try.zeroValue4
 t22 := Try.underlying30
 a22 := Try.isAgg30
 z22 := Try.sizeOf30
 v22 := Try.zeroValue30
 t23 := Try.underlying2
 a23 := Try.isAgg2
 z23 := Try.sizeOf2
 v23 := Try.zeroValue2
 i23 := by kernel_rfl
set_option maxHeartbeats 2000000 in
set_option maxRecDepth 100000 in
theorem Try.cloneInt (ad : Addr) (n c : Nat) (news : List Value) (w : World) (hl : news.length = n * 1) (hn : n ≤ maxLen) (hbig : n * 8 ≤ 140737488355328)
    (hc : ∀ j u, news[j]? = some u → w.cell? (ad.add j) = some u) (h1 : ∀ u ∈ news, u.oneCell' = true) :
    Calls Try.prog 34 #[.slice (some ad) n c] w fun e w' => ∃ v', e = .returned v' ∧ w'.ownsRow w.heap.size 2 1 v' n news ∧ v' ≠ .slice none 0 0 ∧ Below w.heap.size w w' := by
  obtain ⟨i0, z, hi, hz1, hz2, hz0, hzs⟩ : ∃ i0 z, Try.prog.info? 2 = some i0 ∧ i0.size = 1 ∧ i0.bytes = 8 ∧ i0.zero = some z ∧ z.cells.size = 1 := ⟨_, _, rfl, rfl, rfl, rfl, rfl⟩
  have tT := Try.underlying30
  have qT : ∀ (w : World) (a : Option Addr) (n c n' c' : Nat), (binOp .eql 30 (.slice a n c) (.slice none n' c')).run Try.prog w = .ok (.bool a.isNone) w := fun w a n c n' c' => Lib.run_eql_slice_nil w _ _ a n c n' c' tT
  have A : Aside (∀ j u, news[j]? = some u → w.cell? (ad.add j) = some u) := hc
  clear hc
  go_enter Try.func34, Try.ntmps34
  go_wp2_with (at_builtin; refine wpList_append_own _ rfl _ _ 30 rfl w.heap.size 2 i0 z 1 8 tT hi hz0 hz1 hz2 hzs (by decide) _ _ _ rfl (World.ownsRow_made w #[] 0 (Nat.le_refl _) (Nat.zero_le _) (by simp)) ad n c news rfl ?qc1 ?qc2 ?qc3 ?qc4 ?qc5 ?qc6 ?_)
  case qc1 => exact hl
  case qc2 =>
    intro j u hj
    exact Lib.cell?_alloc_some _ (A.out j u hj)
  case qc3 => exact h1
  case qc4 => rw [Nat.zero_add]; exact hn
  case qc5 => rw [Nat.zero_add]; exact hbig
  case qc6 => simp
  intro v' w1 hown hgrow hnil
  go_wp2
  go_ret
  refine ⟨v', rfl, by simpa using hown, ?_, ?_⟩
  · exact hnil
  · exact ((Below.refl _ w).alloc (Nat.le_refl _) _).grown hgrow (by simp) (by intro k hk; simp [Value.ownBlock] at hk; omega)
set_option maxHeartbeats 1000000 in
theorem Try.cloneInt_nil (n c : Nat) (w : World) :
    Calls Try.prog 34 #[.slice none n c] w fun e w' => e = .returned (.slice none 0 0) ∧ w' = w := by
  have tT := Try.underlying30
  have qT : ∀ (w : World) (a : Option Addr) (n c n' c' : Nat), (binOp .eql 30 (.slice a n c) (.slice none n' c')).run Try.prog w = .ok (.bool a.isNone) w := fun w a n c n' c' => Lib.run_eql_slice_nil w _ _ a n c n' c' tT
  go_enter Try.func34, Try.ntmps34
  go_wp2
  go_ret
  exact ⟨rfl, rfl⟩
end Go.Proofs
namespace Go.Abs
variable {α : Type}
@[push_cast] theorem cloneT_map (c : α → List AV) (l : List α) (fl : Bool) (sz bytes : Nat) (σ : Store) : cloneT sz bytes [.sl fl sz (List.map c l)] σ = iteO (fits l.length bytes) (some (.rs σ.length 0, σ ++ [.row sz 0 (List.map c l)])) none := by
 simp [cloneT]
@[push_cast] theorem cloneT_nil (fl : Bool) (s sz bytes : Nat) (σ : Store) : cloneT sz bytes [.sl fl s []] σ = some (.rs σ.length 0, σ ++ [.row sz 0 []]) := by
 simp [cloneT, fits, roomMax, iteO]
@[push_cast] theorem grown_map (σ : Store) (size : Nat) (es : List (List AV)) (c : α → List AV) (l : List α) : grown σ size es (List.map c l) = iteO l.isEmpty (some (.sl true size es, σ)) (some (.rs σ.length 0, σ ++ [.row size 0 (es ++ List.map c l)])) := by
 cases l <;> rfl
end Go.Abs
namespace Go.Abs.Try
noncomputable def te51 : TE Proofs.Try.prog := ⟨51, sortT, false, fun args σ v σ' hr => sort_ok Proofs.Try.func51 (c := Proofs.Try.f51.body.get rfl) rfl (by decide) (Proofs.AnyG.slices_Sort_int_none Proofs.Try.laySort) (Proofs.AnyG.slices_Sort_int Proofs.Try.laySort) args σ v σ' hr, fun h => by cases h⟩
noncomputable def te52 : TE Proofs.Try.prog := ⟨52, compT, false, fun args σ v σ' hr => comp_ok Proofs.Try.func52 (c := Proofs.Try.f52.body.get rfl) rfl (by decide) (Proofs.AnyG.slices_Compact_int_empty Proofs.Try.layCompact) (Proofs.AnyG.slices_Compact_int Proofs.Try.layCompact) args σ v σ' hr, fun h => by cases h⟩
noncomputable def te49 : TE Proofs.Try.prog := ⟨49, delT, false, fun args σ v σ' hr => del_ok Proofs.Try.func49 (c := Proofs.Try.f49.body.get rfl) rfl (by decide) (Proofs.AnyG.slices_Delete_int Proofs.Try.layDelete) args σ v σ' hr, fun h => by cases h⟩
def te34 : TE Proofs.Try.prog := ⟨34, cloneT 1 8, false, fun args σ v σ' hr => clone_ok Proofs.Try.func34 (c := Proofs.Try.f34.body.get rfl) rfl (by decide) (by decide) Proofs.Try.cloneInt_nil Proofs.Try.cloneInt args σ v σ' hr, fun h => by cases h⟩
end Go.Abs.Try
