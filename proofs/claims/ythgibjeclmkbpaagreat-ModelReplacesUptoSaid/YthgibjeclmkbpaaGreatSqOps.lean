import Derived.Test.YthgibjeclmkbpaaGreatSqPre2
import Derived.Test.YthgibjeclmkbpaaGreatRowOp
import Derived.Test.YthgibjeclmkbpaaGreatCl
import Derived.Shelf.SlGeneric
import Derived.Ground.SlgnProg
import Derived.WalkKit
import Derived.Laws.AppendOwn
import Derived.Lib.Walk
import Derived.Lib.SliceRun
import Derived.Deep.LoopGhost
import Derived.Shelf.SortG.Plain
import Derived.Shelf.SortG.SortNone
import Derived.Shelf.SlicesG.CompactI
import Derived.Shelf.SlicesG.Delete
set_option linter.unusedSimpArgs false
set_option linter.unusedVariables false
namespace Go.Proofs
open Go.RowKit Go.Lib Go.Shelf
def Tryz.laySort_ren : Go.Shelf.Ren := ⟨fun | 53 => 99 | 64 => 122 | 63 => 121 | 78 => 137 | 79 => 138 | 70 => 129 | 71 => 130 | 72 => 131 | 73 => 132 | 74 => 133 | 75 => 134 | 59 => 117 | 76 => 135 | 77 => 136 | 88 => 140 | 89 => 141 | 90 => 142 | 91 => 143 | 92 => 144 | 68 => 127 | 96 => 145 | n => n,fun | 22 => 30 | 23 => 2 | 3 => 3 | 51 => 121 | 0 => 0 | 67 => 137 | 69 => 139 | 4 => 4 | 61 => 131 | 60 => 130 | 44 => 104 | 5 => 5 | 9 => 9 | 75 => 140 | 79 => 144 | 83 => 146 | 84 => 147 | n => n,fun | n => n⟩
theorem Tryz.laySort : Go.Proofs.SlLaysN.n53 Tryz.prog Tryz.laySort_ren where
 mixed := by kernel_rfl
 f53 := ⟨Tryz.f99.name,by decide,Tryz.func99.trans (congrArg some (by kernel_rfl))⟩
 f59 := ⟨Tryz.f117.name,by decide,Tryz.func117.trans (congrArg some (by kernel_rfl))⟩
 f63 := ⟨Tryz.f121.name,by decide,Tryz.func121.trans (congrArg some (by kernel_rfl))⟩
 f64 := Tryz.func122.trans (congrArg some (by kernel_rfl))
 f68 := ⟨Tryz.f127.name,by decide,Tryz.func127.trans (congrArg some (by kernel_rfl))⟩
 f70 := ⟨Tryz.f129.name,by decide,Tryz.func129.trans (congrArg some (by kernel_rfl))⟩
 f71 := ⟨Tryz.f130.name,by decide,Tryz.func130.trans (congrArg some (by kernel_rfl))⟩
 f72 := ⟨Tryz.f131.name,by decide,Tryz.func131.trans (congrArg some (by kernel_rfl))⟩
 f73 := ⟨Tryz.f132.name,by decide,Tryz.func132.trans (congrArg some (by kernel_rfl))⟩
 f74 := ⟨Tryz.f133.name,by decide,Tryz.func133.trans (congrArg some (by kernel_rfl))⟩
 f75 := ⟨Tryz.f134.name,by decide,Tryz.func134.trans (congrArg some (by kernel_rfl))⟩
 f76 := ⟨Tryz.f135.name,by decide,Tryz.func135.trans (congrArg some (by kernel_rfl))⟩
 f77 := ⟨Tryz.f136.name,by decide,Tryz.func136.trans (congrArg some (by kernel_rfl))⟩
 f78 := Tryz.func137.trans (congrArg some (by kernel_rfl))
 f79 := Tryz.func138.trans (congrArg some (by kernel_rfl))
 f88 := ⟨Tryz.f140.name,by decide,Tryz.func140.trans (congrArg some (by kernel_rfl))⟩
 f89 := Tryz.func141.trans (congrArg some (by kernel_rfl))
 f90 := Tryz.func142.trans (congrArg some (by kernel_rfl))
 f91 := ⟨Tryz.f143.name,by decide,Tryz.func143.trans (congrArg some (by kernel_rfl))⟩
 f92 := ⟨Tryz.f144.name,by decide,Tryz.func144.trans (congrArg some (by kernel_rfl))⟩
 f96 := ⟨Tryz.f145.name,by decide,Tryz.func145.trans (congrArg some (by kernel_rfl))⟩
 t0 := Tryz.underlying0
 a0 := Tryz.isAgg0
 z0 := Tryz.sizeOf0
 v0 := Tryz.zeroValue0
 t3 := Tryz.underlying3
 a3 := Tryz.isAgg3
 z3 := Tryz.sizeOf3
 v3 := Tryz.zeroValue3
 t4 := Tryz.underlying4
 a4 := Tryz.isAgg4
 z4 := Tryz.sizeOf4
 v4 := Tryz.zeroValue4
 t5 := Tryz.underlying5
 a5 := Tryz.isAgg5
 z5 := Tryz.sizeOf5
 v5 := Tryz.zeroValue5
 t9 := Tryz.underlying9
 a9 := Tryz.isAgg9
 z9 := Tryz.sizeOf9
 v9 := Tryz.zeroValue9
 t22 := Tryz.underlying30
 a22 := Tryz.isAgg30
 z22 := Tryz.sizeOf30
 v22 := Tryz.zeroValue30
 t23 := Tryz.underlying2
 a23 := Tryz.isAgg2
 z23 := Tryz.sizeOf2
 v23 := Tryz.zeroValue2
 t44 := Tryz.underlying104
 a44 := Tryz.isAgg104
 z44 := Tryz.sizeOf104
 v44 := Tryz.zeroValue104
 t51 := Tryz.underlying121
 a51 := Tryz.isAgg121
 z51 := Tryz.sizeOf121
 v51 := Tryz.zeroValue121
 t60 := Tryz.underlying130
 a60 := Tryz.isAgg130
 z60 := Tryz.sizeOf130
 v60 := Tryz.zeroValue130
 t61 := Tryz.underlying131
 a61 := Tryz.isAgg131
 z61 := Tryz.sizeOf131
 v61 := Tryz.zeroValue131
 t67 := Tryz.underlying137
 a67 := Tryz.isAgg137
 z67 := Tryz.sizeOf137
 v67 := Tryz.zeroValue137
 t69 := Tryz.underlying139
 a69 := Tryz.isAgg139
 z69 := Tryz.sizeOf139
 v69 := Tryz.zeroValue139
 t75 := Tryz.underlying140
 a75 := Tryz.isAgg140
 z75 := Tryz.sizeOf140
 v75 := Tryz.zeroValue140
 t79 := Tryz.underlying144
 a79 := Tryz.isAgg144
 z79 := Tryz.sizeOf144
 v79 := Tryz.zeroValue144
 t83 := Tryz.underlying146
 a83 := Tryz.isAgg146
 z83 := Tryz.sizeOf146
 v83 := Tryz.zeroValue146
 t84 := Tryz.underlying147
 a84 := Tryz.isAgg147
 z84 := Tryz.sizeOf147
 v84 := Tryz.zeroValue147
def Tryz.layCompact_ren : Go.Shelf.Ren := ⟨fun | 43 => 100 | n => n,fun | 22 => 30 | 23 => 2 | 3 => 3 | 4 => 4 | 0 => 0 | n => n,fun | n => n⟩
theorem Tryz.layCompact : Go.Proofs.SlLaysN.n43 Tryz.prog Tryz.layCompact_ren where
 mixed := by kernel_rfl
 f43 := ⟨Tryz.f100.name,by decide,Tryz.func100.trans (congrArg some (by kernel_rfl))⟩
 t0 := Tryz.underlying0
 a0 := Tryz.isAgg0
 z0 := Tryz.sizeOf0
 v0 := Tryz.zeroValue0
 t3 := Tryz.underlying3
 a3 := Tryz.isAgg3
 z3 := Tryz.sizeOf3
 v3 := Tryz.zeroValue3
 t4 := Tryz.underlying4
 a4 := Tryz.isAgg4
 z4 := Tryz.sizeOf4
 v4 := Tryz.zeroValue4
 t22 := Tryz.underlying30
 a22 := Tryz.isAgg30
 z22 := Tryz.sizeOf30
 v22 := Tryz.zeroValue30
 t23 := Tryz.underlying2
 a23 := Tryz.isAgg2
 z23 := Tryz.sizeOf2
 v23 := Tryz.zeroValue2
 i23 := by kernel_rfl
def Tryz.layDelete_ren : Go.Shelf.Ren := ⟨fun | 45 => 97 | n => n,fun | 22 => 30 | 23 => 2 | 3 => 3 | 4 => 4 | 0 => 0 | n => n,fun | n => n⟩
theorem Tryz.layDelete : Go.Proofs.SlLaysN.n45 Tryz.prog Tryz.layDelete_ren where
 mixed := by kernel_rfl
 f45 := ⟨Tryz.f97.name,by decide,Tryz.func97.trans (congrArg some (by kernel_rfl))⟩
 t0 := Tryz.underlying0
 a0 := Tryz.isAgg0
 z0 := Tryz.sizeOf0
 v0 := Tryz.zeroValue0
 t3 := Tryz.underlying3
 a3 := Tryz.isAgg3
 z3 := Tryz.sizeOf3
 v3 := Tryz.zeroValue3
 t4 := Tryz.underlying4
 a4 := Tryz.isAgg4
 z4 := Tryz.sizeOf4
 v4 := Tryz.zeroValue4
 t22 := Tryz.underlying30
 a22 := Tryz.isAgg30
 z22 := Tryz.sizeOf30
 v22 := Tryz.zeroValue30
 t23 := Tryz.underlying2
 a23 := Tryz.isAgg2
 z23 := Tryz.sizeOf2
 v23 := Tryz.zeroValue2
 i23 := by kernel_rfl
set_option maxHeartbeats 2000000 in
set_option maxRecDepth 100000 in
theorem Tryz.cloneInt (ad : Addr) (n c : Nat) (news : List Value) (w : World) (hl : news.length = n * 1) (hn : n ≤ maxLen) (hbig : n * 8 ≤ 140737488355328)
    (hc : ∀ j u,news[j]? = some u → w.cell? (ad.add j) = some u) (h1 : ∀ u ∈ news,u.oneCell' = true) :
    Calls Tryz.prog 62 #[.slice (some ad) n c] w fun e w' => ∃ v',e = .returned v' ∧ w'.ownsRow w.heap.size 2 1 v' n news ∧ v' ≠ .slice none 0 0 ∧ Below w.heap.size w w' := by
  obtain ⟨i0,z,hi,hz1,hz2,hz0,hzs⟩ : ∃ i0 z,Tryz.prog.info? 2 = some i0 ∧ i0.size = 1 ∧ i0.bytes = 8 ∧ i0.zero = some z ∧ z.cells.size = 1 := ⟨_,_,rfl,rfl,rfl,rfl,rfl⟩
  have tT := Tryz.underlying30
  have qT : ∀ (w : World) (a : Option Addr) (n c n' c' : Nat),(binOp .eql 30 (.slice a n c) (.slice none n' c')).run Tryz.prog w = .ok (.bool a.isNone) w := fun w a n c n' c' => Lib.run_eql_slice_nil w _ _ a n c n' c' tT
  have A : Aside (∀ j u,news[j]? = some u → w.cell? (ad.add j) = some u) := hc
  clear hc
  go_enter Tryz.func62,Tryz.ntmps62
  go_wp2_with (at_builtin; refine wpList_append_own _ rfl _ _ 30 rfl w.heap.size 2 i0 z 1 8 tT hi hz0 hz1 hz2 hzs (by decide) _ _ _ rfl (World.ownsRow_made w #[] 0 (Nat.le_refl _) (Nat.zero_le _) (by simp)) ad n c news rfl ?qc1 ?qc2 ?qc3 ?qc4 ?qc5 ?qc6 ?_)
  case qc1 => exact hl
  case qc2 =>
    intro j u hj
    exact Lib.cell?_alloc_some _ (A.out j u hj)
  case qc3 => exact h1
  case qc4 => rw [Nat.zero_add]; exact hn
  case qc5 => rw [Nat.zero_add]; exact hbig
  case qc6 => simp
  intro v' w1 hown hgrow hnil
  go_wp2
  go_ret
  refine ⟨v',rfl,by simpa using hown, ?_, ?_⟩
  · exact hnil
  · exact ((Below.refl _ w).alloc (Nat.le_refl _) _).grown hgrow (by simp) (by intro k hk; simp [Value.ownBlock] at hk; omega)
set_option maxHeartbeats 1000000 in
theorem Tryz.cloneInt_nil (n c : Nat) (w : World) :
    Calls Tryz.prog 62 #[.slice none n c] w fun e w' => e = .returned (.slice none 0 0) ∧ w' = w := by
  have tT := Tryz.underlying30
  have qT : ∀ (w : World) (a : Option Addr) (n c n' c' : Nat),(binOp .eql 30 (.slice a n c) (.slice none n' c')).run Tryz.prog w = .ok (.bool a.isNone) w := fun w a n c n' c' => Lib.run_eql_slice_nil w _ _ a n c n' c' tT
  go_enter Tryz.func62,Tryz.ntmps62
  go_wp2
  go_ret
  exact ⟨rfl,rfl⟩
end Go.Proofs
namespace Go.Abs
variable {α : Type}
@[push_cast] theorem cloneT_map (c : α → List AV) (l : List α) (fl : Bool) (sz bytes : Nat) (σ : Store) : cloneT sz bytes [.sl fl sz (List.map c l)] σ = iteO (fits l.length bytes) (some (.rs σ.length 0,σ ++ [.row sz 0 (List.map c l)])) none := by
 simp [cloneT]
@[push_cast] theorem cloneT_nil (fl : Bool) (s sz bytes : Nat) (σ : Store) : cloneT sz bytes [.sl fl s []] σ = some (.rs σ.length 0,σ ++ [.row sz 0 []]) := by
 simp [cloneT,fits,roomMax,iteO]
@[push_cast] theorem grown_map (σ : Store) (size : Nat) (es : List (List AV)) (c : α → List AV) (l : List α) : grown σ size es (List.map c l) = iteO l.isEmpty (some (.sl true size es,σ)) (some (.rs σ.length 0,σ ++ [.row size 0 (es ++ List.map c l)])) := by
 cases l <;> rfl
end Go.Abs
namespace Go.Abs.Try
noncomputable def te99 : TE Proofs.Tryz.prog := ⟨99,sortT,false,fun args σ v σ' hr => sort_ok Proofs.Tryz.func99 (c := Proofs.Tryz.f99.body.get rfl) rfl (by decide) (Proofs.AnyG.slices_Sort_int_none Proofs.Tryz.laySort) (Proofs.AnyG.slices_Sort_int Proofs.Tryz.laySort) args σ v σ' hr,fun h => by cases h⟩
noncomputable def te100 : TE Proofs.Tryz.prog := ⟨100,compT,false,fun args σ v σ' hr => comp_ok Proofs.Tryz.func100 (c := Proofs.Tryz.f100.body.get rfl) rfl (by decide) (Proofs.AnyG.slices_Compact_int_empty Proofs.Tryz.layCompact) (Proofs.AnyG.slices_Compact_int Proofs.Tryz.layCompact) args σ v σ' hr,fun h => by cases h⟩
noncomputable def te97 : TE Proofs.Tryz.prog := ⟨97,delT,false,fun args σ v σ' hr => del_ok Proofs.Tryz.func97 (c := Proofs.Tryz.f97.body.get rfl) rfl (by decide) (Proofs.AnyG.slices_Delete_int Proofs.Tryz.layDelete) args σ v σ' hr,fun h => by cases h⟩
def te62 : TE Proofs.Tryz.prog := ⟨62,cloneT 1 8,false,fun args σ v σ' hr => clone_ok Proofs.Tryz.func62 (c := Proofs.Tryz.f62.body.get rfl) rfl (by decide) (by decide) Proofs.Tryz.cloneInt_nil Proofs.Tryz.cloneInt args σ v σ' hr,fun h => by cases h⟩
end Go.Abs.Try
