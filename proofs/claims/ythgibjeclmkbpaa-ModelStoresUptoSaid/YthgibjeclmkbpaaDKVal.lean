import Derived.Test.YthgibjeclmkbpaaDV0
import Derived.Test.YthgibjeclmkbpaaDV1
import Derived.Test.YthgibjeclmkbpaaDV2
import Derived.Test.YthgibjeclmkbpaaDV3
set_option linter.unusedSimpArgs false
set_option linter.unusedVariables false
namespace Go.Abs.Try
open Go.RowKit
set_option maxRecDepth 100000
set_option maxHeartbeats 40000000
theorem k35 : TOk Proofs.Try.prog 35 t35 := TL_ok ar35.wk fun x v h =>
   pure_ofT (l := [TE.plain 23 (t23) k23]) (s := [se39]) tys_ok eqts_ok follows Proofs.Try.func35 (c := Proofs.Try.f35.body.get rfl) rfl (by decide) (by kernel_rfl)  (H := H35) (N := 0) (shp := sh35)
     ((ev35 (by omega) rfl rfl rfl rfl (fun _ _ => rfl) (fun _ => rfl) x).trans h) (ar35.da x)
theorem k36 : ∀ (N : Nat), N ≤ 4611686018427387904 → TOk Proofs.Try.prog 36 (t36 N)
 | 0, _ => TL_ok ar36.wk fun x v h => by have h : none = some v := h; cases h
 | N + 1, hN => TL_ok ar36.wk fun x v h =>
   pure_ofT (l := [TE.plain 36 (t36 N) (k36 N (by omega))]) (s := []) tys_ok eqts_ok follows Proofs.Try.func36 (c := Proofs.Try.f36.body.get rfl) rfl (by decide) (by kernel_rfl)  (H := H36) (N := N) (shp := sh36)
     ((ev36 (by omega) (F38 N) rfl rfl rfl rfl (fun _ _ => rfl) x).trans h) (ar36.da x)
theorem k19 (N : Nat) (hN : N ≤ 4611686018427387904) : TOk Proofs.Try.prog 19 (t19 N) := TL_ok ar19.wk fun x v h =>
   pure_ofT (l := [TE.plain 35 (t35) k35, TE.plain 36 (t36 N) (k36 N (by omega))]) (s := []) tys_ok eqts_ok follows Proofs.Try.func19 (c := Proofs.Try.f19.body.get rfl) rfl (by decide) (by kernel_rfl)  (H := H19) (N := N) (shp := sh19)
     ((ev19 (by omega) rfl rfl rfl rfl (fun _ _ => rfl) (fun _ _ => rfl) x).trans h) (ar19.da x)
theorem k58 : TOk Proofs.Try.prog 58 t58 := TL_ok ar58.wk fun x v h =>
   pure_ofT (l := []) (s := []) tys_ok eqts_ok follows Proofs.Try.func58 (c := Proofs.Try.f58.body.get rfl) rfl (by decide) (by kernel_rfl)  (H := H58) (N := 0) (shp := sh58)
     ((ev58 (by omega) rfl rfl rfl rfl  x).trans h) (ar58.da x)
theorem k59 : TOk Proofs.Try.prog 59 t59 := TL_ok ar59.wk fun x v h =>
   pure_ofT (l := []) (s := []) tys_ok eqts_ok follows Proofs.Try.func59 (c := Proofs.Try.f59.body.get rfl) rfl (by decide) (by kernel_rfl)  (H := H59) (N := 0) (shp := sh59)
     ((ev59 (by omega) rfl rfl rfl rfl  x).trans h) (ar59.da x)
theorem k41 (N : Nat) (hN : N ≤ 4611686018427387904) : TOk Proofs.Try.prog 41 (t41 N) := TL_ok ar41.wk fun x v h =>
   pure_ofT (l := [TE.plain 58 (t58) k58, TE.plain 59 (t59) k59]) (s := []) tys_ok eqts_ok follows Proofs.Try.func41 (c := Proofs.Try.f41.body.get rfl) rfl (by decide) (by kernel_rfl)  (H := H41) (N := N) (shp := sh41)
     ((ev41 (by omega) rfl rfl rfl rfl (fun _ _ => rfl) (fun _ _ => rfl) x).trans h) (ar41.da x)
theorem k37 (N : Nat) (hN : N ≤ 4611686018427387904) : TOk Proofs.Try.prog 37 (t37 N) := TL_ok ar37.wk fun x v h =>
   pure_ofT (l := [TE.plain 41 (t41 N) (k41 N (by omega))]) (s := []) tys_ok eqts_ok follows Proofs.Try.func37 (c := Proofs.Try.f37.body.get rfl) rfl (by decide) (by kernel_rfl)  (H := H37) (N := N) (shp := sh37)
     ((ev37 (by omega) rfl rfl rfl rfl (fun _ _ => rfl) x).trans h) (ar37.da x)
theorem k22 (N : Nat) (hN : N ≤ 4611686018427387904) : TOk Proofs.Try.prog 22 (t22 N) := TL_ok ar22.wk fun x v h =>
   pure_ofT (l := []) (s := []) tys_ok eqts_ok follows Proofs.Try.func22 (c := Proofs.Try.f22.body.get rfl) rfl (by decide) (by kernel_rfl)  (H := H22) (N := N) (shp := sh22)
     ((ev22 (by omega) rfl rfl rfl rfl  x).trans h) (ar22.da x)
theorem k55 : TOk Proofs.Try.prog 55 t55 := TL_ok ar55.wk fun x v h =>
   pure_ofT (l := []) (s := []) tys_ok eqts_ok follows Proofs.Try.func55 (c := Proofs.Try.f55.body.get rfl) rfl (by decide) (by kernel_rfl)  (H := H55) (N := 0) (shp := sh55)
     ((ev55 (by omega) rfl rfl rfl rfl  x).trans h) (ar55.da x)
theorem k56 (N : Nat) (hN : N ≤ 4611686018427387904) : TOk Proofs.Try.prog 56 (t56 N) := TL_ok ar56.wk fun x v h =>
   pure_ofT (l := []) (s := []) tys_ok eqts_ok follows Proofs.Try.func56 (c := Proofs.Try.f56.body.get rfl) rfl (by decide) (by kernel_rfl)  (H := H56) (N := N) (shp := sh56)
     ((ev56 (by omega) rfl rfl rfl rfl  x.1 x.2).trans h) (ar56.da x)
theorem k38 (N : Nat) (hN : N ≤ 4611686018427387904) : TOk Proofs.Try.prog 38 (t38 N) := TL_ok ar38.wk fun x v h =>
   pure_ofT (l := [TE.plain 22 (t22 N) (k22 N (by omega)), TE.plain 55 (t55) k55, TE.lent 56 (t56 N) (k56 N (by omega)), TE.inl tys eqts [] [] tys_ok eqts_ok follows 57 Proofs.Try.f57 Proofs.Try.func57 (c := Proofs.Try.f57.body.get rfl) rfl (by decide) (by kernel_rfl) H57 N]) (s := []) tys_ok eqts_ok follows Proofs.Try.func38 (c := Proofs.Try.f38.body.get rfl) rfl (by decide) (by kernel_rfl)  (H := H38) (N := N) (shp := sh38)
     ((ev38 (E57 := fun n0 => mkT Proofs.Try.prog n0 tys eqts [] []) (by omega) rfl rfl rfl rfl (fun _ _ => rfl) (fun _ _ => rfl) (fun _ _ => rfl) (fun _ _ => rfl) (fun _ => rfl) (fun _ => rfl) (fun _ => rfl) (fun _ => rfl) x).trans h) (ar38.da x)
theorem k20 (N : Nat) (hN : N ≤ 4611686018427387904) : TOk Proofs.Try.prog 20 (t20 N) := TL_ok ar20.wk fun x v h =>
   pure_ofT (l := [TE.plain 23 (t23) k23, TE.plain 37 (t37 N) (k37 N (by omega)), TE.plain 38 (t38 N) (k38 N (by omega))]) (s := [se39]) tys_ok eqts_ok follows Proofs.Try.func20 (c := Proofs.Try.f20.body.get rfl) rfl (by decide) (by kernel_rfl)  (H := H20) (N := N) (shp := sh20)
     ((ev20 (by omega) rfl rfl rfl rfl (fun _ _ => rfl) (fun _ _ => rfl) (fun _ _ => rfl) (fun _ => rfl) x).trans h) (ar20.da x)
theorem k21 : TOk Proofs.Try.prog 21 t21 := TL_ok ar21.wk fun x v h =>
   pure_ofT (l := [TE.plain 23 (t23) k23]) (s := [se39]) tys_ok eqts_ok follows Proofs.Try.func21 (c := Proofs.Try.f21.body.get rfl) rfl (by decide) (by kernel_rfl)  (H := H21) (N := 0) (shp := sh21)
     ((ev21 (by omega) rfl rfl rfl rfl (fun _ _ => rfl) (fun _ => rfl) x).trans h) (ar21.da x)
theorem k14 (N : Nat) (hN : N ≤ 4611686018427387904) : TOk Proofs.Try.prog 14 (t14 N) := TL_ok ar14.wk fun x v h =>
   pure_ofT (l := [TE.plain 19 (t19 N) (k19 N (by omega)), TE.plain 20 (t20 N) (k20 N (by omega)), TE.plain 21 (t21) k21, TE.plain 22 (t22 N) (k22 N (by omega))]) (s := []) tys_ok eqts_ok follows Proofs.Try.func14 (c := Proofs.Try.f14.body.get rfl) rfl (by decide) (by kernel_rfl)  (H := H14) (N := N) (shp := sh14)
     ((ev14 (by omega) rfl rfl rfl rfl (fun _ _ => rfl) (fun _ _ => rfl) (fun _ _ => rfl) (fun _ _ => rfl) x.1 x.2).trans h) (ar14.da x)
theorem k15 : TOk Proofs.Try.prog 15 t15 := TL_ok ar15.wk fun x v h =>
   pure_ofT (l := [TE.plain 23 (t23) k23]) (s := [se39]) tys_ok eqts_ok follows Proofs.Try.func15 (c := Proofs.Try.f15.body.get rfl) rfl (by decide) (by kernel_rfl)  (H := H15) (N := 0) (shp := sh15)
     ((ev15 (by omega) rfl rfl rfl rfl (fun _ _ => rfl) (fun _ => rfl) x).trans h) (ar15.da x)
theorem k60 (N : Nat) (hN : N ≤ 4611686018427387904) : TOk Proofs.Try.prog 60 (t60 N) := TL_ok ar60.wk fun x v h =>
   pure_ofT (l := []) (s := []) tys_ok eqts_ok follows Proofs.Try.func60 (c := Proofs.Try.f60.body.get rfl) rfl (by decide) (by kernel_rfl)  (H := H60) (N := N) (shp := sh60)
     ((ev60 (by omega) rfl rfl rfl rfl  x).trans h) (ar60.da x)
theorem k42 (N : Nat) (hN : N ≤ 4611686018427387904) : TOk Proofs.Try.prog 42 (t42 N) := TL_ok ar42.wk fun x v h =>
   pure_ofT (l := [TE.plain 60 (t60 N) (k60 N (by omega))]) (s := []) tys_ok eqts_ok follows Proofs.Try.func42 (c := Proofs.Try.f42.body.get rfl) rfl (by decide) (by kernel_rfl)  (H := H42) (N := N) (shp := sh42)
     ((ev42 (by omega) rfl rfl rfl rfl (fun _ _ => rfl) x).trans h) (ar42.da x)
theorem k44 (N : Nat) (hN : N ≤ 4611686018427387904) : TOk Proofs.Try.prog 44 (t44 N) := TL_ok ar44.wk fun x v h =>
   pure_ofT (l := [TE.plain 42 (t42 N) (k42 N (by omega))]) (s := []) tys_ok eqts_ok follows Proofs.Try.func44 (c := Proofs.Try.f44.body.get rfl) rfl (by decide) (by kernel_rfl)  (H := H44) (N := N) (shp := sh44)
     ((ev44 (by omega) rfl rfl rfl rfl (fun _ _ => rfl) x).trans h) (ar44.da x)
theorem k24 (N : Nat) (hN : N ≤ 4611686018427387904) : TOk Proofs.Try.prog 24 (t24 N) := TL_ok ar24.wk fun x v h =>
   pure_ofT (l := [TE.plain 41 (t41 N) (k41 N (by omega)), TE.plain 42 (t42 N) (k42 N (by omega)), TE.inl tys eqts [TE.inl tys eqts [TE.plain 44 (t44 N) (k44 N (by omega))] [] tys_ok eqts_ok follows 61 Proofs.Try.f61 Proofs.Try.func61 (c := Proofs.Try.f61.body.get rfl) rfl (by decide) (by kernel_rfl) H61 N] [] tys_ok eqts_ok follows 43 Proofs.Try.f43 Proofs.Try.func43 (c := Proofs.Try.f43.body.get rfl) rfl (by decide) (by kernel_rfl) H43 N]) (s := []) tys_ok eqts_ok follows Proofs.Try.func24 (c := Proofs.Try.f24.body.get rfl) rfl (by decide) (by kernel_rfl)  (H := H24) (N := N) (shp := sh24)
     ((ev24 (E43 := fun n0 => mkT Proofs.Try.prog n0 tys eqts [TE.inl tys eqts [TE.plain 44 (t44 N) (k44 N (by omega))] [] tys_ok eqts_ok follows 61 Proofs.Try.f61 Proofs.Try.func61 (c := Proofs.Try.f61.body.get rfl) rfl (by decide) (by kernel_rfl) H61 N] []) (E61 := fun n0 => mkT Proofs.Try.prog n0 tys eqts [TE.plain 44 (t44 N) (k44 N (by omega))] []) (by omega) rfl rfl rfl rfl (fun _ _ => rfl) (fun _ _ => rfl) (fun _ _ => rfl) (fun _ => rfl) (fun _ => rfl) (fun _ => rfl) (fun _ => rfl) (fun _ _ _ => rfl) (fun _ => rfl) (fun _ => rfl) (fun _ => rfl) (fun _ => rfl) (fun _ _ _ => rfl) x).trans h) (ar24.da x)
theorem k62 (N : Nat) (hN : N ≤ 4611686018427387904) : TOk Proofs.Try.prog 62 (t62 N) := TL_ok ar62.wk fun x v h =>
   pure_ofT (l := []) (s := []) tys_ok eqts_ok follows Proofs.Try.func62 (c := Proofs.Try.f62.body.get rfl) rfl (by decide) (by kernel_rfl)  (H := H62) (N := N) (shp := sh62)
     ((ev62 (by omega) rfl rfl rfl rfl  x.1 x.2).trans h) (ar62.da x)
theorem k46 (N : Nat) (hN : N ≤ 4611686018427387904) : TOk Proofs.Try.prog 46 (t46 N) := TL_ok ar46.wk fun x v h =>
   pure_ofT (l := [TE.plain 62 (t62 N) (k62 N (by omega))]) (s := []) tys_ok eqts_ok follows Proofs.Try.func46 (c := Proofs.Try.f46.body.get rfl) rfl (by decide) (by kernel_rfl)  (H := H46) (N := N) (shp := sh46)
     ((ev46 (by omega) rfl rfl rfl rfl (fun _ _ => rfl) x.1 x.2).trans h) (ar46.da x)
theorem k25 (N : Nat) (hN : N ≤ 4611686018427387904) : TOk Proofs.Try.prog 25 (t25 N) := TL_ok ar25.wk fun x v h =>
   pure_ofT (l := [TE.inl tys eqts [TE.plain 46 (t46 N) (k46 N (by omega))] [] tys_ok eqts_ok follows 45 Proofs.Try.f45 Proofs.Try.func45 (c := Proofs.Try.f45.body.get rfl) rfl (by decide) (by kernel_rfl) H45 N]) (s := []) tys_ok eqts_ok follows Proofs.Try.func25 (c := Proofs.Try.f25.body.get rfl) rfl (by decide) (by kernel_rfl)  (H := H25) (N := N) (shp := sh25)
     ((ev25 (E45 := fun n0 => mkT Proofs.Try.prog n0 tys eqts [TE.plain 46 (t46 N) (k46 N (by omega))] []) (by omega) rfl rfl rfl rfl (fun _ _ => rfl) (fun _ => rfl) (fun _ => rfl) (fun _ => rfl) (fun _ => rfl) (fun _ _ _ => rfl) x.1 x.2).trans h) (ar25.da x)
end Go.Abs.Try
