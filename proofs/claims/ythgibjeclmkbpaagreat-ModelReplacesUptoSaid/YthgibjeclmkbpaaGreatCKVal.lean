import Derived.Test.YthgibjeclmkbpaaGreatCV0
import Derived.Test.YthgibjeclmkbpaaGreatCV1
import Derived.Test.YthgibjeclmkbpaaGreatCV2
import Derived.Test.YthgibjeclmkbpaaGreatCV3
import Derived.Test.YthgibjeclmkbpaaGreatCV4
import Derived.Test.YthgibjeclmkbpaaGreatCV5
set_option linter.unusedSimpArgs false
set_option linter.unusedVariables false
namespace Go.Abs.Try
open Go.RowKit
set_option maxRecDepth 100000
set_option maxHeartbeats 40000000
theorem k89 : TOk Proofs.Tryz.prog 89 t89 := TL_ok ar89.wk fun x v h =>
   pure_ofT (l := [TE.plain 70 (t70) k70]) (s := [se93]) tys_ok eqts_ok follows Proofs.Tryz.func89 (c := Proofs.Tryz.f89.body.get rfl) rfl (by decide) (by kernel_rfl)  (H := H89) (N := 0) (shp := sh89)
     ((ev89 (by omega) rfl rfl rfl rfl (fun _ _ => rfl) (fun _ => rfl) x).trans h) (ar89.da x)
theorem k90 : ∀ (N : Nat),N ≤ 4611686018427387904 → TOk Proofs.Tryz.prog 90 (t90 N)
 | 0,_ => TL_ok ar90.wk fun x v h => by have h : none = some v := h; cases h
 | N + 1,hN => TL_ok ar90.wk fun x v h =>
   pure_ofT (l := [TE.plain 90 (t90 N) (k90 N (by omega))]) (s := []) tys_ok eqts_ok follows Proofs.Tryz.func90 (c := Proofs.Tryz.f90.body.get rfl) rfl (by decide) (by kernel_rfl)  (H := H90) (N := N) (shp := sh90)
     ((ev90 (by omega) (F38 N) rfl rfl rfl rfl (fun _ _ => rfl) x).trans h) (ar90.da x)
theorem k66 (N : Nat) (hN : N ≤ 4611686018427387904) : TOk Proofs.Tryz.prog 66 (t66 N) := TL_ok ar66.wk fun x v h =>
   pure_ofT (l := [TE.plain 89 (t89) k89,TE.plain 90 (t90 N) (k90 N (by omega))]) (s := []) tys_ok eqts_ok follows Proofs.Tryz.func66 (c := Proofs.Tryz.f66.body.get rfl) rfl (by decide) (by kernel_rfl)  (H := H66) (N := N) (shp := sh66)
     ((ev66 (by omega) rfl rfl rfl rfl (fun _ _ => rfl) (fun _ _ => rfl) x).trans h) (ar66.da x)
theorem k85 : TOk Proofs.Tryz.prog 85 t85 := TL_ok ar85.wk fun x v h =>
   pure_ofT (l := []) (s := []) tys_ok eqts_ok follows Proofs.Tryz.func85 (c := Proofs.Tryz.f85.body.get rfl) rfl (by decide) (by kernel_rfl)  (H := H85) (N := 0) (shp := sh85)
     ((ev85 (by omega) rfl rfl rfl rfl  x).trans h) (ar85.da x)
theorem k86 : TOk Proofs.Tryz.prog 86 t86 := TL_ok ar86.wk fun x v h =>
   pure_ofT (l := []) (s := []) tys_ok eqts_ok follows Proofs.Tryz.func86 (c := Proofs.Tryz.f86.body.get rfl) rfl (by decide) (by kernel_rfl)  (H := H86) (N := 0) (shp := sh86)
     ((ev86 (by omega) rfl rfl rfl rfl  x).trans h) (ar86.da x)
theorem k59 (N : Nat) (hN : N ≤ 4611686018427387904) : TOk Proofs.Tryz.prog 59 (t59 N) := TL_ok ar59.wk fun x v h =>
   pure_ofT (l := [TE.plain 85 (t85) k85,TE.plain 86 (t86) k86]) (s := []) tys_ok eqts_ok follows Proofs.Tryz.func59 (c := Proofs.Tryz.f59.body.get rfl) rfl (by decide) (by kernel_rfl)  (H := H59) (N := N) (shp := sh59)
     ((ev59 (by omega) rfl rfl rfl rfl (fun _ _ => rfl) (fun _ _ => rfl) x).trans h) (ar59.da x)
theorem k91 (N : Nat) (hN : N ≤ 4611686018427387904) : TOk Proofs.Tryz.prog 91 (t91 N) := TL_ok ar91.wk fun x v h =>
   pure_ofT (l := [TE.plain 59 (t59 N) (k59 N (by omega))]) (s := []) tys_ok eqts_ok follows Proofs.Tryz.func91 (c := Proofs.Tryz.f91.body.get rfl) rfl (by decide) (by kernel_rfl)  (H := H91) (N := N) (shp := sh91)
     ((ev91 (by omega) rfl rfl rfl rfl (fun _ _ => rfl) x).trans h) (ar91.da x)
theorem k69 (N : Nat) (hN : N ≤ 4611686018427387904) : TOk Proofs.Tryz.prog 69 (t69 N) := TL_ok ar69.wk fun x v h =>
   pure_ofT (l := []) (s := []) tys_ok eqts_ok follows Proofs.Tryz.func69 (c := Proofs.Tryz.f69.body.get rfl) rfl (by decide) (by kernel_rfl)  (H := H69) (N := N) (shp := sh69)
     ((ev69 (by omega) rfl rfl rfl rfl  x).trans h) (ar69.da x)
theorem k114 : TOk Proofs.Tryz.prog 114 t114 := TL_ok ar114.wk fun x v h =>
   pure_ofT (l := []) (s := []) tys_ok eqts_ok follows Proofs.Tryz.func114 (c := Proofs.Tryz.f114.body.get rfl) rfl (by decide) (by kernel_rfl)  (H := H114) (N := 0) (shp := sh114)
     ((ev114 (by omega) rfl rfl rfl rfl  x).trans h) (ar114.da x)
theorem k115 (N : Nat) (hN : N ≤ 4611686018427387904) : TOk Proofs.Tryz.prog 115 (t115 N) := TL_ok ar115.wk fun x v h =>
   pure_ofT (l := []) (s := []) tys_ok eqts_ok follows Proofs.Tryz.func115 (c := Proofs.Tryz.f115.body.get rfl) rfl (by decide) (by kernel_rfl)  (H := H115) (N := N) (shp := sh115)
     ((ev115 (by omega) rfl rfl rfl rfl  x.1 x.2).trans h) (ar115.da x)
theorem k92 (N : Nat) (hN : N ≤ 4611686018427387904) : TOk Proofs.Tryz.prog 92 (t92 N) := TL_ok ar92.wk fun x v h =>
   pure_ofT (l := [TE.plain 69 (t69 N) (k69 N (by omega)),TE.plain 114 (t114) k114,TE.lent 115 (t115 N) (k115 N (by omega)),TE.inl tys eqts [] [] tys_ok eqts_ok follows 116 Proofs.Tryz.f116 Proofs.Tryz.func116 (c := Proofs.Tryz.f116.body.get rfl) rfl (by decide) (by kernel_rfl) H116 N]) (s := []) tys_ok eqts_ok follows Proofs.Tryz.func92 (c := Proofs.Tryz.f92.body.get rfl) rfl (by decide) (by kernel_rfl)  (H := H92) (N := N) (shp := sh92)
     ((ev92 (E116 := fun n0 => mkT Proofs.Tryz.prog n0 tys eqts [] []) (by omega) rfl rfl rfl rfl (fun _ _ => rfl) (fun _ _ => rfl) (fun _ _ => rfl) (fun _ _ => rfl) (fun _ => rfl) (fun _ => rfl) (fun _ => rfl) (fun _ => rfl) x).trans h) (ar92.da x)
theorem k67 (N : Nat) (hN : N ≤ 4611686018427387904) : TOk Proofs.Tryz.prog 67 (t67 N) := TL_ok ar67.wk fun x v h =>
   pure_ofT (l := [TE.plain 70 (t70) k70,TE.plain 91 (t91 N) (k91 N (by omega)),TE.plain 92 (t92 N) (k92 N (by omega))]) (s := [se93]) tys_ok eqts_ok follows Proofs.Tryz.func67 (c := Proofs.Tryz.f67.body.get rfl) rfl (by decide) (by kernel_rfl)  (H := H67) (N := N) (shp := sh67)
     ((ev67 (by omega) rfl rfl rfl rfl (fun _ _ => rfl) (fun _ _ => rfl) (fun _ _ => rfl) (fun _ => rfl) x).trans h) (ar67.da x)
theorem k68 : TOk Proofs.Tryz.prog 68 t68 := TL_ok ar68.wk fun x v h =>
   pure_ofT (l := [TE.plain 70 (t70) k70]) (s := [se93]) tys_ok eqts_ok follows Proofs.Tryz.func68 (c := Proofs.Tryz.f68.body.get rfl) rfl (by decide) (by kernel_rfl)  (H := H68) (N := 0) (shp := sh68)
     ((ev68 (by omega) rfl rfl rfl rfl (fun _ _ => rfl) (fun _ => rfl) x).trans h) (ar68.da x)
theorem k50 (N : Nat) (hN : N ≤ 4611686018427387904) : TOk Proofs.Tryz.prog 50 (t50 N) := TL_ok ar50.wk fun x v h =>
   pure_ofT (l := [TE.plain 66 (t66 N) (k66 N (by omega)),TE.plain 67 (t67 N) (k67 N (by omega)),TE.plain 68 (t68) k68,TE.plain 69 (t69 N) (k69 N (by omega))]) (s := []) tys_ok eqts_ok follows Proofs.Tryz.func50 (c := Proofs.Tryz.f50.body.get rfl) rfl (by decide) (by kernel_rfl)  (H := H50) (N := N) (shp := sh50)
     ((ev50 (by omega) rfl rfl rfl rfl (fun _ _ => rfl) (fun _ _ => rfl) (fun _ _ => rfl) (fun _ _ => rfl) x.1 x.2).trans h) (ar50.da x)
theorem k51 : TOk Proofs.Tryz.prog 51 t51 := TL_ok ar51.wk fun x v h =>
   pure_ofT (l := [TE.plain 70 (t70) k70]) (s := [se93]) tys_ok eqts_ok follows Proofs.Tryz.func51 (c := Proofs.Tryz.f51.body.get rfl) rfl (by decide) (by kernel_rfl)  (H := H51) (N := 0) (shp := sh51)
     ((ev51 (by omega) rfl rfl rfl rfl (fun _ _ => rfl) (fun _ => rfl) x).trans h) (ar51.da x)
theorem k47 (N : Nat) (hN : N ≤ 4611686018427387904) : TOk Proofs.Tryz.prog 47 (t47 N) := TL_ok ar47.wk fun x v h =>
   pure_ofT (l := []) (s := []) tys_ok eqts_ok follows Proofs.Tryz.func47 (c := Proofs.Tryz.f47.body.get rfl) rfl (by decide) (by kernel_rfl)  (H := H47) (N := N) (shp := sh47)
     ((ev47 (by omega) rfl rfl rfl rfl  x).trans h) (ar47.da x)
theorem k27 (N : Nat) (hN : N ≤ 4611686018427387904) : TOk Proofs.Tryz.prog 27 (t27 N) := TL_ok ar27.wk fun x v h =>
   pure_ofT (l := [TE.plain 47 (t47 N) (k47 N (by omega))]) (s := []) tys_ok eqts_ok follows Proofs.Tryz.func27 (c := Proofs.Tryz.f27.body.get rfl) rfl (by decide) (by kernel_rfl)  (H := H27) (N := N) (shp := sh27)
     ((ev27 (by omega) rfl rfl rfl rfl (fun _ _ => rfl) x).trans h) (ar27.da x)
theorem k61 (N : Nat) (hN : N ≤ 4611686018427387904) : TOk Proofs.Tryz.prog 61 (t61 N) := TL_ok ar61.wk fun x v h =>
   pure_ofT (l := [TE.plain 27 (t27 N) (k27 N (by omega))]) (s := []) tys_ok eqts_ok follows Proofs.Tryz.func61 (c := Proofs.Tryz.f61.body.get rfl) rfl (by decide) (by kernel_rfl)  (H := H61) (N := N) (shp := sh61)
     ((ev61 (by omega) rfl rfl rfl rfl (fun _ _ => rfl) x).trans h) (ar61.da x)
theorem k38 (N : Nat) (hN : N ≤ 4611686018427387904) : TOk Proofs.Tryz.prog 38 (t38 N) := TL_ok ar38.wk fun x v h =>
   pure_ofT (l := [TE.plain 59 (t59 N) (k59 N (by omega)),TE.plain 27 (t27 N) (k27 N (by omega)),TE.inl tys eqts [TE.inl tys eqts [TE.plain 61 (t61 N) (k61 N (by omega))] [] tys_ok eqts_ok follows 87 Proofs.Tryz.f87 Proofs.Tryz.func87 (c := Proofs.Tryz.f87.body.get rfl) rfl (by decide) (by kernel_rfl) H87 N] [] tys_ok eqts_ok follows 60 Proofs.Tryz.f60 Proofs.Tryz.func60 (c := Proofs.Tryz.f60.body.get rfl) rfl (by decide) (by kernel_rfl) H60 N]) (s := []) tys_ok eqts_ok follows Proofs.Tryz.func38 (c := Proofs.Tryz.f38.body.get rfl) rfl (by decide) (by kernel_rfl)  (H := H38) (N := N) (shp := sh38)
     ((ev38 (E60 := fun n0 => mkT Proofs.Tryz.prog n0 tys eqts [TE.inl tys eqts [TE.plain 61 (t61 N) (k61 N (by omega))] [] tys_ok eqts_ok follows 87 Proofs.Tryz.f87 Proofs.Tryz.func87 (c := Proofs.Tryz.f87.body.get rfl) rfl (by decide) (by kernel_rfl) H87 N] []) (E87 := fun n0 => mkT Proofs.Tryz.prog n0 tys eqts [TE.plain 61 (t61 N) (k61 N (by omega))] []) (by omega) rfl rfl rfl rfl (fun _ _ => rfl) (fun _ _ => rfl) (fun _ _ => rfl) (fun _ => rfl) (fun _ => rfl) (fun _ => rfl) (fun _ => rfl) (fun _ _ _ => rfl) (fun _ => rfl) (fun _ => rfl) (fun _ => rfl) (fun _ => rfl) (fun _ _ _ => rfl) x).trans h) (ar38.da x)
theorem k46 (N : Nat) (hN : N ≤ 4611686018427387904) : TOk Proofs.Tryz.prog 46 (t46 N) := TL_ok ar46.wk fun x v h =>
   pure_ofT (l := []) (s := []) tys_ok eqts_ok follows Proofs.Tryz.func46 (c := Proofs.Tryz.f46.body.get rfl) rfl (by decide) (by kernel_rfl)  (H := H46) (N := N) (shp := sh46)
     ((ev46 (by omega) rfl rfl rfl rfl  x.1 x.2).trans h) (ar46.da x)
theorem k24 (N : Nat) (hN : N ≤ 4611686018427387904) : TOk Proofs.Tryz.prog 24 (t24 N) := TL_ok ar24.wk fun x v h =>
   pure_ofT (l := [TE.plain 46 (t46 N) (k46 N (by omega))]) (s := []) tys_ok eqts_ok follows Proofs.Tryz.func24 (c := Proofs.Tryz.f24.body.get rfl) rfl (by decide) (by kernel_rfl)  (H := H24) (N := N) (shp := sh24)
     ((ev24 (by omega) rfl rfl rfl rfl (fun _ _ => rfl) x.1 x.2).trans h) (ar24.da x)
theorem k41 (N : Nat) (hN : N ≤ 4611686018427387904) : TOk Proofs.Tryz.prog 41 (t41 N) := TL_ok ar41.wk fun x v h =>
   pure_ofT (l := [TE.inl tys eqts [TE.plain 24 (t24 N) (k24 N (by omega))] [] tys_ok eqts_ok follows 63 Proofs.Tryz.f63 Proofs.Tryz.func63 (c := Proofs.Tryz.f63.body.get rfl) rfl (by decide) (by kernel_rfl) H63 N]) (s := []) tys_ok eqts_ok follows Proofs.Tryz.func41 (c := Proofs.Tryz.f41.body.get rfl) rfl (by decide) (by kernel_rfl)  (H := H41) (N := N) (shp := sh41)
     ((ev41 (E63 := fun n0 => mkT Proofs.Tryz.prog n0 tys eqts [TE.plain 24 (t24 N) (k24 N (by omega))] []) (by omega) rfl rfl rfl rfl (fun _ _ => rfl) (fun _ => rfl) (fun _ => rfl) (fun _ => rfl) (fun _ => rfl) (fun _ _ _ => rfl) x.1 x.2).trans h) (ar41.da x)
end Go.Abs.Try
