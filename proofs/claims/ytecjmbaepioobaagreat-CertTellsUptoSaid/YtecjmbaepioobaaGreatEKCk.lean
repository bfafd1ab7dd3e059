import Derived.Test.YtecjmbaepioobaaGreatEV0
import Derived.Test.YtecjmbaepioobaaGreatEV1
import Derived.Test.YtecjmbaepioobaaGreatEV2
import Derived.Test.YtecjmbaepioobaaGreatEV3
import Derived.Test.YtecjmbaepioobaaGreatEV4
import Derived.Test.YtecjmbaepioobaaGreatEV5
import Derived.Test.YtecjmbaepioobaaGreatECmp
set_option linter.unusedSimpArgs false
set_option linter.unusedVariables false
namespace Go.Abs.Try
open Go.RowKit
set_option maxRecDepth 100000
set_option maxHeartbeats 40000000
theorem k58 : TOk Proofs.Tryz.prog 58 t58 := TL_ok ar58.wk fun x v h =>
   pure_ofT (l := [TE.plain 46 (t46) k46]) (s := [se73]) tys_ok eqts_ok follows Proofs.Tryz.func58 (c := Proofs.Tryz.f58.body.get rfl) rfl (by decide) (by kernel_rfl)  (H := H58) (N := 0) (shp := sh58)
     ((ev58 (by omega) rfl rfl rfl rfl (fun _ _ => rfl) (fun _ => rfl) x).trans h) (ar58.da x)
theorem k59 : ∀ (N : Nat), N ≤ 4611686018427387904 → TOk Proofs.Tryz.prog 59 (t59 N)
 | 0, _ => TL_ok ar59.wk fun x v h => by have h : none = some v := h; cases h
 | N + 1, hN => TL_ok ar59.wk fun x v h =>
   pure_ofT (l := [TE.plain 59 (t59 N) (k59 N (by omega))]) (s := []) tys_ok eqts_ok follows Proofs.Tryz.func59 (c := Proofs.Tryz.f59.body.get rfl) rfl (by decide) (by kernel_rfl)  (H := H59) (N := N) (shp := sh59)
     ((ev59 (by omega) (F38 N) rfl rfl rfl rfl (fun _ _ => rfl) x).trans h) (ar59.da x)
theorem k26 (N : Nat) (hN : N ≤ 4611686018427387904) : TOk Proofs.Tryz.prog 26 (t26 N) := TL_ok ar26.wk fun x v h =>
   pure_ofT (l := [TE.plain 58 (t58) k58, TE.plain 59 (t59 N) (k59 N (by omega))]) (s := []) tys_ok eqts_ok follows Proofs.Tryz.func26 (c := Proofs.Tryz.f26.body.get rfl) rfl (by decide) (by kernel_rfl)  (H := H26) (N := N) (shp := sh26)
     ((ev26 (by omega) rfl rfl rfl rfl (fun _ _ => rfl) (fun _ _ => rfl) x).trans h) (ar26.da x)
theorem k127 : TOk Proofs.Tryz.prog 127 t127 := TL_ok ar127.wk fun x v h =>
   pure_ofT (l := []) (s := []) tys_ok eqts_ok follows Proofs.Tryz.func127 (c := Proofs.Tryz.f127.body.get rfl) rfl (by decide) (by kernel_rfl)  (H := H127) (N := 0) (shp := sh127)
     ((ev127 (by omega) rfl rfl rfl rfl  x).trans h) (ar127.da x)
theorem k128 : TOk Proofs.Tryz.prog 128 t128 := TL_ok ar128.wk fun x v h =>
   pure_ofT (l := []) (s := []) tys_ok eqts_ok follows Proofs.Tryz.func128 (c := Proofs.Tryz.f128.body.get rfl) rfl (by decide) (by kernel_rfl)  (H := H128) (N := 0) (shp := sh128)
     ((ev128 (by omega) rfl rfl rfl rfl  x).trans h) (ar128.da x)
theorem k94 (N : Nat) (hN : N ≤ 4611686018427387904) : TOk Proofs.Tryz.prog 94 (t94 N) := TL_ok ar94.wk fun x v h =>
   pure_ofT (l := [TE.plain 127 (t127) k127, TE.plain 128 (t128) k128]) (s := []) tys_ok eqts_ok follows Proofs.Tryz.func94 (c := Proofs.Tryz.f94.body.get rfl) rfl (by decide) (by kernel_rfl)  (H := H94) (N := N) (shp := sh94)
     ((ev94 (by omega) rfl rfl rfl rfl (fun _ _ => rfl) (fun _ _ => rfl) x).trans h) (ar94.da x)
theorem k60 (N : Nat) (hN : N ≤ 4611686018427387904) : TOk Proofs.Tryz.prog 60 (t60 N) := TL_ok ar60.wk fun x v h =>
   pure_ofT (l := [TE.plain 94 (t94 N) (k94 N (by omega))]) (s := []) tys_ok eqts_ok follows Proofs.Tryz.func60 (c := Proofs.Tryz.f60.body.get rfl) rfl (by decide) (by kernel_rfl)  (H := H60) (N := N) (shp := sh60)
     ((ev60 (by omega) rfl rfl rfl rfl (fun _ _ => rfl) x).trans h) (ar60.da x)
theorem k29 (N : Nat) (hN : N ≤ 4611686018427387904) : TOk Proofs.Tryz.prog 29 (t29 N) := TL_ok ar29.wk fun x v h =>
   pure_ofT (l := []) (s := []) tys_ok eqts_ok follows Proofs.Tryz.func29 (c := Proofs.Tryz.f29.body.get rfl) rfl (by decide) (by kernel_rfl)  (H := H29) (N := N) (shp := sh29)
     ((ev29 (by omega) rfl rfl rfl rfl  x).trans h) (ar29.da x)
theorem k95 : TOk Proofs.Tryz.prog 95 t95 := TL_ok ar95.wk fun x v h =>
   pure_ofT (l := []) (s := []) tys_ok eqts_ok follows Proofs.Tryz.func95 (c := Proofs.Tryz.f95.body.get rfl) rfl (by decide) (by kernel_rfl)  (H := H95) (N := 0) (shp := sh95)
     ((ev95 (by omega) rfl rfl rfl rfl  x).trans h) (ar95.da x)
theorem k96 (N : Nat) (hN : N ≤ 4611686018427387904) : TOk Proofs.Tryz.prog 96 (t96 N) := TL_ok ar96.wk fun x v h =>
   pure_ofT (l := []) (s := []) tys_ok eqts_ok follows Proofs.Tryz.func96 (c := Proofs.Tryz.f96.body.get rfl) rfl (by decide) (by kernel_rfl)  (H := H96) (N := N) (shp := sh96)
     ((ev96 (by omega) rfl rfl rfl rfl  x.1 x.2).trans h) (ar96.da x)
theorem k61 (N : Nat) (hN : N ≤ 4611686018427387904) : TOk Proofs.Tryz.prog 61 (t61 N) := TL_ok ar61.wk fun x v h =>
   pure_ofT (l := [TE.plain 29 (t29 N) (k29 N (by omega)), TE.plain 95 (t95) k95, TE.lent 96 (t96 N) (k96 N (by omega)), TE.inl tys eqts [] [] tys_ok eqts_ok follows 97 Proofs.Tryz.f97 Proofs.Tryz.func97 (c := Proofs.Tryz.f97.body.get rfl) rfl (by decide) (by kernel_rfl) H97 N]) (s := []) tys_ok eqts_ok follows Proofs.Tryz.func61 (c := Proofs.Tryz.f61.body.get rfl) rfl (by decide) (by kernel_rfl)  (H := H61) (N := N) (shp := sh61)
     ((ev61 (E97 := fun n0 => mkT Proofs.Tryz.prog n0 tys eqts [] []) (by omega) rfl rfl rfl rfl (fun _ _ => rfl) (fun _ _ => rfl) (fun _ _ => rfl) (fun _ _ => rfl) (fun _ => rfl) (fun _ => rfl) (fun _ => rfl) (fun _ => rfl) x).trans h) (ar61.da x)
theorem k27 (N : Nat) (hN : N ≤ 4611686018427387904) : TOk Proofs.Tryz.prog 27 (t27 N) := TL_ok ar27.wk fun x v h =>
   pure_ofT (l := [TE.plain 46 (t46) k46, TE.plain 60 (t60 N) (k60 N (by omega)), TE.plain 61 (t61 N) (k61 N (by omega))]) (s := [se73]) tys_ok eqts_ok follows Proofs.Tryz.func27 (c := Proofs.Tryz.f27.body.get rfl) rfl (by decide) (by kernel_rfl)  (H := H27) (N := N) (shp := sh27)
     ((ev27 (by omega) rfl rfl rfl rfl (fun _ _ => rfl) (fun _ _ => rfl) (fun _ _ => rfl) (fun _ => rfl) x).trans h) (ar27.da x)
theorem k28 : TOk Proofs.Tryz.prog 28 t28 := TL_ok ar28.wk fun x v h =>
   pure_ofT (l := [TE.plain 46 (t46) k46]) (s := [se73]) tys_ok eqts_ok follows Proofs.Tryz.func28 (c := Proofs.Tryz.f28.body.get rfl) rfl (by decide) (by kernel_rfl)  (H := H28) (N := 0) (shp := sh28)
     ((ev28 (by omega) rfl rfl rfl rfl (fun _ _ => rfl) (fun _ => rfl) x).trans h) (ar28.da x)
theorem k12 (N : Nat) (hN : N ≤ 4611686018427387904) : TOk Proofs.Tryz.prog 12 (t12 N) := TL_ok ar12.wk fun x v h =>
   pure_ofT (l := [TE.plain 26 (t26 N) (k26 N (by omega)), TE.plain 27 (t27 N) (k27 N (by omega)), TE.plain 28 (t28) k28, TE.plain 29 (t29 N) (k29 N (by omega))]) (s := []) tys_ok eqts_ok follows Proofs.Tryz.func12 (c := Proofs.Tryz.f12.body.get rfl) rfl (by decide) (by kernel_rfl)  (H := H12) (N := N) (shp := sh12)
     ((ev12 (by omega) rfl rfl rfl rfl (fun _ _ => rfl) (fun _ _ => rfl) (fun _ _ => rfl) (fun _ _ => rfl) x.1 x.2).trans h) (ar12.da x)
theorem k22 : TOk Proofs.Tryz.prog 22 t22 := TL_ok ar22.wk fun x v h =>
   pure_ofT (l := [TE.plain 46 (t46) k46]) (s := [se73]) tys_ok eqts_ok follows Proofs.Tryz.func22 (c := Proofs.Tryz.f22.body.get rfl) rfl (by decide) (by kernel_rfl)  (H := H22) (N := 0) (shp := sh22)
     ((ev22 (by omega) rfl rfl rfl rfl (fun _ _ => rfl) (fun _ => rfl) x).trans h) (ar22.da x)
theorem k23 : ∀ (N : Nat), N ≤ 4611686018427387904 → TOk Proofs.Tryz.prog 23 (t23 N)
 | 0, _ => TL_ok ar23.wk fun x v h => by have h : none = some v := h; cases h
 | N + 1, hN => TL_ok ar23.wk fun x v h =>
   pure_ofT (l := [TE.plain 23 (t23 N) (k23 N (by omega))]) (s := []) tys_ok eqts_ok follows Proofs.Tryz.func23 (c := Proofs.Tryz.f23.body.get rfl) rfl (by decide) (by kernel_rfl)  (H := H23) (N := N) (shp := sh23)
     ((ev23 (by omega) (F1417 N) rfl rfl rfl rfl (fun _ _ => rfl) x).trans h) (ar23.da x)
theorem k47 : ∀ (N : Nat), N ≤ 4611686018427387904 → TOk Proofs.Tryz.prog 47 (t47 N)
 | 0, _ => TL_ok ar47.wk fun x v h => by have h : none = some v := h; cases h
 | N + 1, hN => TL_ok ar47.wk fun x v h =>
   pure_ofT (l := [TE.plain 47 (t47 N) (k47 N (by omega))]) (s := []) tys_ok eqts_ok follows Proofs.Tryz.func47 (c := Proofs.Tryz.f47.body.get rfl) rfl (by decide) (by kernel_rfl)  (H := H47) (N := N) (shp := sh47)
     ((ev47 (by omega) (F1425 N) rfl rfl rfl rfl (fun _ _ => rfl) x).trans h) (ar47.da x)
theorem k24 : ∀ (N : Nat), N ≤ 4611686018427387904 → TOk Proofs.Tryz.prog 24 (t24 N)
 | 0, _ => TL_ok ar24.wk fun x v h => by have h : none = some v := h; cases h
 | N + 1, hN => TL_ok ar24.wk fun x v h =>
   pure_ofT (l := [TE.plain 47 (t47 N) (k47 N (by omega)), TE.plain 24 (t24 N) (k24 N (by omega))]) (s := []) tys_ok eqts_ok follows Proofs.Tryz.func24 (c := Proofs.Tryz.f24.body.get rfl) rfl (by decide) (by kernel_rfl)  (H := H24) (N := N) (shp := sh24)
     ((ev24 (by omega) (F1418 N) rfl rfl rfl rfl (fun _ _ => rfl) (fun _ _ => rfl) x).trans h) (ar24.da x)
theorem k68 : TOk Proofs.Tryz.prog 68 t68 := TL_ok ar68.wk fun x v h =>
   pure_ofT (l := []) (s := []) tys_ok eqts_ok follows Proofs.Tryz.func68 (c := Proofs.Tryz.f68.body.get rfl) rfl (by decide) (by kernel_rfl)  (H := H68) (N := 0) (shp := sh68)
     ((ev68 (by omega) rfl rfl rfl rfl  x.1 x.2).trans h) (ar68.da x)
theorem k70 : TOk Proofs.Tryz.prog 70 t70 := TL_ok ar70.wk fun x v h =>
   pure_ofT (l := []) (s := []) tys_ok eqts_ok follows Proofs.Tryz.func70 (c := Proofs.Tryz.f70.body.get rfl) rfl (by decide) (by kernel_rfl)  (H := H70) (N := 0) (shp := sh70)
     ((ev70 (by omega) rfl rfl rfl rfl  x.1 x.2).trans h) (ar70.da x)
theorem k43 : ∀ (N : Nat), N ≤ 4611686018427387904 → TOk Proofs.Tryz.prog 43 (t43 N)
 | 0, _ => TL_ok ar43.wk fun x v h => by have h : none = some v := h; cases h
 | N + 1, hN => TL_ok ar43.wk fun x v h =>
   pure_ofT (l := [TE.plain 68 (t68) k68, TE.plain 69 (t69) k69, TE.plain 70 (t70) k70, TE.plain 43 (t43 N) (k43 N (by omega))]) (s := []) tys_ok eqts_ok follows Proofs.Tryz.func43 (c := Proofs.Tryz.f43.body.get rfl) rfl (by decide) (by kernel_rfl)  (H := H43) (N := N) (shp := sh43)
     ((ev43 (by omega) (F18 N) rfl rfl rfl rfl (fun _ _ => rfl) (fun _ _ => rfl) (fun _ _ => rfl) (fun _ _ => rfl) x.1 x.2).trans h) (ar43.da x)
theorem k30 (N : Nat) (hN : N ≤ 4611686018427387904) : TOk Proofs.Tryz.prog 30 (t30 N) := TL_ok ar30.wk fun x v h =>
   pure_ofT (l := [TE.plain 43 (t43 N) (k43 N (by omega))]) (s := []) tys_ok eqts_ok follows Proofs.Tryz.func30 (c := Proofs.Tryz.f30.body.get rfl) rfl (by decide) (by kernel_rfl)  (H := H30) (N := N) (shp := sh30)
     ((ev30 (by omega) rfl rfl rfl rfl (fun _ _ => rfl) x.1 x.2).trans h) (ar30.da x)
theorem k49 (N : Nat) (hN : N ≤ 4611686018427387904) : TOk Proofs.Tryz.prog 49 (t49 N) := TL_ok ar49.wk fun x v h =>
   pure_ofT (l := [TE.plain 30 (t30 N) (k30 N (by omega))]) (s := []) tys_ok eqts_ok follows Proofs.Tryz.func49 (c := Proofs.Tryz.f49.body.get rfl) rfl (by decide) (by kernel_rfl)  (H := H49) (N := N) (shp := sh49)
     ((ev49 (by omega) rfl rfl rfl rfl (fun _ _ => rfl) x.1 x.2.1 x.2.2.1 x.2.2.2).trans h) (ar49.da x)
theorem k13 : TOk Proofs.Tryz.prog 13 t13 := TL_ok ar13.wk fun x v h =>
   pure_ofT (l := []) (s := []) tys_ok eqts_ok follows Proofs.Tryz.func13 (c := Proofs.Tryz.f13.body.get rfl) rfl (by decide) (by kernel_rfl)  (H := H13) (N := 0) (shp := sh13)
     ((ev13 (by omega) rfl rfl rfl rfl  x).trans h) (ar13.da x)
theorem k31 : TOk Proofs.Tryz.prog 31 t31 := TL_ok ar31.wk fun x v h =>
   pure_ofT (l := []) (s := []) tys_ok eqts_ok follows Proofs.Tryz.func31 (c := Proofs.Tryz.f31.body.get rfl) rfl (by decide) (by kernel_rfl)  (H := H31) (N := 0) (shp := sh31)
     ((ev31 (by omega) rfl rfl rfl rfl  x).trans h) (ar31.da x)
theorem k32 : TOk Proofs.Tryz.prog 32 t32 := TL_ok ar32.wk fun x v h =>
   pure_ofT (l := []) (s := []) tys_ok eqts_ok follows Proofs.Tryz.func32 (c := Proofs.Tryz.f32.body.get rfl) rfl (by decide) (by kernel_rfl)  (H := H32) (N := 0) (shp := sh32)
     ((ev32 (by omega) rfl rfl rfl rfl  x.1 x.2).trans h) (ar32.da x)
theorem k14 : ∀ (N : Nat), N ≤ 4611686018427387904 → TOk Proofs.Tryz.prog 14 (t14 N)
 | 0, _ => TL_ok ar14.wk fun x v h => by have h : none = some v := h; cases h
 | N + 1, hN => TL_ok ar14.wk fun x v h =>
   pure_ofT (l := [TE.plain 13 (t13) k13, TE.plain 30 (t30 N) (k30 N (by omega)), TE.plain 14 (t14 N) (k14 N (by omega)), TE.plain 31 (t31) k31, TE.plain 32 (t32) k32]) (s := []) tys_ok eqts_ok follows Proofs.Tryz.func14 (c := Proofs.Tryz.f14.body.get rfl) rfl (by decide) (by kernel_rfl)  (H := H14) (N := N) (shp := sh14)
     ((ev14 (by omega) (F1411 N) rfl rfl rfl rfl (fun _ _ => rfl) (fun _ _ => rfl) (fun _ _ => rfl) (fun _ _ => rfl) (fun _ _ => rfl) x.1 x.2.1 x.2.2).trans h) (ar14.da x)
end Go.Abs.Try
