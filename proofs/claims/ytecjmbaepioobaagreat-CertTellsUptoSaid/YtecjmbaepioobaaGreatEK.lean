import Derived.Test.YtecjmbaepioobaaGreatECk
import Derived.Test.YtecjmbaepioobaaGreatEV0
import Derived.Test.YtecjmbaepioobaaGreatEV1
import Derived.Test.YtecjmbaepioobaaGreatEV2
import Derived.Test.YtecjmbaepioobaaGreatEV3
import Derived.Test.YtecjmbaepioobaaGreatEV4
import Derived.Test.YtecjmbaepioobaaGreatEV5
import Derived.Test.YtecjmbaepioobaaGreatECmp
set_option linter.unusedSimpArgs false
set_option linter.unusedVariables false
namespace Go.Abs.Try
open Go.RowKit
set_option maxRecDepth 100000
set_option maxHeartbeats 40000000
theorem k4 (N : Nat) (hN : N ≤ 4611686018427387904) : TOk Proofs.Tryz.prog 4 (t4 N) := TL_ok ar4.wk fun x v h =>
   pure_ofT (l := [TE.plain 11 (t11 N) (k11 N (by omega))]) (s := []) tys_ok eqts_ok follows Proofs.Tryz.func4 (c := Proofs.Tryz.f4.body.get rfl) rfl (by decide) (by kernel_rfl)  (H := H4) (N := N) (shp := sh4)
     ((ev4 (by omega) rfl rfl rfl rfl (fun _ _ => rfl) ).trans h) (ar4.da x)
theorem k5 : ∀ (N : Nat), N ≤ 4611686018427387904 → TOk Proofs.Tryz.prog 5 (t5 N)
 | 0, _ => TL_ok ar5.wk fun x v h => by have h : none = some v := h; cases h
 | N + 1, hN => TL_ok ar5.wk fun x v h =>
   pure_ofT (l := [TE.plain 5 (t5 N) (k5 N (by omega))]) (s := []) tys_ok eqts_ok follows Proofs.Tryz.func5 (c := Proofs.Tryz.f5.body.get rfl) rfl (by decide) (by kernel_rfl)  (H := H5) (N := N) (shp := sh5)
     ((ev5 (by omega) (F27 N) rfl rfl rfl rfl (fun _ _ => rfl) x).trans h) (ar5.da x)
theorem k6 (N : Nat) (hN : N ≤ 4611686018427387904) : TOk Proofs.Tryz.prog 6 (t6 N) := TL_ok ar6.wk fun x v h =>
   pure_ofT (l := [TE.plain 12 (t12 N) (k12 N (by omega)), TE.plain 13 (t13) k13, TE.plain 14 (t14 N) (k14 N (by omega))]) (s := []) tys_ok eqts_ok follows Proofs.Tryz.func6 (c := Proofs.Tryz.f6.body.get rfl) rfl (by decide) (by kernel_rfl)  (H := H6) (N := N) (shp := sh6)
     ((ev6 (by omega) rfl rfl rfl rfl (fun _ _ => rfl) (fun _ _ => rfl) (fun _ _ => rfl) x.1 x.2.1 x.2.2).trans h) (ar6.da x)
theorem k33 : ∀ (N : Nat), N ≤ 4611686018427387904 → TOk Proofs.Tryz.prog 33 (t33 N)
 | 0, _ => TL_ok ar33.wk fun x v h => by have h : none = some v := h; cases h
 | N + 1, hN => TL_ok ar33.wk fun x v h =>
   pure_ofT (l := [TE.plain 33 (t33 N) (k33 N (by omega))]) (s := []) tys_ok eqts_ok follows Proofs.Tryz.func33 (c := Proofs.Tryz.f33.body.get rfl) rfl (by decide) (by kernel_rfl)  (H := H33) (N := N) (shp := sh33)
     ((ev33 (by omega) (F39 N) rfl rfl rfl rfl (fun _ _ => rfl) x).trans h) (ar33.da x)
theorem k129 : TOk Proofs.Tryz.prog 129 t129 := TL_ok ar129.wk fun x v h =>
   pure_ofT (l := []) (s := []) tys_ok eqts_ok follows Proofs.Tryz.func129 (c := Proofs.Tryz.f129.body.get rfl) rfl (by decide) (by kernel_rfl)  (H := H129) (N := 0) (shp := sh129)
     ((ev129 (by omega) rfl rfl rfl rfl  x).trans h) (ar129.da x)
theorem k152 : TOk Proofs.Tryz.prog 152 t152 := TL_ok ar152.wk fun x v h =>
   pure_ofT (l := []) (s := []) tys_ok eqts_ok follows Proofs.Tryz.func152 (c := Proofs.Tryz.f152.body.get rfl) rfl (by decide) (by kernel_rfl)  (H := H152) (N := 0) (shp := sh152)
     ((ev152 (by omega) rfl rfl rfl rfl  ).trans h) (ar152.da x)
theorem k130 (N : Nat) (hN : N ≤ 4611686018427387904) : TOk Proofs.Tryz.prog 130 (t130 N) := TL_ok ar130.wk fun x v h =>
   pure_ofT (l := [TE.plain 152 (t152) k152]) (s := []) tys_ok eqts_ok follows Proofs.Tryz.func130 (c := Proofs.Tryz.f130.body.get rfl) rfl (by decide) (by kernel_rfl)  (H := H130) (N := N) (shp := sh130)
     ((ev130 (by omega) rfl rfl rfl rfl (fun _ _ => rfl) x).trans h) (ar130.da x)
theorem k131 : TOk Proofs.Tryz.prog 131 t131 := TL_ok ar131.wk fun x v h =>
   pure_ofT (l := []) (s := []) tys_ok eqts_ok follows Proofs.Tryz.func131 (c := Proofs.Tryz.f131.body.get rfl) rfl (by decide) (by kernel_rfl)  (H := H131) (N := 0) (shp := sh131)
     ((ev131 (by omega) rfl rfl rfl rfl  x).trans h) (ar131.da x)
theorem k98 (N : Nat) (hN : N ≤ 4611686018427387904) : TOk Proofs.Tryz.prog 98 (t98 N) := TL_ok ar98.wk fun x v h =>
   pure_ofT (l := [TE.plain 129 (t129) k129, TE.plain 130 (t130 N) (k130 N (by omega)), TE.plain 131 (t131) k131]) (s := []) tys_ok eqts_ok follows Proofs.Tryz.func98 (c := Proofs.Tryz.f98.body.get rfl) rfl (by decide) (by kernel_rfl)  (H := H98) (N := N) (shp := sh98)
     ((ev98 (by omega) rfl rfl rfl rfl (fun _ _ => rfl) (fun _ _ => rfl) (fun _ _ => rfl) x).trans h) (ar98.da x)
theorem k62 (N : Nat) (hN : N ≤ 4611686018427387904) : TOk Proofs.Tryz.prog 62 (t62 N) := TL_ok ar62.wk fun x v h =>
   pure_ofT (l := [TE.plain 98 (t98 N) (k98 N (by omega))]) (s := []) tys_ok eqts_ok follows Proofs.Tryz.func62 (c := Proofs.Tryz.f62.body.get rfl) rfl (by decide) (by kernel_rfl)  (H := H62) (N := N) (shp := sh62)
     ((ev62 (by omega) rfl rfl rfl rfl (fun _ _ => rfl) x).trans h) (ar62.da x)
theorem k36 : ∀ (N : Nat), N ≤ 4611686018427387904 → TOk Proofs.Tryz.prog 36 (t36 N)
 | 0, _ => TL_ok ar36.wk fun x v h => by have h : none = some v := h; cases h
 | N + 1, hN => TL_ok ar36.wk fun x v h =>
   pure_ofT (l := [TE.plain 36 (t36 N) (k36 N (by omega))]) (s := []) tys_ok eqts_ok follows Proofs.Tryz.func36 (c := Proofs.Tryz.f36.body.get rfl) rfl (by decide) (by kernel_rfl)  (H := H36) (N := N) (shp := sh36)
     ((ev36 (by omega) (F28 N) rfl rfl rfl rfl (fun _ _ => rfl) x).trans h) (ar36.da x)
theorem k63 : TOk Proofs.Tryz.prog 63 t63 := TL_ok ar63.wk fun x v h =>
   pure_ofT (l := []) (s := []) tys_ok eqts_ok follows Proofs.Tryz.func63 (c := Proofs.Tryz.f63.body.get rfl) rfl (by decide) (by kernel_rfl)  (H := H63) (N := 0) (shp := sh63)
     ((ev63 (by omega) rfl rfl rfl rfl  x).trans h) (ar63.da x)
theorem k64 : TOk Proofs.Tryz.prog 64 t64 := TL_ok ar64.wk fun x v h =>
   pure_ofT (l := []) (s := []) tys_ok eqts_ok follows Proofs.Tryz.func64 (c := Proofs.Tryz.f64.body.get rfl) rfl (by decide) (by kernel_rfl)  (H := H64) (N := 0) (shp := sh64)
     ((ev64 (by omega) rfl rfl rfl rfl  x).trans h) (ar64.da x)
theorem k34 : ∀ (N : Nat), N ≤ 4611686018427387904 → TOk Proofs.Tryz.prog 34 (t34 N)
 | 0, _ => TL_ok ar34.wk fun x v h => by have h : none = some v := h; cases h
 | N + 1, hN => TL_ok ar34.wk fun x v h =>
   pure_ofT (l := [TE.plain 62 (t62 N) (k62 N (by omega)), TE.plain 34 (t34 N) (k34 N (by omega)), TE.plain 36 (t36 N) (k36 N (by omega)), TE.plain 63 (t63) k63, TE.plain 64 (t64) k64]) (s := []) tys_ok eqts_ok follows Proofs.Tryz.func34 (c := Proofs.Tryz.f34.body.get rfl) rfl (by decide) (by kernel_rfl)  (H := H34) (N := N) (shp := sh34)
     ((ev34 (by omega) (F72 N) rfl rfl rfl rfl (fun _ _ => rfl) (fun _ _ => rfl) (fun _ _ => rfl) (fun _ _ => rfl) (fun _ _ => rfl) x).trans h) (ar34.da x)
theorem k153 : TOk Proofs.Tryz.prog 153 t153 := TL_ok ar153.wk fun x v h =>
   pure_ofT (l := []) (s := []) tys_ok eqts_ok follows Proofs.Tryz.func153 (c := Proofs.Tryz.f153.body.get rfl) rfl (by decide) (by kernel_rfl)  (H := H153) (N := 0) (shp := sh153)
     ((ev153 (by omega) rfl rfl rfl rfl  x.1 x.2).trans h) (ar153.da x)
theorem k132 (N : Nat) (hN : N ≤ 4611686018427387904) : TOk Proofs.Tryz.prog 132 (t132 N) := TL_ok ar132.wk fun x v h =>
   pure_ofT (l := [TE.plain 153 (t153) k153]) (s := []) tys_ok eqts_ok follows Proofs.Tryz.func132 (c := Proofs.Tryz.f132.body.get rfl) rfl (by decide) (by kernel_rfl)  (H := H132) (N := N) (shp := sh132)
     ((ev132 (by omega) rfl rfl rfl rfl (fun _ _ => rfl) x.1 x.2).trans h) (ar132.da x)
theorem k99 : ∀ (N : Nat), N ≤ 4611686018427387904 → TOk Proofs.Tryz.prog 99 (t99 N)
 | 0, _ => TL_ok ar99.wk fun x v h => by have h : none = some v := h; cases h
 | N + 1, hN => TL_ok ar99.wk fun x v h =>
   pure_ofT (l := [TE.plain 132 (t132 N) (k132 N (by omega)), TE.plain 99 (t99 N) (k99 N (by omega))]) (s := []) tys_ok eqts_ok follows Proofs.Tryz.func99 (c := Proofs.Tryz.f99.body.get rfl) rfl (by decide) (by kernel_rfl)  (H := H99) (N := N) (shp := sh99)
     ((ev99 (by omega) (F95 N) rfl rfl rfl rfl (fun _ _ => rfl) (fun _ _ => rfl) x.1 x.2).trans h) (ar99.da x)
theorem k65 (N : Nat) (hN : N ≤ 4611686018427387904) : TOk Proofs.Tryz.prog 65 (t65 N) := TL_ok ar65.wk fun x v h =>
   pure_ofT (l := [TE.plain 99 (t99 N) (k99 N (by omega))]) (s := []) tys_ok eqts_ok follows Proofs.Tryz.func65 (c := Proofs.Tryz.f65.body.get rfl) rfl (by decide) (by kernel_rfl)  (H := H65) (N := N) (shp := sh65)
     ((ev65 (by omega) rfl rfl rfl rfl (fun _ _ => rfl) x).trans h) (ar65.da x)
theorem k66 : ∀ (N : Nat), N ≤ 4611686018427387904 → TOk Proofs.Tryz.prog 66 (t66 N)
 | 0, _ => TL_ok ar66.wk fun x v h => by have h : none = some v := h; cases h
 | N + 1, hN => TL_ok ar66.wk fun x v h =>
   pure_ofT (l := [TE.plain 66 (t66 N) (k66 N (by omega))]) (s := []) tys_ok eqts_ok follows Proofs.Tryz.func66 (c := Proofs.Tryz.f66.body.get rfl) rfl (by decide) (by kernel_rfl)  (H := H66) (N := N) (shp := sh66)
     ((ev66 (by omega) (F92 N) rfl rfl rfl rfl (fun _ _ => rfl) x.1 x.2).trans h) (ar66.da x)
theorem k35 (N : Nat) (hN : N ≤ 4611686018427387904) : TOk Proofs.Tryz.prog 35 (t35 N) := TL_ok ar35.wk fun x v h =>
   pure_ofT (l := [TE.plain 65 (t65 N) (k65 N (by omega)), TE.plain 66 (t66 N) (k66 N (by omega))]) (s := []) tys_ok eqts_ok follows Proofs.Tryz.func35 (c := Proofs.Tryz.f35.body.get rfl) rfl (by decide) (by kernel_rfl)  (H := H35) (N := N) (shp := sh35)
     ((ev35 (by omega) rfl rfl rfl rfl (fun _ _ => rfl) (fun _ _ => rfl) x).trans h) (ar35.da x)
theorem k15 (N : Nat) (hN : N ≤ 4611686018427387904) : TOk Proofs.Tryz.prog 15 (t15 N) := TL_ok ar15.wk fun x v h =>
   pure_ofT (l := [TE.plain 5 (t5 N) (k5 N (by omega)), TE.plain 33 (t33 N) (k33 N (by omega)), TE.plain 34 (t34 N) (k34 N (by omega)), TE.plain 35 (t35 N) (k35 N (by omega)), TE.plain 36 (t36 N) (k36 N (by omega))]) (s := []) tys_ok eqts_ok follows Proofs.Tryz.func15 (c := Proofs.Tryz.f15.body.get rfl) rfl (by decide) (by kernel_rfl)  (H := H15) (N := N) (shp := sh15)
     ((ev15 (by omega) rfl rfl rfl rfl (fun _ _ => rfl) (fun _ _ => rfl) (fun _ _ => rfl) (fun _ _ => rfl) (fun _ _ => rfl) x.1 x.2).trans h) (ar15.da x)
theorem k16 : TOk Proofs.Tryz.prog 16 t16 := TL_ok ar16.wk fun x v h =>
   pure_ofT (l := []) (s := []) tys_ok eqts_ok follows Proofs.Tryz.func16 (c := Proofs.Tryz.f16.body.get rfl) rfl (by decide) (by kernel_rfl)  (H := H16) (N := 0) (shp := sh16)
     ((ev16 (by omega) rfl rfl rfl rfl  x).trans h) (ar16.da x)
theorem k67 : TOk Proofs.Tryz.prog 67 t67 := TL_ok ar67.wk fun x v h =>
   pure_ofT (l := []) (s := []) tys_ok eqts_ok follows Proofs.Tryz.func67 (c := Proofs.Tryz.f67.body.get rfl) rfl (by decide) (by kernel_rfl)  (H := H67) (N := 0) (shp := sh67)
     ((ev67 (by omega) rfl rfl rfl rfl  x.1 x.2).trans h) (ar67.da x)
theorem k40 : ∀ (N : Nat), N ≤ 4611686018427387904 → TOk Proofs.Tryz.prog 40 (t40 N)
 | 0, _ => TL_ok ar40.wk fun x v h => by have h : none = some v := h; cases h
 | N + 1, hN => TL_ok ar40.wk fun x v h =>
   pure_ofT (l := [TE.plain 67 (t67) k67, TE.plain 40 (t40 N) (k40 N (by omega))]) (s := []) tys_ok eqts_ok follows Proofs.Tryz.func40 (c := Proofs.Tryz.f40.body.get rfl) rfl (by decide) (by kernel_rfl)  (H := H40) (N := N) (shp := sh40)
     ((ev40 (by omega) (F19 N) rfl rfl rfl rfl (fun _ _ => rfl) (fun _ _ => rfl) x.1 x.2).trans h) (ar40.da x)
theorem k18 (N : Nat) (hN : N ≤ 4611686018427387904) : TOk Proofs.Tryz.prog 18 (t18 N) := TL_ok ar18.wk fun x v h =>
   pure_ofT (l := [TE.plain 40 (t40 N) (k40 N (by omega))]) (s := []) tys_ok eqts_ok follows Proofs.Tryz.func18 (c := Proofs.Tryz.f18.body.get rfl) rfl (by decide) (by kernel_rfl)  (H := H18) (N := N) (shp := sh18)
     ((ev18 (by omega) rfl rfl rfl rfl (fun _ _ => rfl) x.1 x.2).trans h) (ar18.da x)
theorem k37 : TOk Proofs.Tryz.prog 37 t37 := TL_ok ar37.wk fun x v h =>
   pure_ofT (l := []) (s := []) tys_ok eqts_ok follows Proofs.Tryz.func37 (c := Proofs.Tryz.f37.body.get rfl) rfl (by decide) (by kernel_rfl)  (H := H37) (N := 0) (shp := sh37)
     ((ev37 (by omega) rfl rfl rfl rfl  x).trans h) (ar37.da x)
theorem k38 : TOk Proofs.Tryz.prog 38 t38 := TL_ok ar38.wk fun x v h =>
   pure_ofT (l := []) (s := []) tys_ok eqts_ok follows Proofs.Tryz.func38 (c := Proofs.Tryz.f38.body.get rfl) rfl (by decide) (by kernel_rfl)  (H := H38) (N := 0) (shp := sh38)
     ((ev38 (by omega) rfl rfl rfl rfl  x).trans h) (ar38.da x)
theorem k39 : TOk Proofs.Tryz.prog 39 t39 := TL_ok ar39.wk fun x v h =>
   pure_ofT (l := []) (s := []) tys_ok eqts_ok follows Proofs.Tryz.func39 (c := Proofs.Tryz.f39.body.get rfl) rfl (by decide) (by kernel_rfl)  (H := H39) (N := 0) (shp := sh39)
     ((ev39 (by omega) rfl rfl rfl rfl  x.1 x.2).trans h) (ar39.da x)
theorem k17 : ∀ (N : Nat), N ≤ 4611686018427387904 → TOk Proofs.Tryz.prog 17 (t17 N)
 | 0, _ => TL_ok ar17.wk fun x v h => by have h : none = some v := h; cases h
 | N + 1, hN => TL_ok ar17.wk fun x v h =>
   pure_ofT (l := [TE.plain 16 (t16) k16, TE.plain 18 (t18 N) (k18 N (by omega)), TE.plain 37 (t37) k37, TE.plain 17 (t17 N) (k17 N (by omega)), TE.plain 38 (t38) k38, TE.plain 39 (t39) k39]) (s := []) tys_ok eqts_ok follows Proofs.Tryz.func17 (c := Proofs.Tryz.f17.body.get rfl) rfl (by decide) (by kernel_rfl)  (H := H17) (N := N) (shp := sh17)
     ((ev17 (by omega) (F1413 N) rfl rfl rfl rfl (fun _ _ => rfl) (fun _ _ => rfl) (fun _ _ => rfl) (fun _ _ => rfl) (fun _ _ => rfl) (fun _ _ => rfl) x.1 x.2.1 x.2.2).trans h) (ar17.da x)
theorem k7 (N : Nat) (hN : N ≤ 4611686018427387904) : TOk Proofs.Tryz.prog 7 (t7 N) := TL_ok ar7.wk fun x v h =>
   pure_ofT (l := [TE.plain 15 (t15 N) (k15 N (by omega)), TE.plain 16 (t16) k16, TE.plain 17 (t17 N) (k17 N (by omega))]) (s := []) tys_ok eqts_ok follows Proofs.Tryz.func7 (c := Proofs.Tryz.f7.body.get rfl) rfl (by decide) (by kernel_rfl)  (H := H7) (N := N) (shp := sh7)
     ((ev7 (by omega) rfl rfl rfl rfl (fun _ _ => rfl) (fun _ _ => rfl) (fun _ _ => rfl) x.1 x.2.1 x.2.2).trans h) (ar7.da x)
theorem k19 : ∀ (N : Nat), N ≤ 4611686018427387904 → TOk Proofs.Tryz.prog 19 (t19 N)
 | 0, _ => TL_ok ar19.wk fun x v h => by have h : none = some v := h; cases h
 | N + 1, hN => TL_ok ar19.wk fun x v h =>
   pure_ofT (l := [te41, TE.plain 19 (t19 N) (k19 N (by omega))]) (s := []) tys_ok eqts_ok follows Proofs.Tryz.func19 (c := Proofs.Tryz.f19.body.get rfl) rfl (by decide) (by kernel_rfl)  (H := H19) (N := N) (shp := sh19)
     ((ev19 (by omega) (F1414 N) rfl rfl rfl rfl (fun _ _ => rfl) (fun _ _ => rfl) x).trans h) (ar19.da x)
theorem k9 : ∀ (N : Nat), N ≤ 4611686018427387904 → TOk Proofs.Tryz.prog 9 (t9 N)
 | 0, _ => TL_ok ar9.wk fun x v h => by have h : none = some v := h; cases h
 | N + 1, hN => TL_ok ar9.wk fun x v h =>
   pure_ofT (l := [TE.plain 13 (t13) k13, TE.plain 19 (t19 N) (k19 N (by omega)), TE.plain 9 (t9 N) (k9 N (by omega)), TE.inl tys eqts [TE.inl tys eqts [TE.plain 43 (t43 N) (k43 N (by omega))] [] tys_ok eqts_ok follows 42 Proofs.Tryz.f42 Proofs.Tryz.func42 (c := Proofs.Tryz.f42.body.get rfl) rfl (by decide) (by kernel_rfl) H42 N, te44] [] tys_ok eqts_ok follows 20 Proofs.Tryz.f20 Proofs.Tryz.func20 (c := Proofs.Tryz.f20.body.get rfl) rfl (by decide) (by kernel_rfl) H20 N]) (s := []) tys_ok eqts_ok follows Proofs.Tryz.func9 (c := Proofs.Tryz.f9.body.get rfl) rfl (by decide) (by kernel_rfl)  (H := H9) (N := N) (shp := sh9)
     ((ev9 (E20 := fun n0 => mkT Proofs.Tryz.prog n0 tys eqts [TE.inl tys eqts [TE.plain 43 (t43 N) (k43 N (by omega))] [] tys_ok eqts_ok follows 42 Proofs.Tryz.f42 Proofs.Tryz.func42 (c := Proofs.Tryz.f42.body.get rfl) rfl (by decide) (by kernel_rfl) H42 N, te44] []) (E42 := fun n0 => mkT Proofs.Tryz.prog n0 tys eqts [TE.plain 43 (t43 N) (k43 N (by omega))] []) (by omega) (F1407 N) rfl rfl rfl rfl (fun _ _ => rfl) (fun _ _ => rfl) (fun _ _ => rfl) (fun _ _ => rfl) (fun _ => rfl) (fun _ => rfl) (fun _ => rfl) (fun _ => rfl) (fun _ _ _ => rfl) (fun _ _ _ => rfl) (fun _ => rfl) (fun _ => rfl) (fun _ => rfl) (fun _ => rfl) (fun _ _ _ => rfl) x).trans h) (ar9.da x)
theorem k45 (N : Nat) (hN : N ≤ 4611686018427387904) : TOk Proofs.Tryz.prog 45 (t45 N) := TL_ok ar45.wk fun x v h =>
   pure_ofT (l := [TE.plain 40 (t40 N) (k40 N (by omega))]) (s := []) tys_ok eqts_ok follows Proofs.Tryz.func45 (c := Proofs.Tryz.f45.body.get rfl) rfl (by decide) (by kernel_rfl)  (H := H45) (N := N) (shp := sh45)
     ((ev45 (by omega) rfl rfl rfl rfl (fun _ _ => rfl) x.1 x.2).trans h) (ar45.da x)
theorem k21 : ∀ (N : Nat), N ≤ 4611686018427387904 → TOk Proofs.Tryz.prog 21 (t21 N)
 | 0, _ => TL_ok ar21.wk fun x v h => by have h : none = some v := h; cases h
 | N + 1, hN => TL_ok ar21.wk fun x v h =>
   pure_ofT (l := [TE.plain 16 (t16) k16, TE.plain 45 (t45 N) (k45 N (by omega)), TE.plain 21 (t21 N) (k21 N (by omega))]) (s := []) tys_ok eqts_ok follows Proofs.Tryz.func21 (c := Proofs.Tryz.f21.body.get rfl) rfl (by decide) (by kernel_rfl)  (H := H21) (N := N) (shp := sh21)
     ((ev21 (by omega) (F1416 N) rfl rfl rfl rfl (fun _ _ => rfl) (fun _ _ => rfl) (fun _ _ => rfl) x.1 x.2).trans h) (ar21.da x)
theorem k10 (N : Nat) (hN : N ≤ 4611686018427387904) : TOk Proofs.Tryz.prog 10 (t10 N) := TL_ok ar10.wk fun x v h =>
   pure_ofT (l := [TE.plain 21 (t21 N) (k21 N (by omega))]) (s := []) tys_ok eqts_ok follows Proofs.Tryz.func10 (c := Proofs.Tryz.f10.body.get rfl) rfl (by decide) (by kernel_rfl)  (H := H10) (N := N) (shp := sh10)
     ((ev10 (by omega) rfl rfl rfl rfl (fun _ _ => rfl) x).trans h) (ar10.da x)
theorem k8 (N : Nat) (hN : N ≤ 4611686018427387904) : TOk Proofs.Tryz.prog 8 (t8 N) := TL_ok ar8.wk fun x v h =>
   pure_ofT (l := [TE.plain 18 (t18 N) (k18 N (by omega))]) (s := []) tys_ok eqts_ok follows Proofs.Tryz.func8 (c := Proofs.Tryz.f8.body.get rfl) rfl (by decide) (by kernel_rfl)  (H := H8) (N := N) (shp := sh8)
     ((ev8 (by omega) rfl rfl rfl rfl (fun _ _ => rfl) x.1 x.2).trans h) (ar8.da x)
theorem k3 (N : Nat) (hN : N ≤ 4611686018427387904) : TOk Proofs.Tryz.prog 3 (t3 N) := TL_ok ar3.wk fun x v h =>
   pure_ofT (l := [TE.plain 4 (t4 N) (k4 N (by omega)), TE.plain 5 (t5 N) (k5 N (by omega)), TE.plain 6 (t6 N) (k6 N (by omega)), TE.plain 7 (t7 N) (k7 N (by omega)), TE.plain 9 (t9 N) (k9 N (by omega)), TE.plain 10 (t10 N) (k10 N (by omega)), TE.plain 8 (t8 N) (k8 N (by omega))]) (s := []) tys_ok eqts_ok follows Proofs.Tryz.func3 (c := Proofs.Tryz.f3.body.get rfl) rfl (by decide) (by kernel_rfl)  (H := H3) (N := N) (shp := sh3)
     ((ev3 (by omega) rfl rfl rfl rfl (fun _ _ => rfl) (fun _ _ => rfl) (fun _ _ => rfl) (fun _ _ => rfl) (fun _ _ => rfl) (fun _ _ => rfl) (fun _ _ => rfl) x.1 x.2.1 x.2.2).trans h) (ar3.da x)
end Go.Abs.Try
