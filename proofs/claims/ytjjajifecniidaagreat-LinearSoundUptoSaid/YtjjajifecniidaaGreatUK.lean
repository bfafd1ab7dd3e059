import Derived.Test.YtjjajifecniidaaGreatUV0
import Derived.Test.YtjjajifecniidaaGreatUV1
import Derived.Test.YtjjajifecniidaaGreatUV2
import Derived.Test.YtjjajifecniidaaGreatUV3
import Derived.Test.YtjjajifecniidaaGreatUV4
import Derived.Test.YtjjajifecniidaaGreatUV5
import Derived.Test.YtjjajifecniidaaGreatUV6
import Derived.Test.YtjjajifecniidaaGreatUV7
import Derived.Test.YtjjajifecniidaaGreatUV8
import Derived.Test.YtjjajifecniidaaGreatUCmp
import Derived.Test.YtjjajifecniidaaGreatUAdd
set_option linter.unusedSimpArgs false
set_option linter.unusedVariables false
namespace Go.Abs.Try
open Go.RowKit
set_option maxRecDepth 100000
set_option maxHeartbeats 4000000
theorem k19 : TOk Proofs.Tryz.prog 19 t19 := TL_ok ar19.wk fun x v h =>
   pure_ofT (l := []) (s := []) tys_ok eqts_ok follows Proofs.Tryz.func19 (c := Proofs.Tryz.f19.body.get rfl) rfl (by decide) (by kernel_rfl)  (H := H19) (N := 0) (shp := sh19)
     ((ev19 (by omega) rfl rfl rfl rfl  x.1 x.2.1 x.2.2).trans h) (ar19.da x)
theorem k89 : TOk Proofs.Tryz.prog 89 t89 := TL_ok ar89.wk fun x v h =>
   pure_ofT (l := [TE.plain 91 (t91) k91]) (s := [se123]) tys_ok eqts_ok follows Proofs.Tryz.func89 (c := Proofs.Tryz.f89.body.get rfl) rfl (by decide) (by kernel_rfl)  (H := H89) (N := 0) (shp := sh89)
     ((ev89 (by omega) rfl rfl rfl rfl (fun _ _ => rfl) (fun _ => rfl) x).trans h) (ar89.da x)
theorem k90 : ∀ (N : Nat), N ≤ 4611686018427387904 → TOk Proofs.Tryz.prog 90 (t90 N)
 | 0, _ => TL_ok ar90.wk fun x v h => by have h : none = some v := h; cases h
 | N + 1, hN => TL_ok ar90.wk fun x v h =>
   pure_ofT (l := [TE.plain 90 (t90 N) (k90 N (by omega))]) (s := []) tys_ok eqts_ok follows Proofs.Tryz.func90 (c := Proofs.Tryz.f90.body.get rfl) rfl (by decide) (by kernel_rfl)  (H := H90) (N := N) (shp := sh90)
     ((ev90 (by omega) (F38 N) rfl rfl rfl rfl (fun _ _ => rfl) x).trans h) (ar90.da x)
theorem k56 (N : Nat) (hN : N ≤ 4611686018427387904) : TOk Proofs.Tryz.prog 56 (t56 N) := TL_ok ar56.wk fun x v h =>
   pure_ofT (l := [TE.plain 89 (t89) k89, TE.plain 90 (t90 N) (k90 N (by omega))]) (s := []) tys_ok eqts_ok follows Proofs.Tryz.func56 (c := Proofs.Tryz.f56.body.get rfl) rfl (by decide) (by kernel_rfl)  (H := H56) (N := N) (shp := sh56)
     ((ev56 (by omega) rfl rfl rfl rfl (fun _ _ => rfl) (fun _ _ => rfl) x).trans h) (ar56.da x)
theorem k143 : TOk Proofs.Tryz.prog 143 t143 := TL_ok ar143.wk fun x v h =>
   pure_ofT (l := []) (s := []) tys_ok eqts_ok follows Proofs.Tryz.func143 (c := Proofs.Tryz.f143.body.get rfl) rfl (by decide) (by kernel_rfl)  (H := H143) (N := 0) (shp := sh143)
     ((ev143 (by omega) rfl rfl rfl rfl  x).trans h) (ar143.da x)
theorem k144 : TOk Proofs.Tryz.prog 144 t144 := TL_ok ar144.wk fun x v h =>
   pure_ofT (l := []) (s := []) tys_ok eqts_ok follows Proofs.Tryz.func144 (c := Proofs.Tryz.f144.body.get rfl) rfl (by decide) (by kernel_rfl)  (H := H144) (N := 0) (shp := sh144)
     ((ev144 (by omega) rfl rfl rfl rfl  x).trans h) (ar144.da x)
theorem k125 (N : Nat) (hN : N ≤ 4611686018427387904) : TOk Proofs.Tryz.prog 125 (t125 N) := TL_ok ar125.wk fun x v h =>
   pure_ofT (l := [TE.plain 143 (t143) k143, TE.plain 144 (t144) k144]) (s := []) tys_ok eqts_ok follows Proofs.Tryz.func125 (c := Proofs.Tryz.f125.body.get rfl) rfl (by decide) (by kernel_rfl)  (H := H125) (N := N) (shp := sh125)
     ((ev125 (by omega) rfl rfl rfl rfl (fun _ _ => rfl) (fun _ _ => rfl) x).trans h) (ar125.da x)
theorem k92 (N : Nat) (hN : N ≤ 4611686018427387904) : TOk Proofs.Tryz.prog 92 (t92 N) := TL_ok ar92.wk fun x v h =>
   pure_ofT (l := [TE.plain 125 (t125 N) (k125 N (by omega))]) (s := []) tys_ok eqts_ok follows Proofs.Tryz.func92 (c := Proofs.Tryz.f92.body.get rfl) rfl (by decide) (by kernel_rfl)  (H := H92) (N := N) (shp := sh92)
     ((ev92 (by omega) rfl rfl rfl rfl (fun _ _ => rfl) x).trans h) (ar92.da x)
theorem k35 (N : Nat) (hN : N ≤ 4611686018427387904) : TOk Proofs.Tryz.prog 35 (t35 N) := TL_ok ar35.wk fun x v h =>
   pure_ofT (l := []) (s := []) tys_ok eqts_ok follows Proofs.Tryz.func35 (c := Proofs.Tryz.f35.body.get rfl) rfl (by decide) (by kernel_rfl)  (H := H35) (N := N) (shp := sh35)
     ((ev35 (by omega) rfl rfl rfl rfl  x).trans h) (ar35.da x)
theorem k126 : TOk Proofs.Tryz.prog 126 t126 := TL_ok ar126.wk fun x v h =>
   pure_ofT (l := []) (s := []) tys_ok eqts_ok follows Proofs.Tryz.func126 (c := Proofs.Tryz.f126.body.get rfl) rfl (by decide) (by kernel_rfl)  (H := H126) (N := 0) (shp := sh126)
     ((ev126 (by omega) rfl rfl rfl rfl  x).trans h) (ar126.da x)
theorem k127 (N : Nat) (hN : N ≤ 4611686018427387904) : TOk Proofs.Tryz.prog 127 (t127 N) := TL_ok ar127.wk fun x v h =>
   pure_ofT (l := []) (s := []) tys_ok eqts_ok follows Proofs.Tryz.func127 (c := Proofs.Tryz.f127.body.get rfl) rfl (by decide) (by kernel_rfl)  (H := H127) (N := N) (shp := sh127)
     ((ev127 (by omega) rfl rfl rfl rfl  x.1 x.2).trans h) (ar127.da x)
theorem k93 (N : Nat) (hN : N ≤ 4611686018427387904) : TOk Proofs.Tryz.prog 93 (t93 N) := TL_ok ar93.wk fun x v h =>
   pure_ofT (l := [TE.plain 35 (t35 N) (k35 N (by omega)), TE.plain 126 (t126) k126, TE.lent 127 (t127 N) (k127 N (by omega)), TE.inl tys eqts [] [] tys_ok eqts_ok follows 128 Proofs.Tryz.f128 Proofs.Tryz.func128 (c := Proofs.Tryz.f128.body.get rfl) rfl (by decide) (by kernel_rfl) H128 N]) (s := []) tys_ok eqts_ok follows Proofs.Tryz.func93 (c := Proofs.Tryz.f93.body.get rfl) rfl (by decide) (by kernel_rfl)  (H := H93) (N := N) (shp := sh93)
     ((ev93 (E128 := fun n0 => mkT Proofs.Tryz.prog n0 tys eqts [] []) (by omega) rfl rfl rfl rfl (fun _ _ => rfl) (fun _ _ => rfl) (fun _ _ => rfl) (fun _ _ => rfl) (fun _ => rfl) (fun _ => rfl) (fun _ => rfl) (fun _ => rfl) x).trans h) (ar93.da x)
theorem k57 (N : Nat) (hN : N ≤ 4611686018427387904) : TOk Proofs.Tryz.prog 57 (t57 N) := TL_ok ar57.wk fun x v h =>
   pure_ofT (l := [TE.plain 91 (t91) k91, TE.plain 92 (t92 N) (k92 N (by omega)), TE.plain 93 (t93 N) (k93 N (by omega))]) (s := [se123]) tys_ok eqts_ok follows Proofs.Tryz.func57 (c := Proofs.Tryz.f57.body.get rfl) rfl (by decide) (by kernel_rfl)  (H := H57) (N := N) (shp := sh57)
     ((ev57 (by omega) rfl rfl rfl rfl (fun _ _ => rfl) (fun _ _ => rfl) (fun _ _ => rfl) (fun _ => rfl) x).trans h) (ar57.da x)
theorem k58 : TOk Proofs.Tryz.prog 58 t58 := TL_ok ar58.wk fun x v h =>
   pure_ofT (l := [TE.plain 91 (t91) k91]) (s := [se123]) tys_ok eqts_ok follows Proofs.Tryz.func58 (c := Proofs.Tryz.f58.body.get rfl) rfl (by decide) (by kernel_rfl)  (H := H58) (N := 0) (shp := sh58)
     ((ev58 (by omega) rfl rfl rfl rfl (fun _ _ => rfl) (fun _ => rfl) x).trans h) (ar58.da x)
theorem k34 (N : Nat) (hN : N ≤ 4611686018427387904) : TOk Proofs.Tryz.prog 34 (t34 N) := TL_ok ar34.wk fun x v h =>
   pure_ofT (l := [TE.plain 56 (t56 N) (k56 N (by omega)), TE.plain 57 (t57 N) (k57 N (by omega)), TE.plain 58 (t58) k58, TE.plain 35 (t35 N) (k35 N (by omega))]) (s := []) tys_ok eqts_ok follows Proofs.Tryz.func34 (c := Proofs.Tryz.f34.body.get rfl) rfl (by decide) (by kernel_rfl)  (H := H34) (N := N) (shp := sh34)
     ((ev34 (by omega) rfl rfl rfl rfl (fun _ _ => rfl) (fun _ _ => rfl) (fun _ _ => rfl) (fun _ _ => rfl) x.1 x.2).trans h) (ar34.da x)
theorem k48 : TOk Proofs.Tryz.prog 48 t48 := TL_ok ar48.wk fun x v h =>
   pure_ofT (l := []) (s := []) tys_ok eqts_ok follows Proofs.Tryz.func48 (c := Proofs.Tryz.f48.body.get rfl) rfl (by decide) (by kernel_rfl)  (H := H48) (N := 0) (shp := sh48)
     ((ev48 (by omega) rfl rfl rfl rfl  x).trans h) (ar48.da x)
theorem k101 : TOk Proofs.Tryz.prog 101 t101 := TL_ok ar101.wk fun x v h =>
   pure_ofT (l := []) (s := []) tys_ok eqts_ok follows Proofs.Tryz.func101 (c := Proofs.Tryz.f101.body.get rfl) rfl (by decide) (by kernel_rfl)  (H := H101) (N := 0) (shp := sh101)
     ((ev101 (by omega) rfl rfl rfl rfl  x.1 x.2).trans h) (ar101.da x)
theorem k65 : TOk Proofs.Tryz.prog 65 t65 := TL_ok ar65.wk fun x v h =>
   pure_ofT (l := [TE.plain 101 (t101) k101, TE.plain 102 (t102) k102]) (s := []) tys_ok eqts_ok follows Proofs.Tryz.func65 (c := Proofs.Tryz.f65.body.get rfl) rfl (by decide) (by kernel_rfl)  (H := H65) (N := 0) (shp := sh65)
     ((ev65 (by omega) rfl rfl rfl rfl (fun _ _ => rfl) (fun _ _ => rfl) x.1 x.2.1 x.2.2).trans h) (ar65.da x)
theorem k66 : TOk Proofs.Tryz.prog 66 t66 := TL_ok ar66.wk fun x v h =>
   pure_ofT (l := [TE.plain 48 (t48) k48]) (s := []) tys_ok eqts_ok follows Proofs.Tryz.func66 (c := Proofs.Tryz.f66.body.get rfl) rfl (by decide) (by kernel_rfl)  (H := H66) (N := 0) (shp := sh66)
     ((ev66 (by omega) rfl rfl rfl rfl (fun _ _ => rfl) x).trans h) (ar66.da x)
theorem k94 : TOk Proofs.Tryz.prog 94 t94 := TL_ok ar94.wk fun x v h =>
   pure_ofT (l := []) (s := []) tys_ok eqts_ok follows Proofs.Tryz.func94 (c := Proofs.Tryz.f94.body.get rfl) rfl (by decide) (by kernel_rfl)  (H := H94) (N := 0) (shp := sh94)
     ((ev94 (by omega) rfl rfl rfl rfl  x.1 x.2).trans h) (ar94.da x)
theorem k96 : TOk Proofs.Tryz.prog 96 t96 := TL_ok ar96.wk fun x v h =>
   pure_ofT (l := []) (s := []) tys_ok eqts_ok follows Proofs.Tryz.func96 (c := Proofs.Tryz.f96.body.get rfl) rfl (by decide) (by kernel_rfl)  (H := H96) (N := 0) (shp := sh96)
     ((ev96 (by omega) rfl rfl rfl rfl  x.1 x.2).trans h) (ar96.da x)
theorem k61 : ∀ (N : Nat), N ≤ 4611686018427387904 → TOk Proofs.Tryz.prog 61 (t61 N)
 | 0, _ => TL_ok ar61.wk fun x v h => by have h : none = some v := h; cases h
 | N + 1, hN => TL_ok ar61.wk fun x v h =>
   pure_ofT (l := [TE.plain 94 (t94) k94, TE.plain 95 (t95) k95, TE.plain 96 (t96) k96, TE.plain 61 (t61 N) (k61 N (by omega))]) (s := []) tys_ok eqts_ok follows Proofs.Tryz.func61 (c := Proofs.Tryz.f61.body.get rfl) rfl (by decide) (by kernel_rfl)  (H := H61) (N := N) (shp := sh61)
     ((ev61 (by omega) (F18 N) rfl rfl rfl rfl (fun _ _ => rfl) (fun _ _ => rfl) (fun _ _ => rfl) (fun _ _ => rfl) x.1 x.2).trans h) (ar61.da x)
theorem k47 (N : Nat) (hN : N ≤ 4611686018427387904) : TOk Proofs.Tryz.prog 47 (t47 N) := TL_ok ar47.wk fun x v h =>
   pure_ofT (l := [TE.plain 65 (t65) k65, TE.plain 66 (t66) k66, TE.plain 61 (t61 N) (k61 N (by omega))]) (s := []) tys_ok eqts_ok follows Proofs.Tryz.func47 (c := Proofs.Tryz.f47.body.get rfl) rfl (by decide) (by kernel_rfl)  (H := H47) (N := N) (shp := sh47)
     ((ev47 (by omega) rfl rfl rfl rfl (fun _ _ => rfl) (fun _ _ => rfl) (fun _ _ => rfl) x.1 x.2.1 x.2.2.1 x.2.2.2).trans h) (ar47.da x)
theorem k36 : ∀ (N : Nat), N ≤ 4611686018427387904 → TOk Proofs.Tryz.prog 36 (t36 N)
 | 0, _ => TL_ok ar36.wk fun x v h => by have h : none = some v := h; cases h
 | N + 1, hN => TL_ok ar36.wk fun x v h =>
   pure_ofT (l := [TE.plain 48 (t48) k48, TE.inl tys eqts [TE.plain 36 (t36 N) (k36 N (by omega)), TE.plain 47 (t47 N) (k47 N (by omega))] [] tys_ok eqts_ok follows 59 Proofs.Tryz.f59 Proofs.Tryz.func59 (c := Proofs.Tryz.f59.body.get rfl) rfl (by decide) (by kernel_rfl) H59 N, TE.plain 36 (t36 N) (k36 N (by omega)), TE.plain 47 (t47 N) (k47 N (by omega))]) (s := []) tys_ok eqts_ok follows Proofs.Tryz.func36 (c := Proofs.Tryz.f36.body.get rfl) rfl (by decide) (by kernel_rfl)  (H := H36) (N := N) (shp := sh36)
     ((ev36 (E59 := fun n0 => mkT Proofs.Tryz.prog n0 tys eqts [TE.plain 36 (t36 N) (k36 N (by omega)), TE.plain 47 (t47 N) (k47 N (by omega))] []) (by omega) (F85 N) rfl rfl rfl rfl (fun _ _ => rfl) (fun _ _ => rfl) (fun _ _ => rfl) (fun _ _ => rfl) (fun _ => rfl) (fun _ => rfl) (fun _ => rfl) (fun _ => rfl) (fun _ _ _ => rfl) (fun _ _ _ => rfl) x).trans h) (ar36.da x)
theorem k103 : ∀ (N : Nat), N ≤ 4611686018427387904 → TOk Proofs.Tryz.prog 103 (t103 N)
 | 0, _ => TL_ok ar103.wk fun x v h => by have h : none = some v := h; cases h
 | N + 1, hN => TL_ok ar103.wk fun x v h =>
   pure_ofT (l := [te132, TE.plain 103 (t103 N) (k103 N (by omega))]) (s := []) tys_ok eqts_ok follows Proofs.Tryz.func103 (c := Proofs.Tryz.f103.body.get rfl) rfl (by decide) (by kernel_rfl)  (H := H103) (N := N) (shp := sh103)
     ((ev103 (by omega) (F82 N) rfl rfl rfl rfl (fun _ _ => rfl) (fun _ _ => rfl) x).trans h) (ar103.da x)
theorem k69 : ∀ (N : Nat), N ≤ 4611686018427387904 → TOk Proofs.Tryz.prog 69 (t69 N)
 | 0, _ => TL_ok ar69.wk fun x v h => by have h : none = some v := h; cases h
 | N + 1, hN => TL_ok ar69.wk fun x v h =>
   pure_ofT (l := [TE.plain 103 (t103 N) (k103 N (by omega)), TE.plain 69 (t69 N) (k69 N (by omega))]) (s := []) tys_ok eqts_ok follows Proofs.Tryz.func69 (c := Proofs.Tryz.f69.body.get rfl) rfl (by decide) (by kernel_rfl)  (H := H69) (N := N) (shp := sh69)
     ((ev69 (by omega) (F22 N) rfl rfl rfl rfl (fun _ _ => rfl) (fun _ _ => rfl) x.1 x.2.1 x.2.2).trans h) (ar69.da x)
theorem k41 (N : Nat) (hN : N ≤ 4611686018427387904) : TOk Proofs.Tryz.prog 41 (t41 N) := TL_ok ar41.wk fun x v h =>
   pure_ofT (l := [TE.plain 69 (t69 N) (k69 N (by omega))]) (s := []) tys_ok eqts_ok follows Proofs.Tryz.func41 (c := Proofs.Tryz.f41.body.get rfl) rfl (by decide) (by kernel_rfl)  (H := H41) (N := N) (shp := sh41)
     ((ev41 (by omega) rfl rfl rfl rfl (fun _ _ => rfl) x.1 x.2.1 x.2.2).trans h) (ar41.da x)
theorem k23 (N : Nat) (hN : N ≤ 4611686018427387904) : TOk Proofs.Tryz.prog 23 (t23 N) := TL_ok ar23.wk fun x v h =>
   pure_ofT (l := [te40, TE.plain 41 (t41 N) (k41 N (by omega))]) (s := []) tys_ok eqts_ok follows Proofs.Tryz.func23 (c := Proofs.Tryz.f23.body.get rfl) rfl (by decide) (by kernel_rfl)  (H := H23) (N := N) (shp := sh23)
     ((ev23 (by omega) rfl rfl rfl rfl (fun _ _ => rfl) (fun _ _ => rfl) x).trans h) (ar23.da x)
theorem k18 (N : Nat) (hN : N ≤ 4611686018427387904) : TOk Proofs.Tryz.prog 18 (t18 N) := TL_ok ar18.wk fun x v h =>
   pure_ofT (l := [TE.plain 34 (t34 N) (k34 N (by omega)), TE.plain 35 (t35 N) (k35 N (by omega)), TE.plain 36 (t36 N) (k36 N (by omega)), TE.plain 23 (t23 N) (k23 N (by omega))]) (s := []) tys_ok eqts_ok follows Proofs.Tryz.func18 (c := Proofs.Tryz.f18.body.get rfl) rfl (by decide) (by kernel_rfl)  (H := H18) (N := N) (shp := sh18)
     ((ev18 (by omega) rfl rfl rfl rfl (fun _ _ => rfl) (fun _ _ => rfl) (fun _ _ => rfl) (fun _ _ => rfl) x).trans h) (ar18.da x)
theorem k6 (N : Nat) (hN : N ≤ 4611686018427387904) : TOk Proofs.Tryz.prog 6 (t6 N) := TL_ok ar6.wk fun x v h =>
   pure_ofT (l := [TE.plain 19 (t19) k19, TE.plain 18 (t18 N) (k18 N (by omega))]) (s := []) tys_ok eqts_ok follows Proofs.Tryz.func6 (c := Proofs.Tryz.f6.body.get rfl) rfl (by decide) (by kernel_rfl)  (H := H6) (N := N) (shp := sh6)
     ((ev6 (by omega) rfl rfl rfl rfl (fun _ _ => rfl) (fun _ _ => rfl) ).trans h) (ar6.da x)
theorem k8 (N : Nat) (hN : N ≤ 4611686018427387904) : TOk Proofs.Tryz.prog 8 (t8 N) := TL_ok ar8.wk fun x v h =>
   pure_ofT (l := []) (s := []) tys_ok eqts_ok follows Proofs.Tryz.func8 (c := Proofs.Tryz.f8.body.get rfl) rfl (by decide) (by kernel_rfl)  (H := H8) (N := N) (shp := sh8)
     ((ev8 (by omega) rfl rfl rfl rfl  x).trans h) (ar8.da x)
theorem k20 : ∀ (N : Nat), N ≤ 4611686018427387904 → TOk Proofs.Tryz.prog 20 (t20 N)
 | 0, _ => TL_ok ar20.wk fun x v h => by have h : none = some v := h; cases h
 | N + 1, hN => TL_ok ar20.wk fun x v h =>
   pure_ofT (l := [TE.plain 20 (t20 N) (k20 N (by omega))]) (s := []) tys_ok eqts_ok follows Proofs.Tryz.func20 (c := Proofs.Tryz.f20.body.get rfl) rfl (by decide) (by kernel_rfl)  (H := H20) (N := N) (shp := sh20)
     ((ev20 (by omega) (F27 N) rfl rfl rfl rfl (fun _ _ => rfl) x).trans h) (ar20.da x)
theorem k7 (N : Nat) (hN : N ≤ 4611686018427387904) : TOk Proofs.Tryz.prog 7 (t7 N) := TL_ok ar7.wk fun x v h =>
   pure_ofT (l := [TE.plain 20 (t20 N) (k20 N (by omega))]) (s := []) tys_ok eqts_ok follows Proofs.Tryz.func7 (c := Proofs.Tryz.f7.body.get rfl) rfl (by decide) (by kernel_rfl)  (H := H7) (N := N) (shp := sh7)
     ((ev7 (by omega) rfl rfl rfl rfl (fun _ _ => rfl) x).trans h) (ar7.da x)
theorem k12 : ∀ (N : Nat), N ≤ 4611686018427387904 → TOk Proofs.Tryz.prog 12 (t12 N)
 | 0, _ => TL_ok ar12.wk fun x v h => by have h : none = some v := h; cases h
 | N + 1, hN => TL_ok ar12.wk fun x v h =>
   pure_ofT (l := [TE.plain 12 (t12 N) (k12 N (by omega))]) (s := []) tys_ok eqts_ok follows Proofs.Tryz.func12 (c := Proofs.Tryz.f12.body.get rfl) rfl (by decide) (by kernel_rfl)  (H := H12) (N := N) (shp := sh12)
     ((ev12 (by omega) (F1006 N) rfl rfl rfl rfl (fun _ _ => rfl) x).trans h) (ar12.da x)
theorem k60 (N : Nat) (hN : N ≤ 4611686018427387904) : TOk Proofs.Tryz.prog 60 (t60 N) := TL_ok ar60.wk fun x v h =>
   pure_ofT (l := [TE.plain 34 (t34 N) (k34 N (by omega)), TE.plain 35 (t35 N) (k35 N (by omega))]) (s := []) tys_ok eqts_ok follows Proofs.Tryz.func60 (c := Proofs.Tryz.f60.body.get rfl) rfl (by decide) (by kernel_rfl)  (H := H60) (N := N) (shp := sh60)
     ((ev60 (by omega) rfl rfl rfl rfl (fun _ _ => rfl) (fun _ _ => rfl) x).trans h) (ar60.da x)
theorem k37 (N : Nat) (hN : N ≤ 4611686018427387904) : TOk Proofs.Tryz.prog 37 (t37 N) := TL_ok ar37.wk fun x v h =>
   pure_ofT (l := [TE.plain 48 (t48) k48, TE.plain 60 (t60 N) (k60 N (by omega)), TE.plain 61 (t61 N) (k61 N (by omega))]) (s := []) tys_ok eqts_ok follows Proofs.Tryz.func37 (c := Proofs.Tryz.f37.body.get rfl) rfl (by decide) (by kernel_rfl)  (H := H37) (N := N) (shp := sh37)
     ((ev37 (by omega) rfl rfl rfl rfl (fun _ _ => rfl) (fun _ _ => rfl) (fun _ _ => rfl) x).trans h) (ar37.da x)
theorem k21 (N : Nat) (hN : N ≤ 4611686018427387904) : TOk Proofs.Tryz.prog 21 (t21 N) := TL_ok ar21.wk fun x v h =>
   pure_ofT (l := [TE.plain 37 (t37 N) (k37 N (by omega))]) (s := []) tys_ok eqts_ok follows Proofs.Tryz.func21 (c := Proofs.Tryz.f21.body.get rfl) rfl (by decide) (by kernel_rfl)  (H := H21) (N := N) (shp := sh21)
     ((ev21 (by omega) rfl rfl rfl rfl (fun _ _ => rfl) x).trans h) (ar21.da x)
theorem k28 : ∀ (N : Nat), N ≤ 4611686018427387904 → TOk Proofs.Tryz.prog 28 (t28 N)
 | 0, _ => TL_ok ar28.wk fun x v h => by have h : none = some v := h; cases h
 | N + 1, hN => TL_ok ar28.wk fun x v h =>
   pure_ofT (l := [TE.plain 28 (t28 N) (k28 N (by omega))]) (s := []) tys_ok eqts_ok follows Proofs.Tryz.func28 (c := Proofs.Tryz.f28.body.get rfl) rfl (by decide) (by kernel_rfl)  (H := H28) (N := N) (shp := sh28)
     ((ev28 (by omega) (F1014 N) rfl rfl rfl rfl (fun _ _ => rfl) x.1 x.2).trans h) (ar28.da x)
theorem k2002 (N : Nat) (hN : N ≤ 4611686018427387904) : TSOk Proofs.Tryz.prog 38 1 (t2002 N) := TLS_ok (fun x => ar2002.wk x.1) (fun x => st2002.wk x.2) fun x v s' h =>
   lens_ofT (l := [TE.inl tys eqts [TE.plain 61 (t61 N) (k61 N (by omega))] [] tys_ok eqts_ok follows 62 Proofs.Tryz.f62 Proofs.Tryz.func62 (c := Proofs.Tryz.f62.body.get rfl) rfl (by decide) (by kernel_rfl) H62 N, te63, te64, TE.plain 65 (t65) k65, TE.plain 66 (t66) k66]) (s := []) tys_ok eqts_ok follows Proofs.Tryz.func38 (c := Proofs.Tryz.f38.body.get rfl) rfl (by kernel_rfl)  (H := H2002) (N := N) (ms := [.give, .give]) (shp := sh2002) (sho := sw2002)
     ((ev2002 (N := N) (E62 := fun n0 => mkT Proofs.Tryz.prog n0 tys eqts [TE.plain 61 (t61 N) (k61 N (by omega))] []) (by omega) rfl rfl rfl rfl (fun _ _ => rfl) (fun _ _ => rfl) (fun _ _ => rfl) (fun _ _ => rfl) (fun _ _ => rfl) (fun _ => rfl) (fun _ => rfl) (fun _ => rfl) (fun _ => rfl) (fun _ _ _ => rfl) x.1.1 x.2.1).trans h) rfl (by decide)
theorem k67 (N : Nat) (hN : N ≤ 4611686018427387904) : TOk Proofs.Tryz.prog 67 (t67 N) := TL_ok ar67.wk fun x v h =>
   pure_ofT (l := []) (s := []) tys_ok eqts_ok follows Proofs.Tryz.func67 (c := Proofs.Tryz.f67.body.get rfl) rfl (by decide) (by kernel_rfl)  (H := H67) (N := N) (shp := sh67)
     ((ev67 (by omega) rfl rfl rfl rfl  x).trans h) (ar67.da x)
theorem k68 : TOk Proofs.Tryz.prog 68 t68 := TL_ok ar68.wk fun x v h =>
   pure_ofT (l := []) (s := []) tys_ok eqts_ok follows Proofs.Tryz.func68 (c := Proofs.Tryz.f68.body.get rfl) rfl (by decide) (by kernel_rfl)  (H := H68) (N := 0) (shp := sh68)
     ((ev68 (by omega) rfl rfl rfl rfl  x.1 x.2).trans h) (ar68.da x)
theorem k39 (N : Nat) (hN : N ≤ 4611686018427387904) : TOk Proofs.Tryz.prog 39 (t39 N) := TL_ok ar39.wk fun x v h =>
   pure_ofT (l := [TE.plain 67 (t67 N) (k67 N (by omega)), TE.plain 68 (t68) k68]) (s := []) tys_ok eqts_ok follows Proofs.Tryz.func39 (c := Proofs.Tryz.f39.body.get rfl) rfl (by decide) (by kernel_rfl)  (H := H39) (N := N) (shp := sh39)
     ((ev39 (by omega) rfl rfl rfl rfl (fun _ _ => rfl) (fun _ _ => rfl) x).trans h) (ar39.da x)
theorem k2001 (N : Nat) (hN : N ≤ 4611686018427387904) : TSOk Proofs.Tryz.prog 22 1 (t2001 N) := TLS_ok (fun x => ar2001.wk x.1) (fun x => st2001.wk x.2) fun x v s' h =>
   lens_ofT (l := [TE.lens 38 1 [.lend, .keep] (t2002 N) Proofs.Tryz.func38 (c := Proofs.Tryz.f38.body.get rfl) rfl (by decide) (k2002 N (by omega)), TE.plain 39 (t39 N) (k39 N (by omega))]) (s := []) tys_ok eqts_ok follows Proofs.Tryz.func22 (c := Proofs.Tryz.f22.body.get rfl) rfl (by kernel_rfl)  (H := H2001) (N := N) (ms := [.give, .give]) (shp := sh2001) (sho := sw2001)
     ((ev2001 (N := N) (by omega) rfl rfl rfl rfl (fun _ _ => rfl) (fun _ _ => rfl) x.1.1 x.2.1).trans h) rfl (by decide)
theorem k46 (N : Nat) (hN : N ≤ 4611686018427387904) : TOk Proofs.Tryz.prog 46 (t46 N) := TL_ok ar46.wk fun x v h =>
   pure_ofT (l := [TE.plain 21 (t21 N) (k21 N (by omega))]) (s := []) tys_ok eqts_ok follows Proofs.Tryz.func46 (c := Proofs.Tryz.f46.body.get rfl) rfl (by decide) (by kernel_rfl)  (H := H46) (N := N) (shp := sh46)
     ((ev46 (by omega) rfl rfl rfl rfl (fun _ _ => rfl) x).trans h) (ar46.da x)
theorem k2000 : ∀ (N : Nat), N ≤ 4611686018427387904 → TSOk Proofs.Tryz.prog 29 0 (t2000 N)
 | 0, _ => TLS_ok (fun x => ar2000.wk x.1) (fun x => st2000.wk x.2) fun x v s' h => by have h : none = some (v, s') := h; cases h
 | N + 1, hN => TLS_ok (fun x => ar2000.wk x.1) (fun x => st2000.wk x.2) fun x v s' h =>
   lens_ofTA ali2000 [29] (l := [TE.lens 22 1 [.lend, .keep] (t2001 N) Proofs.Tryz.func22 (c := Proofs.Tryz.f22.body.get rfl) rfl (by decide) (k2001 N (by omega)), TE.plain 46 (t46 N) (k46 N (by omega)), TE.plain 37 (t37 N) (k37 N (by omega)), TE.plain 47 (t47 N) (k47 N (by omega)), TE.plain 48 (t48) k48, TE.lens 29 0 [.app 3, .keep] (t2000 N) Proofs.Tryz.func29 (c := Proofs.Tryz.f29.body.get rfl) rfl (by decide) (k2000 N (by omega))]) (s := []) tys_ok eqts_ok follows Proofs.Tryz.func29 (c := Proofs.Tryz.f29.body.get rfl) rfl (by kernel_rfl) (growT_cons (fun _ _ _ _ h => gr2000 N _ _ _ _ h) growT_nil) (H := H2000) (N := N) (ms := [.give]) (shp := sh2000) (sho := sw2000)
     ((ev2000 (N := N) (by omega) (F1387 N) rfl rfl rfl rfl (fun _ _ => rfl) (fun _ _ => rfl) (fun _ _ => rfl) (fun _ _ => rfl) (fun _ _ => rfl) (fun _ _ => rfl) x.1.1 x.2.1).trans h) rfl (by decide)
theorem k14 (N : Nat) (hN : N ≤ 4611686018427387904) : TOk Proofs.Tryz.prog 14 (t14 N) := TL_ok ar14.wk fun x v h =>
   pure_ofTA ali14 [29] (l := [TE.plain 21 (t21 N) (k21 N (by omega)), TE.plain 28 (t28 N) (k28 N (by omega)), TE.lens 29 0 [.app 3, .keep] (t2000 N) Proofs.Tryz.func29 (c := Proofs.Tryz.f29.body.get rfl) rfl (by decide) (k2000 N (by omega))]) (s := []) tys_ok eqts_ok follows Proofs.Tryz.func14 (c := Proofs.Tryz.f14.body.get rfl) rfl (by decide) (by kernel_rfl) (growT_cons (fun _ _ _ _ h => gr2000 N _ _ _ _ h) growT_nil) (H := H14) (N := N) (shp := sh14)
     ((ev14 (by omega) rfl rfl rfl rfl (fun _ _ => rfl) (fun _ _ => rfl) (fun _ _ => rfl) x.1 x.2).trans h) (ar14.da x)
theorem k16 : TOk Proofs.Tryz.prog 16 t16 := TL_ok ar16.wk fun x v h =>
   pure_ofT (l := []) (s := []) tys_ok eqts_ok follows Proofs.Tryz.func16 (c := Proofs.Tryz.f16.body.get rfl) rfl (by decide) (by kernel_rfl)  (H := H16) (N := 0) (shp := sh16)
     ((ev16 (by omega) rfl rfl rfl rfl  x).trans h) (ar16.da x)
theorem k81 : ∀ (N : Nat), N ≤ 4611686018427387904 → TOk Proofs.Tryz.prog 81 (t81 N)
 | 0, _ => TL_ok ar81.wk fun x v h => by have h : none = some v := h; cases h
 | N + 1, hN => TL_ok ar81.wk fun x v h =>
   pure_ofT (l := [TE.plain 81 (t81 N) (k81 N (by omega))]) (s := []) tys_ok eqts_ok follows Proofs.Tryz.func81 (c := Proofs.Tryz.f81.body.get rfl) rfl (by decide) (by kernel_rfl)  (H := H81) (N := N) (shp := sh81)
     ((ev81 (by omega) (F39 N) rfl rfl rfl rfl (fun _ _ => rfl) x).trans h) (ar81.da x)
theorem k134 : TOk Proofs.Tryz.prog 134 t134 := TL_ok ar134.wk fun x v h =>
   pure_ofT (l := []) (s := []) tys_ok eqts_ok follows Proofs.Tryz.func134 (c := Proofs.Tryz.f134.body.get rfl) rfl (by decide) (by kernel_rfl)  (H := H134) (N := 0) (shp := sh134)
     ((ev134 (by omega) rfl rfl rfl rfl  x).trans h) (ar134.da x)
theorem k149 : TOk Proofs.Tryz.prog 149 t149 := TL_ok ar149.wk fun x v h =>
   pure_ofT (l := []) (s := []) tys_ok eqts_ok follows Proofs.Tryz.func149 (c := Proofs.Tryz.f149.body.get rfl) rfl (by decide) (by kernel_rfl)  (H := H149) (N := 0) (shp := sh149)
     ((ev149 (by omega) rfl rfl rfl rfl  ).trans h) (ar149.da x)
theorem k135 (N : Nat) (hN : N ≤ 4611686018427387904) : TOk Proofs.Tryz.prog 135 (t135 N) := TL_ok ar135.wk fun x v h =>
   pure_ofT (l := [TE.plain 149 (t149) k149]) (s := []) tys_ok eqts_ok follows Proofs.Tryz.func135 (c := Proofs.Tryz.f135.body.get rfl) rfl (by decide) (by kernel_rfl)  (H := H135) (N := N) (shp := sh135)
     ((ev135 (by omega) rfl rfl rfl rfl (fun _ _ => rfl) x).trans h) (ar135.da x)
theorem k136 : TOk Proofs.Tryz.prog 136 t136 := TL_ok ar136.wk fun x v h =>
   pure_ofT (l := []) (s := []) tys_ok eqts_ok follows Proofs.Tryz.func136 (c := Proofs.Tryz.f136.body.get rfl) rfl (by decide) (by kernel_rfl)  (H := H136) (N := 0) (shp := sh136)
     ((ev136 (by omega) rfl rfl rfl rfl  x).trans h) (ar136.da x)
theorem k114 (N : Nat) (hN : N ≤ 4611686018427387904) : TOk Proofs.Tryz.prog 114 (t114 N) := TL_ok ar114.wk fun x v h =>
   pure_ofT (l := [TE.plain 134 (t134) k134, TE.plain 135 (t135 N) (k135 N (by omega)), TE.plain 136 (t136) k136]) (s := []) tys_ok eqts_ok follows Proofs.Tryz.func114 (c := Proofs.Tryz.f114.body.get rfl) rfl (by decide) (by kernel_rfl)  (H := H114) (N := N) (shp := sh114)
     ((ev114 (by omega) rfl rfl rfl rfl (fun _ _ => rfl) (fun _ _ => rfl) (fun _ _ => rfl) x).trans h) (ar114.da x)
theorem k109 (N : Nat) (hN : N ≤ 4611686018427387904) : TOk Proofs.Tryz.prog 109 (t109 N) := TL_ok ar109.wk fun x v h =>
   pure_ofT (l := [TE.plain 114 (t114 N) (k114 N (by omega))]) (s := []) tys_ok eqts_ok follows Proofs.Tryz.func109 (c := Proofs.Tryz.f109.body.get rfl) rfl (by decide) (by kernel_rfl)  (H := H109) (N := N) (shp := sh109)
     ((ev109 (by omega) rfl rfl rfl rfl (fun _ _ => rfl) x).trans h) (ar109.da x)
theorem k84 : ∀ (N : Nat), N ≤ 4611686018427387904 → TOk Proofs.Tryz.prog 84 (t84 N)
 | 0, _ => TL_ok ar84.wk fun x v h => by have h : none = some v := h; cases h
 | N + 1, hN => TL_ok ar84.wk fun x v h =>
   pure_ofT (l := [TE.plain 84 (t84 N) (k84 N (by omega))]) (s := []) tys_ok eqts_ok follows Proofs.Tryz.func84 (c := Proofs.Tryz.f84.body.get rfl) rfl (by decide) (by kernel_rfl)  (H := H84) (N := N) (shp := sh84)
     ((ev84 (by omega) (F28 N) rfl rfl rfl rfl (fun _ _ => rfl) x).trans h) (ar84.da x)
theorem k110 : TOk Proofs.Tryz.prog 110 t110 := TL_ok ar110.wk fun x v h =>
   pure_ofT (l := []) (s := []) tys_ok eqts_ok follows Proofs.Tryz.func110 (c := Proofs.Tryz.f110.body.get rfl) rfl (by decide) (by kernel_rfl)  (H := H110) (N := 0) (shp := sh110)
     ((ev110 (by omega) rfl rfl rfl rfl  x).trans h) (ar110.da x)
theorem k111 : TOk Proofs.Tryz.prog 111 t111 := TL_ok ar111.wk fun x v h =>
   pure_ofT (l := []) (s := []) tys_ok eqts_ok follows Proofs.Tryz.func111 (c := Proofs.Tryz.f111.body.get rfl) rfl (by decide) (by kernel_rfl)  (H := H111) (N := 0) (shp := sh111)
     ((ev111 (by omega) rfl rfl rfl rfl  x).trans h) (ar111.da x)
theorem k82 : ∀ (N : Nat), N ≤ 4611686018427387904 → TOk Proofs.Tryz.prog 82 (t82 N)
 | 0, _ => TL_ok ar82.wk fun x v h => by have h : none = some v := h; cases h
 | N + 1, hN => TL_ok ar82.wk fun x v h =>
   pure_ofT (l := [TE.plain 109 (t109 N) (k109 N (by omega)), TE.plain 82 (t82 N) (k82 N (by omega)), TE.plain 84 (t84 N) (k84 N (by omega)), TE.plain 110 (t110) k110, TE.plain 111 (t111) k111]) (s := []) tys_ok eqts_ok follows Proofs.Tryz.func82 (c := Proofs.Tryz.f82.body.get rfl) rfl (by decide) (by kernel_rfl)  (H := H82) (N := N) (shp := sh82)
     ((ev82 (by omega) (F72 N) rfl rfl rfl rfl (fun _ _ => rfl) (fun _ _ => rfl) (fun _ _ => rfl) (fun _ _ => rfl) (fun _ _ => rfl) x).trans h) (ar82.da x)
theorem k151 : TOk Proofs.Tryz.prog 151 t151 := TL_ok ar151.wk fun x v h =>
   pure_ofT (l := []) (s := []) tys_ok eqts_ok follows Proofs.Tryz.func151 (c := Proofs.Tryz.f151.body.get rfl) rfl (by decide) (by kernel_rfl)  (H := H151) (N := 0) (shp := sh151)
     ((ev151 (by omega) rfl rfl rfl rfl  x.1 x.2).trans h) (ar151.da x)
theorem k148 (N : Nat) (hN : N ≤ 4611686018427387904) : TOk Proofs.Tryz.prog 148 (t148 N) := TL_ok ar148.wk fun x v h =>
   pure_ofT (l := [TE.plain 151 (t151) k151]) (s := []) tys_ok eqts_ok follows Proofs.Tryz.func148 (c := Proofs.Tryz.f148.body.get rfl) rfl (by decide) (by kernel_rfl)  (H := H148) (N := N) (shp := sh148)
     ((ev148 (by omega) rfl rfl rfl rfl (fun _ _ => rfl) x.1 x.2).trans h) (ar148.da x)
theorem k133 : ∀ (N : Nat), N ≤ 4611686018427387904 → TOk Proofs.Tryz.prog 133 (t133 N)
 | 0, _ => TL_ok ar133.wk fun x v h => by have h : none = some v := h; cases h
 | N + 1, hN => TL_ok ar133.wk fun x v h =>
   pure_ofT (l := [TE.plain 148 (t148 N) (k148 N (by omega)), TE.plain 133 (t133 N) (k133 N (by omega))]) (s := []) tys_ok eqts_ok follows Proofs.Tryz.func133 (c := Proofs.Tryz.f133.body.get rfl) rfl (by decide) (by kernel_rfl)  (H := H133) (N := N) (shp := sh133)
     ((ev133 (by omega) (F95 N) rfl rfl rfl rfl (fun _ _ => rfl) (fun _ _ => rfl) x.1 x.2).trans h) (ar133.da x)
theorem k112 (N : Nat) (hN : N ≤ 4611686018427387904) : TOk Proofs.Tryz.prog 112 (t112 N) := TL_ok ar112.wk fun x v h =>
   pure_ofT (l := [TE.plain 133 (t133 N) (k133 N (by omega))]) (s := []) tys_ok eqts_ok follows Proofs.Tryz.func112 (c := Proofs.Tryz.f112.body.get rfl) rfl (by decide) (by kernel_rfl)  (H := H112) (N := N) (shp := sh112)
     ((ev112 (by omega) rfl rfl rfl rfl (fun _ _ => rfl) x).trans h) (ar112.da x)
theorem k113 : ∀ (N : Nat), N ≤ 4611686018427387904 → TOk Proofs.Tryz.prog 113 (t113 N)
 | 0, _ => TL_ok ar113.wk fun x v h => by have h : none = some v := h; cases h
 | N + 1, hN => TL_ok ar113.wk fun x v h =>
   pure_ofT (l := [TE.plain 113 (t113 N) (k113 N (by omega))]) (s := []) tys_ok eqts_ok follows Proofs.Tryz.func113 (c := Proofs.Tryz.f113.body.get rfl) rfl (by decide) (by kernel_rfl)  (H := H113) (N := N) (shp := sh113)
     ((ev113 (by omega) (F92 N) rfl rfl rfl rfl (fun _ _ => rfl) x.1 x.2).trans h) (ar113.da x)
theorem k83 (N : Nat) (hN : N ≤ 4611686018427387904) : TOk Proofs.Tryz.prog 83 (t83 N) := TL_ok ar83.wk fun x v h =>
   pure_ofT (l := [TE.plain 112 (t112 N) (k112 N (by omega)), TE.plain 113 (t113 N) (k113 N (by omega))]) (s := []) tys_ok eqts_ok follows Proofs.Tryz.func83 (c := Proofs.Tryz.f83.body.get rfl) rfl (by decide) (by kernel_rfl)  (H := H83) (N := N) (shp := sh83)
     ((ev83 (by omega) rfl rfl rfl rfl (fun _ _ => rfl) (fun _ _ => rfl) x).trans h) (ar83.da x)
theorem k52 (N : Nat) (hN : N ≤ 4611686018427387904) : TOk Proofs.Tryz.prog 52 (t52 N) := TL_ok ar52.wk fun x v h =>
   pure_ofT (l := [TE.plain 20 (t20 N) (k20 N (by omega)), TE.plain 81 (t81 N) (k81 N (by omega)), TE.plain 82 (t82 N) (k82 N (by omega)), TE.plain 83 (t83 N) (k83 N (by omega)), TE.plain 84 (t84 N) (k84 N (by omega))]) (s := []) tys_ok eqts_ok follows Proofs.Tryz.func52 (c := Proofs.Tryz.f52.body.get rfl) rfl (by decide) (by kernel_rfl)  (H := H52) (N := N) (shp := sh52)
     ((ev52 (by omega) rfl rfl rfl rfl (fun _ _ => rfl) (fun _ _ => rfl) (fun _ _ => rfl) (fun _ _ => rfl) (fun _ _ => rfl) x.1 x.2).trans h) (ar52.da x)
theorem k53 : ∀ (N : Nat), N ≤ 4611686018427387904 → TOk Proofs.Tryz.prog 53 (t53 N)
 | 0, _ => TL_ok ar53.wk fun x v h => by have h : none = some v := h; cases h
 | N + 1, hN => TL_ok ar53.wk fun x v h =>
   pure_ofT (l := [TE.plain 53 (t53 N) (k53 N (by omega))]) (s := []) tys_ok eqts_ok follows Proofs.Tryz.func53 (c := Proofs.Tryz.f53.body.get rfl) rfl (by decide) (by kernel_rfl)  (H := H53) (N := N) (shp := sh53)
     ((ev53 (by omega) (F43 N) rfl rfl rfl rfl (fun _ _ => rfl) x).trans h) (ar53.da x)
theorem k137 : TOk Proofs.Tryz.prog 137 t137 := TL_ok ar137.wk fun x v h =>
   pure_ofT (l := []) (s := []) tys_ok eqts_ok follows Proofs.Tryz.func137 (c := Proofs.Tryz.f137.body.get rfl) rfl (by decide) (by kernel_rfl)  (H := H137) (N := 0) (shp := sh137)
     ((ev137 (by omega) rfl rfl rfl rfl  x).trans h) (ar137.da x)
theorem k138 (N : Nat) (hN : N ≤ 4611686018427387904) : TOk Proofs.Tryz.prog 138 (t138 N) := TL_ok ar138.wk fun x v h =>
   pure_ofT (l := [TE.plain 137 (t137) k137]) (s := []) tys_ok eqts_ok follows Proofs.Tryz.func138 (c := Proofs.Tryz.f138.body.get rfl) rfl (by decide) (by kernel_rfl)  (H := H138) (N := N) (shp := sh138)
     ((ev138 (by omega) rfl rfl rfl rfl (fun _ _ => rfl) x).trans h) (ar138.da x)
theorem k115 (N : Nat) (hN : N ≤ 4611686018427387904) : TOk Proofs.Tryz.prog 115 (t115 N) := TL_ok ar115.wk fun x v h =>
   pure_ofT (l := [TE.plain 137 (t137) k137, TE.plain 138 (t138 N) (k138 N (by omega))]) (s := []) tys_ok eqts_ok follows Proofs.Tryz.func115 (c := Proofs.Tryz.f115.body.get rfl) rfl (by decide) (by kernel_rfl)  (H := H115) (N := N) (shp := sh115)
     ((ev115 (by omega) rfl rfl rfl rfl (fun _ _ => rfl) (fun _ _ => rfl) x).trans h) (ar115.da x)
theorem k85 (N : Nat) (hN : N ≤ 4611686018427387904) : TOk Proofs.Tryz.prog 85 (t85 N) := TL_ok ar85.wk fun x v h =>
   pure_ofT (l := [TE.plain 114 (t114 N) (k114 N (by omega)), TE.plain 115 (t115 N) (k115 N (by omega))]) (s := []) tys_ok eqts_ok follows Proofs.Tryz.func85 (c := Proofs.Tryz.f85.body.get rfl) rfl (by decide) (by kernel_rfl)  (H := H85) (N := N) (shp := sh85)
     ((ev85 (by omega) rfl rfl rfl rfl (fun _ _ => rfl) (fun _ _ => rfl) x).trans h) (ar85.da x)
theorem k150 (N : Nat) (hN : N ≤ 4611686018427387904) : TOk Proofs.Tryz.prog 150 (t150 N) := TL_ok ar150.wk fun x v h =>
   pure_ofT (l := []) (s := []) tys_ok eqts_ok follows Proofs.Tryz.func150 (c := Proofs.Tryz.f150.body.get rfl) rfl (by decide) (by kernel_rfl)  (H := H150) (N := N) (shp := sh150)
     ((ev150 (by omega) rfl rfl rfl rfl  x.1 x.2).trans h) (ar150.da x)
theorem k139 (N : Nat) (hN : N ≤ 4611686018427387904) : TOk Proofs.Tryz.prog 139 (t139 N) := TL_ok ar139.wk fun x v h =>
   pure_ofT (l := [TE.plain 150 (t150 N) (k150 N (by omega))]) (s := []) tys_ok eqts_ok follows Proofs.Tryz.func139 (c := Proofs.Tryz.f139.body.get rfl) rfl (by decide) (by kernel_rfl)  (H := H139) (N := N) (shp := sh139)
     ((ev139 (by omega) rfl rfl rfl rfl (fun _ _ => rfl) x.1 x.2).trans h) (ar139.da x)
theorem k116 (N : Nat) (hN : N ≤ 4611686018427387904) : TOk Proofs.Tryz.prog 116 (t116 N) := TL_ok ar116.wk fun x v h =>
   pure_ofT (l := [TE.plain 139 (t139 N) (k139 N (by omega))]) (s := []) tys_ok eqts_ok follows Proofs.Tryz.func116 (c := Proofs.Tryz.f116.body.get rfl) rfl (by decide) (by kernel_rfl)  (H := H116) (N := N) (shp := sh116)
     ((ev116 (by omega) rfl rfl rfl rfl (fun _ _ => rfl) x.1 x.2).trans h) (ar116.da x)
theorem k86 (N : Nat) (hN : N ≤ 4611686018427387904) : TOk Proofs.Tryz.prog 86 (t86 N) := TL_ok ar86.wk fun x v h =>
   pure_ofT (l := [TE.plain 116 (t116 N) (k116 N (by omega))]) (s := []) tys_ok eqts_ok follows Proofs.Tryz.func86 (c := Proofs.Tryz.f86.body.get rfl) rfl (by decide) (by kernel_rfl)  (H := H86) (N := N) (shp := sh86)
     ((ev86 (by omega) rfl rfl rfl rfl (fun _ _ => rfl) x.1 x.2).trans h) (ar86.da x)
theorem k54 (N : Nat) (hN : N ≤ 4611686018427387904) : TOk Proofs.Tryz.prog 54 (t54 N) := TL_ok ar54.wk fun x v h =>
   pure_ofT (l := [TE.plain 85 (t85 N) (k85 N (by omega)), TE.plain 86 (t86 N) (k86 N (by omega))]) (s := []) tys_ok eqts_ok follows Proofs.Tryz.func54 (c := Proofs.Tryz.f54.body.get rfl) rfl (by decide) (by kernel_rfl)  (H := H54) (N := N) (shp := sh54)
     ((ev54 (by omega) rfl rfl rfl rfl (fun _ _ => rfl) (fun _ _ => rfl) x).trans h) (ar54.da x)
theorem k87 (N : Nat) (hN : N ≤ 4611686018427387904) : TOk Proofs.Tryz.prog 87 (t87 N) := TL_ok ar87.wk fun x v h =>
   pure_ofT (l := [TE.plain 116 (t116 N) (k116 N (by omega))]) (s := []) tys_ok eqts_ok follows Proofs.Tryz.func87 (c := Proofs.Tryz.f87.body.get rfl) rfl (by decide) (by kernel_rfl)  (H := H87) (N := N) (shp := sh87)
     ((ev87 (by omega) rfl rfl rfl rfl (fun _ _ => rfl) x.1 x.2.1 x.2.2.1 x.2.2.2).trans h) (ar87.da x)
theorem k117 : TOk Proofs.Tryz.prog 117 t117 := TL_ok ar117.wk fun x v h =>
   pure_ofT (l := [TE.plain 137 (t137) k137]) (s := []) tys_ok eqts_ok follows Proofs.Tryz.func117 (c := Proofs.Tryz.f117.body.get rfl) rfl (by decide) (by kernel_rfl)  (H := H117) (N := 0) (shp := sh117)
     ((ev117 (by omega) rfl rfl rfl rfl (fun _ _ => rfl) x).trans h) (ar117.da x)
theorem k118 : TOk Proofs.Tryz.prog 118 t118 := TL_ok ar118.wk fun x v h =>
   pure_ofT (l := [TE.plain 117 (t117) k117]) (s := []) tys_ok eqts_ok follows Proofs.Tryz.func118 (c := Proofs.Tryz.f118.body.get rfl) rfl (by decide) (by kernel_rfl)  (H := H118) (N := 0) (shp := sh118)
     ((ev118 (by omega) rfl rfl rfl rfl (fun _ _ => rfl) x.1 x.2).trans h) (ar118.da x)
theorem k140 (N : Nat) (hN : N ≤ 4611686018427387904) : TOk Proofs.Tryz.prog 140 (t140 N) := TL_ok ar140.wk fun x v h =>
   pure_ofT (l := []) (s := []) tys_ok eqts_ok follows Proofs.Tryz.func140 (c := Proofs.Tryz.f140.body.get rfl) rfl (by decide) (by kernel_rfl)  (H := H140) (N := N) (shp := sh140)
     ((ev140 (by omega) rfl rfl rfl rfl  x.1 x.2).trans h) (ar140.da x)
theorem k141 (N : Nat) (hN : N ≤ 4611686018427387904) : TOk Proofs.Tryz.prog 141 (t141 N) := TL_ok ar141.wk fun x v h =>
   pure_ofT (l := [TE.plain 140 (t140 N) (k140 N (by omega))]) (s := []) tys_ok eqts_ok follows Proofs.Tryz.func141 (c := Proofs.Tryz.f141.body.get rfl) rfl (by decide) (by kernel_rfl)  (H := H141) (N := N) (shp := sh141)
     ((ev141 (by omega) rfl rfl rfl rfl (fun _ _ => rfl) x.1 x.2).trans h) (ar141.da x)
theorem k119 (N : Nat) (hN : N ≤ 4611686018427387904) : TOk Proofs.Tryz.prog 119 (t119 N) := TL_ok ar119.wk fun x v h =>
   pure_ofT (l := [TE.plain 140 (t140 N) (k140 N (by omega)), TE.given 141 (t141 N) (k141 N (by omega))]) (s := []) tys_ok eqts_ok follows Proofs.Tryz.func119 (c := Proofs.Tryz.f119.body.get rfl) rfl (by decide) (by kernel_rfl)  (H := H119) (N := N) (shp := sh119)
     ((ev119 (by omega) rfl rfl rfl rfl (fun _ _ => rfl) (fun _ _ => rfl) x.1 x.2.1 x.2.2).trans h) (ar119.da x)
theorem k120 (N : Nat) (hN : N ≤ 4611686018427387904) : TOk Proofs.Tryz.prog 120 (t120 N) := TL_ok ar120.wk fun x v h =>
   pure_ofT (l := []) (s := []) tys_ok eqts_ok follows Proofs.Tryz.func120 (c := Proofs.Tryz.f120.body.get rfl) rfl (by decide) (by kernel_rfl)  (H := H120) (N := N) (shp := sh120)
     ((ev120 (by omega) rfl rfl rfl rfl  x.1 x.2).trans h) (ar120.da x)
theorem k121 (N : Nat) (hN : N ≤ 4611686018427387904) : TOk Proofs.Tryz.prog 121 (t121 N) := TL_ok ar121.wk fun x v h =>
   pure_ofT (l := [TE.plain 141 (t141 N) (k141 N (by omega)), TE.plain 120 (t120 N) (k120 N (by omega))]) (s := []) tys_ok eqts_ok follows Proofs.Tryz.func121 (c := Proofs.Tryz.f121.body.get rfl) rfl (by decide) (by kernel_rfl)  (H := H121) (N := N) (shp := sh121)
     ((ev121 (by omega) rfl rfl rfl rfl (fun _ _ => rfl) (fun _ _ => rfl) x.1 x.2.1 x.2.2).trans h) (ar121.da x)
theorem k142 : TOk Proofs.Tryz.prog 142 t142 := TL_ok ar142.wk fun x v h =>
   pure_ofT (l := []) (s := []) tys_ok eqts_ok follows Proofs.Tryz.func142 (c := Proofs.Tryz.f142.body.get rfl) rfl (by decide) (by kernel_rfl)  (H := H142) (N := 0) (shp := sh142)
     ((ev142 (by omega) rfl rfl rfl rfl  x).trans h) (ar142.da x)
theorem k122 (N : Nat) (hN : N ≤ 4611686018427387904) : TOk Proofs.Tryz.prog 122 (t122 N) := TL_ok ar122.wk fun x v h =>
   pure_ofT (l := [TE.plain 142 (t142) k142, TE.plain 139 (t139 N) (k139 N (by omega)), TE.plain 140 (t140 N) (k140 N (by omega))]) (s := []) tys_ok eqts_ok follows Proofs.Tryz.func122 (c := Proofs.Tryz.f122.body.get rfl) rfl (by decide) (by kernel_rfl)  (H := H122) (N := N) (shp := sh122)
     ((ev122 (by omega) rfl rfl rfl rfl (fun _ _ => rfl) (fun _ _ => rfl) (fun _ _ => rfl) x.1 x.2).trans h) (ar122.da x)
theorem k88 (N : Nat) (hN : N ≤ 4611686018427387904) : TOk Proofs.Tryz.prog 88 (t88 N) := TL_ok ar88.wk fun x v h =>
   pure_ofTA ali88 [] (l := [TE.plain 117 (t117) k117, TE.plain 118 (t118) k118, TE.plain 119 (t119 N) (k119 N (by omega)), TE.plain 120 (t120 N) (k120 N (by omega)), TE.plain 121 (t121 N) (k121 N (by omega)), TE.plain 122 (t122 N) (k122 N (by omega))]) (s := []) tys_ok eqts_ok follows Proofs.Tryz.func88 (c := Proofs.Tryz.f88.body.get rfl) rfl (by decide) (by kernel_rfl) growT_nil (H := H88) (N := N) (shp := sh88)
     ((ev88 (by omega) rfl rfl rfl rfl (fun _ _ => rfl) (fun _ _ => rfl) (fun _ _ => rfl) (fun _ _ => rfl) (fun _ _ => rfl) (fun _ _ => rfl) x.1 x.2).trans h) (ar88.da x)
theorem k55 : ∀ (N : Nat), N ≤ 4611686018427387904 → TOk Proofs.Tryz.prog 55 (t55 N)
 | 0, _ => TL_ok ar55.wk fun x v h => by have h : none = some v := h; cases h
 | N + 1, hN => TL_ok ar55.wk fun x v h =>
   pure_ofT (l := [TE.plain 55 (t55 N) (k55 N (by omega)), TE.plain 84 (t84 N) (k84 N (by omega)), TE.given 87 (t87 N) (k87 N (by omega)), TE.given 88 (t88 N) (k88 N (by omega))]) (s := []) tys_ok eqts_ok follows Proofs.Tryz.func55 (c := Proofs.Tryz.f55.body.get rfl) rfl (by decide) (by kernel_rfl)  (H := H55) (N := N) (shp := sh55)
     ((ev55 (by omega) (F127 N) rfl rfl rfl rfl (fun _ _ => rfl) (fun _ _ => rfl) (fun _ _ => rfl) (fun _ _ => rfl) x.1 x.2).trans h) (ar55.da x)
theorem k33 (N : Nat) (hN : N ≤ 4611686018427387904) : TOk Proofs.Tryz.prog 33 (t33 N) := TL_ok ar33.wk fun x v h =>
   pure_ofT (l := [TE.plain 52 (t52 N) (k52 N (by omega)), TE.plain 53 (t53 N) (k53 N (by omega)), TE.plain 54 (t54 N) (k54 N (by omega)), TE.plain 55 (t55 N) (k55 N (by omega))]) (s := []) tys_ok eqts_ok follows Proofs.Tryz.func33 (c := Proofs.Tryz.f33.body.get rfl) rfl (by decide) (by kernel_rfl)  (H := H33) (N := N) (shp := sh33)
     ((ev33 (by omega) rfl rfl rfl rfl (fun _ _ => rfl) (fun _ _ => rfl) (fun _ _ => rfl) (fun _ _ => rfl) x.1 x.2.1 x.2.2).trans h) (ar33.da x)
theorem k17 (N : Nat) (hN : N ≤ 4611686018427387904) : TOk Proofs.Tryz.prog 17 (t17 N) := TL_ok ar17.wk fun x v h =>
   pure_ofT (l := [TE.plain 33 (t33 N) (k33 N (by omega))]) (s := []) tys_ok eqts_ok follows Proofs.Tryz.func17 (c := Proofs.Tryz.f17.body.get rfl) rfl (by decide) (by kernel_rfl)  (H := H17) (N := N) (shp := sh17)
     ((ev17 (by omega) rfl rfl rfl rfl (fun _ _ => rfl) x.1 x.2).trans h) (ar17.da x)
theorem k5 (N : Nat) (hN : N ≤ 4611686018427387904) : TOk Proofs.Tryz.prog 5 (t5 N) := TL_ok ar5.wk fun x v h =>
   pure_ofT (l := [TE.plain 6 (t6 N) (k6 N (by omega)), TE.plain 8 (t8 N) (k8 N (by omega)), TE.plain 7 (t7 N) (k7 N (by omega)), TE.plain 12 (t12 N) (k12 N (by omega)), TE.plain 14 (t14 N) (k14 N (by omega)), TE.plain 16 (t16) k16, TE.plain 17 (t17 N) (k17 N (by omega))]) (s := []) tys_ok eqts_ok follows Proofs.Tryz.func5 (c := Proofs.Tryz.f5.body.get rfl) rfl (by decide) (by kernel_rfl)  (H := H5) (N := N) (shp := sh5)
     ((ev5 (by omega) rfl rfl rfl rfl (fun _ _ => rfl) (fun _ _ => rfl) (fun _ _ => rfl) (fun _ _ => rfl) (fun _ _ => rfl) (fun _ _ => rfl) (fun _ _ => rfl) x.1 x.2.1 x.2.2).trans h) (ar5.da x)
end Go.Abs.Try
