import Derived.Test.YtjjajifecniidaaUV0
import Derived.Test.YtjjajifecniidaaUV1
import Derived.Test.YtjjajifecniidaaUV2
import Derived.Test.YtjjajifecniidaaUV3
import Derived.Test.YtjjajifecniidaaUV4
import Derived.Test.YtjjajifecniidaaUV5
import Derived.Test.YtjjajifecniidaaUV6
import Derived.Test.YtjjajifecniidaaUCmp
import Derived.Test.YtjjajifecniidaaUAdd
namespace Go.Abs.Try
open Go.RowKit
set_option linter.unusedSimpArgs false
set_option linter.unusedVariables false
set_option maxRecDepth 100000
set_option maxHeartbeats 4000000
theorem k84 : TOk Proofs.Try.prog 84 t84 := TL_ok ar84.wk fun x v h =>
    pure_ofT (l := []) (s := []) tys_ok eqts_ok follows Proofs.Try.func84 (c := Proofs.Try.f84.body.get rfl) rfl (by decide) (by kernel_rfl) (H := H84) (N := 0) (shp := sh84)
      ((ev84 (by omega) rfl rfl rfl rfl  x.1 x.2.1 x.2.2).trans h) (ar84.da x)
theorem k37 : TOk Proofs.Try.prog 37 t37 := TL_ok ar37.wk fun x v h =>
    pure_ofT (l := [TE.plain 91 (t91) k91]) (s := [se136]) tys_ok eqts_ok follows Proofs.Try.func37 (c := Proofs.Try.f37.body.get rfl) rfl (by decide) (by kernel_rfl) (H := H37) (N := 0) (shp := sh37)
      ((ev37 (by omega) rfl rfl rfl rfl (fun _ _ => rfl) (fun _ => rfl) x).trans h) (ar37.da x)
theorem k38 : ∀ (N : Nat), N ≤ 4611686018427387904 → TOk Proofs.Try.prog 38 (t38 N)
  | 0, _ => TL_ok ar38.wk fun x v h => by have h : none = some v := h; cases h
  | N + 1, hN => TL_ok ar38.wk fun x v h =>
    pure_ofT (l := [TE.plain 38 (t38 N) (k38 N (by omega))]) (s := []) tys_ok eqts_ok follows Proofs.Try.func38 (c := Proofs.Try.f38.body.get rfl) rfl (by decide) (by kernel_rfl) (H := H38) (N := N) (shp := sh38)
      ((ev38 (by omega) (F38 N) rfl rfl rfl rfl (fun _ _ => rfl) x).trans h) (ar38.da x)
theorem k70 (N : Nat) (hN : N ≤ 4611686018427387904) : TOk Proofs.Try.prog 70 (t70 N) := TL_ok ar70.wk fun x v h =>
    pure_ofT (l := [TE.plain 37 (t37) k37, TE.plain 38 (t38 N) (k38 N (by omega))]) (s := []) tys_ok eqts_ok follows Proofs.Try.func70 (c := Proofs.Try.f70.body.get rfl) rfl (by decide) (by kernel_rfl) (H := H70) (N := N) (shp := sh70)
      ((ev70 (by omega) rfl rfl rfl rfl (fun _ _ => rfl) (fun _ _ => rfl) x).trans h) (ar70.da x)
theorem k73 : TOk Proofs.Try.prog 73 t73 := TL_ok ar73.wk fun x v h =>
    pure_ofT (l := []) (s := []) tys_ok eqts_ok follows Proofs.Try.func73 (c := Proofs.Try.f73.body.get rfl) rfl (by decide) (by kernel_rfl) (H := H73) (N := 0) (shp := sh73)
      ((ev73 (by omega) rfl rfl rfl rfl  x).trans h) (ar73.da x)
theorem k74 : TOk Proofs.Try.prog 74 t74 := TL_ok ar74.wk fun x v h =>
    pure_ofT (l := []) (s := []) tys_ok eqts_ok follows Proofs.Try.func74 (c := Proofs.Try.f74.body.get rfl) rfl (by decide) (by kernel_rfl) (H := H74) (N := 0) (shp := sh74)
      ((ev74 (by omega) rfl rfl rfl rfl  x).trans h) (ar74.da x)
theorem k16 (N : Nat) (hN : N ≤ 4611686018427387904) : TOk Proofs.Try.prog 16 (t16 N) := TL_ok ar16.wk fun x v h =>
    pure_ofT (l := [TE.plain 73 (t73) k73, TE.plain 74 (t74) k74]) (s := []) tys_ok eqts_ok follows Proofs.Try.func16 (c := Proofs.Try.f16.body.get rfl) rfl (by decide) (by kernel_rfl) (H := H16) (N := N) (shp := sh16)
      ((ev16 (by omega) rfl rfl rfl rfl (fun _ _ => rfl) (fun _ _ => rfl) x).trans h) (ar16.da x)
theorem k116 (N : Nat) (hN : N ≤ 4611686018427387904) : TOk Proofs.Try.prog 116 (t116 N) := TL_ok ar116.wk fun x v h =>
    pure_ofT (l := [TE.plain 16 (t16 N) (k16 N (by omega))]) (s := []) tys_ok eqts_ok follows Proofs.Try.func116 (c := Proofs.Try.f116.body.get rfl) rfl (by decide) (by kernel_rfl) (H := H116) (N := N) (shp := sh116)
      ((ev116 (by omega) rfl rfl rfl rfl (fun _ _ => rfl) x).trans h) (ar116.da x)
theorem k36 (N : Nat) (hN : N ≤ 4611686018427387904) : TOk Proofs.Try.prog 36 (t36 N) := TL_ok ar36.wk fun x v h =>
    pure_ofT (l := []) (s := []) tys_ok eqts_ok follows Proofs.Try.func36 (c := Proofs.Try.f36.body.get rfl) rfl (by decide) (by kernel_rfl) (H := H36) (N := N) (shp := sh36)
      ((ev36 (by omega) rfl rfl rfl rfl  x).trans h) (ar36.da x)
theorem k153 : TOk Proofs.Try.prog 153 t153 := TL_ok ar153.wk fun x v h =>
    pure_ofT (l := []) (s := []) tys_ok eqts_ok follows Proofs.Try.func153 (c := Proofs.Try.f153.body.get rfl) rfl (by decide) (by kernel_rfl) (H := H153) (N := 0) (shp := sh153)
      ((ev153 (by omega) rfl rfl rfl rfl  x).trans h) (ar153.da x)
theorem k154 (N : Nat) (hN : N ≤ 4611686018427387904) : TOk Proofs.Try.prog 154 (t154 N) := TL_ok ar154.wk fun x v h =>
    pure_ofT (l := []) (s := []) tys_ok eqts_ok follows Proofs.Try.func154 (c := Proofs.Try.f154.body.get rfl) rfl (by decide) (by kernel_rfl) (H := H154) (N := N) (shp := sh154)
      ((ev154 (by omega) rfl rfl rfl rfl  x.1 x.2).trans h) (ar154.da x)
theorem k117 (N : Nat) (hN : N ≤ 4611686018427387904) : TOk Proofs.Try.prog 117 (t117 N) := TL_ok ar117.wk fun x v h =>
    pure_ofT (l := [TE.plain 36 (t36 N) (k36 N (by omega)), TE.plain 153 (t153) k153, TE.lent 154 (t154 N) (k154 N (by omega)), TE.inl tys eqts [] [] tys_ok eqts_ok follows 155 Proofs.Try.f155 Proofs.Try.func155 (c := Proofs.Try.f155.body.get rfl) rfl (by decide) (by kernel_rfl) H155 N]) (s := []) tys_ok eqts_ok follows Proofs.Try.func117 (c := Proofs.Try.f117.body.get rfl) rfl (by decide) (by kernel_rfl) (H := H117) (N := N) (shp := sh117)
      ((ev117 (E155 := fun n0 => mkT Proofs.Try.prog n0 tys eqts [] []) (by omega) rfl rfl rfl rfl (fun _ _ => rfl) (fun _ _ => rfl) (fun _ _ => rfl) (fun _ _ => rfl) (fun _ => rfl) (fun _ => rfl) (fun _ => rfl) (fun _ => rfl) x).trans h) (ar117.da x)
theorem k71 (N : Nat) (hN : N ≤ 4611686018427387904) : TOk Proofs.Try.prog 71 (t71 N) := TL_ok ar71.wk fun x v h =>
    pure_ofT (l := [TE.plain 91 (t91) k91, TE.plain 116 (t116 N) (k116 N (by omega)), TE.plain 117 (t117 N) (k117 N (by omega))]) (s := [se136]) tys_ok eqts_ok follows Proofs.Try.func71 (c := Proofs.Try.f71.body.get rfl) rfl (by decide) (by kernel_rfl) (H := H71) (N := N) (shp := sh71)
      ((ev71 (by omega) rfl rfl rfl rfl (fun _ _ => rfl) (fun _ _ => rfl) (fun _ _ => rfl) (fun _ => rfl) x).trans h) (ar71.da x)
theorem k40 : TOk Proofs.Try.prog 40 t40 := TL_ok ar40.wk fun x v h =>
    pure_ofT (l := [TE.plain 91 (t91) k91]) (s := [se136]) tys_ok eqts_ok follows Proofs.Try.func40 (c := Proofs.Try.f40.body.get rfl) rfl (by decide) (by kernel_rfl) (H := H40) (N := 0) (shp := sh40)
      ((ev40 (by omega) rfl rfl rfl rfl (fun _ _ => rfl) (fun _ => rfl) x).trans h) (ar40.da x)
theorem k14 (N : Nat) (hN : N ≤ 4611686018427387904) : TOk Proofs.Try.prog 14 (t14 N) := TL_ok ar14.wk fun x v h =>
    pure_ofT (l := [TE.plain 70 (t70 N) (k70 N (by omega)), TE.plain 71 (t71 N) (k71 N (by omega)), TE.plain 40 (t40) k40, TE.plain 36 (t36 N) (k36 N (by omega))]) (s := []) tys_ok eqts_ok follows Proofs.Try.func14 (c := Proofs.Try.f14.body.get rfl) rfl (by decide) (by kernel_rfl) (H := H14) (N := N) (shp := sh14)
      ((ev14 (by omega) rfl rfl rfl rfl (fun _ _ => rfl) (fun _ _ => rfl) (fun _ _ => rfl) (fun _ _ => rfl) x.1 x.2).trans h) (ar14.da x)
theorem k112 : TOk Proofs.Try.prog 112 t112 := TL_ok ar112.wk fun x v h =>
    pure_ofT (l := []) (s := []) tys_ok eqts_ok follows Proofs.Try.func112 (c := Proofs.Try.f112.body.get rfl) rfl (by decide) (by kernel_rfl) (H := H112) (N := 0) (shp := sh112)
      ((ev112 (by omega) rfl rfl rfl rfl  x).trans h) (ar112.da x)
theorem k161 : TOk Proofs.Try.prog 161 t161 := TL_ok ar161.wk fun x v h =>
    pure_ofT (l := []) (s := []) tys_ok eqts_ok follows Proofs.Try.func161 (c := Proofs.Try.f161.body.get rfl) rfl (by decide) (by kernel_rfl) (H := H161) (N := 0) (shp := sh161)
      ((ev161 (by omega) rfl rfl rfl rfl  x.1 x.2).trans h) (ar161.da x)
theorem k128 : TOk Proofs.Try.prog 128 t128 := TL_ok ar128.wk fun x v h =>
    pure_ofT (l := [TE.plain 161 (t161) k161, TE.plain 162 (t162) k162]) (s := []) tys_ok eqts_ok follows Proofs.Try.func128 (c := Proofs.Try.f128.body.get rfl) rfl (by decide) (by kernel_rfl) (H := H128) (N := 0) (shp := sh128)
      ((ev128 (by omega) rfl rfl rfl rfl (fun _ _ => rfl) (fun _ _ => rfl) x.1 x.2.1 x.2.2).trans h) (ar128.da x)
theorem k129 : TOk Proofs.Try.prog 129 t129 := TL_ok ar129.wk fun x v h =>
    pure_ofT (l := [TE.plain 112 (t112) k112]) (s := []) tys_ok eqts_ok follows Proofs.Try.func129 (c := Proofs.Try.f129.body.get rfl) rfl (by decide) (by kernel_rfl) (H := H129) (N := 0) (shp := sh129)
      ((ev129 (by omega) rfl rfl rfl rfl (fun _ _ => rfl) x).trans h) (ar129.da x)
theorem k78 : TOk Proofs.Try.prog 78 t78 := TL_ok ar78.wk fun x v h =>
    pure_ofT (l := []) (s := []) tys_ok eqts_ok follows Proofs.Try.func78 (c := Proofs.Try.f78.body.get rfl) rfl (by decide) (by kernel_rfl) (H := H78) (N := 0) (shp := sh78)
      ((ev78 (by omega) rfl rfl rfl rfl  x.1 x.2).trans h) (ar78.da x)
theorem k80 : TOk Proofs.Try.prog 80 t80 := TL_ok ar80.wk fun x v h =>
    pure_ofT (l := []) (s := []) tys_ok eqts_ok follows Proofs.Try.func80 (c := Proofs.Try.f80.body.get rfl) rfl (by decide) (by kernel_rfl) (H := H80) (N := 0) (shp := sh80)
      ((ev80 (by omega) rfl rfl rfl rfl  x.1 x.2).trans h) (ar80.da x)
theorem k18 : ∀ (N : Nat), N ≤ 4611686018427387904 → TOk Proofs.Try.prog 18 (t18 N)
  | 0, _ => TL_ok ar18.wk fun x v h => by have h : none = some v := h; cases h
  | N + 1, hN => TL_ok ar18.wk fun x v h =>
    pure_ofT (l := [TE.plain 78 (t78) k78, TE.plain 79 (t79) k79, TE.plain 80 (t80) k80, TE.plain 18 (t18 N) (k18 N (by omega))]) (s := []) tys_ok eqts_ok follows Proofs.Try.func18 (c := Proofs.Try.f18.body.get rfl) rfl (by decide) (by kernel_rfl) (H := H18) (N := N) (shp := sh18)
      ((ev18 (by omega) (F18 N) rfl rfl rfl rfl (fun _ _ => rfl) (fun _ _ => rfl) (fun _ _ => rfl) (fun _ _ => rfl) x.1 x.2).trans h) (ar18.da x)
theorem k88 (N : Nat) (hN : N ≤ 4611686018427387904) : TOk Proofs.Try.prog 88 (t88 N) := TL_ok ar88.wk fun x v h =>
    pure_ofT (l := [TE.plain 128 (t128) k128, TE.plain 129 (t129) k129, TE.plain 18 (t18 N) (k18 N (by omega))]) (s := []) tys_ok eqts_ok follows Proofs.Try.func88 (c := Proofs.Try.f88.body.get rfl) rfl (by decide) (by kernel_rfl) (H := H88) (N := N) (shp := sh88)
      ((ev88 (by omega) rfl rfl rfl rfl (fun _ _ => rfl) (fun _ _ => rfl) (fun _ _ => rfl) x.1 x.2.1 x.2.2.1 x.2.2.2).trans h) (ar88.da x)
theorem k85 : ∀ (N : Nat), N ≤ 4611686018427387904 → TOk Proofs.Try.prog 85 (t85 N)
  | 0, _ => TL_ok ar85.wk fun x v h => by have h : none = some v := h; cases h
  | N + 1, hN => TL_ok ar85.wk fun x v h =>
    pure_ofT (l := [TE.plain 112 (t112) k112, TE.inl tys eqts [TE.plain 85 (t85 N) (k85 N (by omega)), TE.plain 88 (t88 N) (k88 N (by omega))] [] tys_ok eqts_ok follows 124 Proofs.Try.f124 Proofs.Try.func124 (c := Proofs.Try.f124.body.get rfl) rfl (by decide) (by kernel_rfl) H124 N, TE.plain 85 (t85 N) (k85 N (by omega)), TE.plain 88 (t88 N) (k88 N (by omega))]) (s := []) tys_ok eqts_ok follows Proofs.Try.func85 (c := Proofs.Try.f85.body.get rfl) rfl (by decide) (by kernel_rfl) (H := H85) (N := N) (shp := sh85)
      ((ev85 (E124 := fun n0 => mkT Proofs.Try.prog n0 tys eqts [TE.plain 85 (t85 N) (k85 N (by omega)), TE.plain 88 (t88 N) (k88 N (by omega))] []) (by omega) (F85 N) rfl rfl rfl rfl (fun _ _ => rfl) (fun _ _ => rfl) (fun _ _ => rfl) (fun _ _ => rfl) (fun _ => rfl) (fun _ => rfl) (fun _ => rfl) (fun _ => rfl) (fun _ _ _ => rfl) (fun _ _ _ => rfl) x).trans h) (ar85.da x)
theorem k82 : ∀ (N : Nat), N ≤ 4611686018427387904 → TOk Proofs.Try.prog 82 (t82 N)
  | 0, _ => TL_ok ar82.wk fun x v h => by have h : none = some v := h; cases h
  | N + 1, hN => TL_ok ar82.wk fun x v h =>
    pure_ofT (l := [te123, TE.plain 82 (t82 N) (k82 N (by omega))]) (s := []) tys_ok eqts_ok follows Proofs.Try.func82 (c := Proofs.Try.f82.body.get rfl) rfl (by decide) (by kernel_rfl) (H := H82) (N := N) (shp := sh82)
      ((ev82 (by omega) (F82 N) rfl rfl rfl rfl (fun _ _ => rfl) (fun _ _ => rfl) x).trans h) (ar82.da x)
theorem k22 : ∀ (N : Nat), N ≤ 4611686018427387904 → TOk Proofs.Try.prog 22 (t22 N)
  | 0, _ => TL_ok ar22.wk fun x v h => by have h : none = some v := h; cases h
  | N + 1, hN => TL_ok ar22.wk fun x v h =>
    pure_ofT (l := [TE.plain 82 (t82 N) (k82 N (by omega)), TE.plain 22 (t22 N) (k22 N (by omega))]) (s := []) tys_ok eqts_ok follows Proofs.Try.func22 (c := Proofs.Try.f22.body.get rfl) rfl (by decide) (by kernel_rfl) (H := H22) (N := N) (shp := sh22)
      ((ev22 (by omega) (F22 N) rfl rfl rfl rfl (fun _ _ => rfl) (fun _ _ => rfl) x.1 x.2.1 x.2.2).trans h) (ar22.da x)
theorem k24 (N : Nat) (hN : N ≤ 4611686018427387904) : TOk Proofs.Try.prog 24 (t24 N) := TL_ok ar24.wk fun x v h =>
    pure_ofT (l := [TE.plain 22 (t22 N) (k22 N (by omega))]) (s := []) tys_ok eqts_ok follows Proofs.Try.func24 (c := Proofs.Try.f24.body.get rfl) rfl (by decide) (by kernel_rfl) (H := H24) (N := N) (shp := sh24)
      ((ev24 (by omega) rfl rfl rfl rfl (fun _ _ => rfl) x.1 x.2.1 x.2.2).trans h) (ar24.da x)
theorem k86 (N : Nat) (hN : N ≤ 4611686018427387904) : TOk Proofs.Try.prog 86 (t86 N) := TL_ok ar86.wk fun x v h =>
    pure_ofT (l := [te125, TE.plain 24 (t24 N) (k24 N (by omega))]) (s := []) tys_ok eqts_ok follows Proofs.Try.func86 (c := Proofs.Try.f86.body.get rfl) rfl (by decide) (by kernel_rfl) (H := H86) (N := N) (shp := sh86)
      ((ev86 (by omega) rfl rfl rfl rfl (fun _ _ => rfl) (fun _ _ => rfl) x).trans h) (ar86.da x)
theorem k29 (N : Nat) (hN : N ≤ 4611686018427387904) : TOk Proofs.Try.prog 29 (t29 N) := TL_ok ar29.wk fun x v h =>
    pure_ofT (l := [TE.plain 14 (t14 N) (k14 N (by omega)), TE.plain 36 (t36 N) (k36 N (by omega)), TE.plain 85 (t85 N) (k85 N (by omega)), TE.plain 86 (t86 N) (k86 N (by omega))]) (s := []) tys_ok eqts_ok follows Proofs.Try.func29 (c := Proofs.Try.f29.body.get rfl) rfl (by decide) (by kernel_rfl) (H := H29) (N := N) (shp := sh29)
      ((ev29 (by omega) rfl rfl rfl rfl (fun _ _ => rfl) (fun _ _ => rfl) (fun _ _ => rfl) (fun _ _ => rfl) x).trans h) (ar29.da x)
theorem k26 (N : Nat) (hN : N ≤ 4611686018427387904) : TOk Proofs.Try.prog 26 (t26 N) := TL_ok ar26.wk fun x v h =>
    pure_ofT (l := [TE.plain 84 (t84) k84, TE.plain 29 (t29 N) (k29 N (by omega))]) (s := []) tys_ok eqts_ok follows Proofs.Try.func26 (c := Proofs.Try.f26.body.get rfl) rfl (by decide) (by kernel_rfl) (H := H26) (N := N) (shp := sh26)
      ((ev26 (by omega) rfl rfl rfl rfl (fun _ _ => rfl) (fun _ _ => rfl) ).trans h) (ar26.da x)
theorem k27 : ∀ (N : Nat), N ≤ 4611686018427387904 → TOk Proofs.Try.prog 27 (t27 N)
  | 0, _ => TL_ok ar27.wk fun x v h => by have h : none = some v := h; cases h
  | N + 1, hN => TL_ok ar27.wk fun x v h =>
    pure_ofT (l := [TE.plain 27 (t27 N) (k27 N (by omega))]) (s := []) tys_ok eqts_ok follows Proofs.Try.func27 (c := Proofs.Try.f27.body.get rfl) rfl (by decide) (by kernel_rfl) (H := H27) (N := N) (shp := sh27)
      ((ev27 (by omega) (F27 N) rfl rfl rfl rfl (fun _ _ => rfl) x).trans h) (ar27.da x)
theorem k28 : ∀ (N : Nat), N ≤ 4611686018427387904 → TOk Proofs.Try.prog 28 (t28 N)
  | 0, _ => TL_ok ar28.wk fun x v h => by have h : none = some v := h; cases h
  | N + 1, hN => TL_ok ar28.wk fun x v h =>
    pure_ofT (l := [TE.plain 28 (t28 N) (k28 N (by omega))]) (s := []) tys_ok eqts_ok follows Proofs.Try.func28 (c := Proofs.Try.f28.body.get rfl) rfl (by decide) (by kernel_rfl) (H := H28) (N := N) (shp := sh28)
      ((ev28 (by omega) (F28 N) rfl rfl rfl rfl (fun _ _ => rfl) x).trans h) (ar28.da x)
theorem k39 : ∀ (N : Nat), N ≤ 4611686018427387904 → TOk Proofs.Try.prog 39 (t39 N)
  | 0, _ => TL_ok ar39.wk fun x v h => by have h : none = some v := h; cases h
  | N + 1, hN => TL_ok ar39.wk fun x v h =>
    pure_ofT (l := [TE.plain 39 (t39 N) (k39 N (by omega))]) (s := []) tys_ok eqts_ok follows Proofs.Try.func39 (c := Proofs.Try.f39.body.get rfl) rfl (by decide) (by kernel_rfl) (H := H39) (N := N) (shp := sh39)
      ((ev39 (by omega) (F39 N) rfl rfl rfl rfl (fun _ _ => rfl) x).trans h) (ar39.da x)
theorem k75 : TOk Proofs.Try.prog 75 t75 := TL_ok ar75.wk fun x v h =>
    pure_ofT (l := []) (s := []) tys_ok eqts_ok follows Proofs.Try.func75 (c := Proofs.Try.f75.body.get rfl) rfl (by decide) (by kernel_rfl) (H := H75) (N := 0) (shp := sh75)
      ((ev75 (by omega) rfl rfl rfl rfl  x).trans h) (ar75.da x)
theorem k121 : TOk Proofs.Try.prog 121 t121 := TL_ok ar121.wk fun x v h =>
    pure_ofT (l := []) (s := []) tys_ok eqts_ok follows Proofs.Try.func121 (c := Proofs.Try.f121.body.get rfl) rfl (by decide) (by kernel_rfl) (H := H121) (N := 0) (shp := sh121)
      ((ev121 (by omega) rfl rfl rfl rfl  ).trans h) (ar121.da x)
theorem k76 (N : Nat) (hN : N ≤ 4611686018427387904) : TOk Proofs.Try.prog 76 (t76 N) := TL_ok ar76.wk fun x v h =>
    pure_ofT (l := [TE.plain 121 (t121) k121]) (s := []) tys_ok eqts_ok follows Proofs.Try.func76 (c := Proofs.Try.f76.body.get rfl) rfl (by decide) (by kernel_rfl) (H := H76) (N := N) (shp := sh76)
      ((ev76 (by omega) rfl rfl rfl rfl (fun _ _ => rfl) x).trans h) (ar76.da x)
theorem k77 : TOk Proofs.Try.prog 77 t77 := TL_ok ar77.wk fun x v h =>
    pure_ofT (l := []) (s := []) tys_ok eqts_ok follows Proofs.Try.func77 (c := Proofs.Try.f77.body.get rfl) rfl (by decide) (by kernel_rfl) (H := H77) (N := 0) (shp := sh77)
      ((ev77 (by omega) rfl rfl rfl rfl  x).trans h) (ar77.da x)
theorem k17 (N : Nat) (hN : N ≤ 4611686018427387904) : TOk Proofs.Try.prog 17 (t17 N) := TL_ok ar17.wk fun x v h =>
    pure_ofT (l := [TE.plain 75 (t75) k75, TE.plain 76 (t76 N) (k76 N (by omega)), TE.plain 77 (t77) k77]) (s := []) tys_ok eqts_ok follows Proofs.Try.func17 (c := Proofs.Try.f17.body.get rfl) rfl (by decide) (by kernel_rfl) (H := H17) (N := N) (shp := sh17)
      ((ev17 (by omega) rfl rfl rfl rfl (fun _ _ => rfl) (fun _ _ => rfl) (fun _ _ => rfl) x).trans h) (ar17.da x)
theorem k118 (N : Nat) (hN : N ≤ 4611686018427387904) : TOk Proofs.Try.prog 118 (t118 N) := TL_ok ar118.wk fun x v h =>
    pure_ofT (l := [TE.plain 17 (t17 N) (k17 N (by omega))]) (s := []) tys_ok eqts_ok follows Proofs.Try.func118 (c := Proofs.Try.f118.body.get rfl) rfl (by decide) (by kernel_rfl) (H := H118) (N := N) (shp := sh118)
      ((ev118 (by omega) rfl rfl rfl rfl (fun _ _ => rfl) x).trans h) (ar118.da x)
theorem k119 : TOk Proofs.Try.prog 119 t119 := TL_ok ar119.wk fun x v h =>
    pure_ofT (l := []) (s := []) tys_ok eqts_ok follows Proofs.Try.func119 (c := Proofs.Try.f119.body.get rfl) rfl (by decide) (by kernel_rfl) (H := H119) (N := 0) (shp := sh119)
      ((ev119 (by omega) rfl rfl rfl rfl  x).trans h) (ar119.da x)
theorem k120 : TOk Proofs.Try.prog 120 t120 := TL_ok ar120.wk fun x v h =>
    pure_ofT (l := []) (s := []) tys_ok eqts_ok follows Proofs.Try.func120 (c := Proofs.Try.f120.body.get rfl) rfl (by decide) (by kernel_rfl) (H := H120) (N := 0) (shp := sh120)
      ((ev120 (by omega) rfl rfl rfl rfl  x).trans h) (ar120.da x)
theorem k72 : ∀ (N : Nat), N ≤ 4611686018427387904 → TOk Proofs.Try.prog 72 (t72 N)
  | 0, _ => TL_ok ar72.wk fun x v h => by have h : none = some v := h; cases h
  | N + 1, hN => TL_ok ar72.wk fun x v h =>
    pure_ofT (l := [TE.plain 118 (t118 N) (k118 N (by omega)), TE.plain 72 (t72 N) (k72 N (by omega)), TE.plain 28 (t28 N) (k28 N (by omega)), TE.plain 119 (t119) k119, TE.plain 120 (t120) k120]) (s := []) tys_ok eqts_ok follows Proofs.Try.func72 (c := Proofs.Try.f72.body.get rfl) rfl (by decide) (by kernel_rfl) (H := H72) (N := N) (shp := sh72)
      ((ev72 (by omega) (F72 N) rfl rfl rfl rfl (fun _ _ => rfl) (fun _ _ => rfl) (fun _ _ => rfl) (fun _ _ => rfl) (fun _ _ => rfl) x).trans h) (ar72.da x)
theorem k168 : TOk Proofs.Try.prog 168 t168 := TL_ok ar168.wk fun x v h =>
    pure_ofT (l := []) (s := []) tys_ok eqts_ok follows Proofs.Try.func168 (c := Proofs.Try.f168.body.get rfl) rfl (by decide) (by kernel_rfl) (H := H168) (N := 0) (shp := sh168)
      ((ev168 (by omega) rfl rfl rfl rfl  x.1 x.2).trans h) (ar168.da x)
theorem k140 (N : Nat) (hN : N ≤ 4611686018427387904) : TOk Proofs.Try.prog 140 (t140 N) := TL_ok ar140.wk fun x v h =>
    pure_ofT (l := [TE.plain 168 (t168) k168]) (s := []) tys_ok eqts_ok follows Proofs.Try.func140 (c := Proofs.Try.f140.body.get rfl) rfl (by decide) (by kernel_rfl) (H := H140) (N := N) (shp := sh140)
      ((ev140 (by omega) rfl rfl rfl rfl (fun _ _ => rfl) x.1 x.2).trans h) (ar140.da x)
theorem k95 : ∀ (N : Nat), N ≤ 4611686018427387904 → TOk Proofs.Try.prog 95 (t95 N)
  | 0, _ => TL_ok ar95.wk fun x v h => by have h : none = some v := h; cases h
  | N + 1, hN => TL_ok ar95.wk fun x v h =>
    pure_ofT (l := [TE.plain 140 (t140 N) (k140 N (by omega)), TE.plain 95 (t95 N) (k95 N (by omega))]) (s := []) tys_ok eqts_ok follows Proofs.Try.func95 (c := Proofs.Try.f95.body.get rfl) rfl (by decide) (by kernel_rfl) (H := H95) (N := N) (shp := sh95)
      ((ev95 (by omega) (F95 N) rfl rfl rfl rfl (fun _ _ => rfl) (fun _ _ => rfl) x.1 x.2).trans h) (ar95.da x)
theorem k47 (N : Nat) (hN : N ≤ 4611686018427387904) : TOk Proofs.Try.prog 47 (t47 N) := TL_ok ar47.wk fun x v h =>
    pure_ofT (l := [TE.plain 95 (t95 N) (k95 N (by omega))]) (s := []) tys_ok eqts_ok follows Proofs.Try.func47 (c := Proofs.Try.f47.body.get rfl) rfl (by decide) (by kernel_rfl) (H := H47) (N := N) (shp := sh47)
      ((ev47 (by omega) rfl rfl rfl rfl (fun _ _ => rfl) x).trans h) (ar47.da x)
theorem k92 : ∀ (N : Nat), N ≤ 4611686018427387904 → TOk Proofs.Try.prog 92 (t92 N)
  | 0, _ => TL_ok ar92.wk fun x v h => by have h : none = some v := h; cases h
  | N + 1, hN => TL_ok ar92.wk fun x v h =>
    pure_ofT (l := [TE.plain 92 (t92 N) (k92 N (by omega))]) (s := []) tys_ok eqts_ok follows Proofs.Try.func92 (c := Proofs.Try.f92.body.get rfl) rfl (by decide) (by kernel_rfl) (H := H92) (N := N) (shp := sh92)
      ((ev92 (by omega) (F92 N) rfl rfl rfl rfl (fun _ _ => rfl) x.1 x.2).trans h) (ar92.da x)
theorem k41 (N : Nat) (hN : N ≤ 4611686018427387904) : TOk Proofs.Try.prog 41 (t41 N) := TL_ok ar41.wk fun x v h =>
    pure_ofT (l := [TE.plain 47 (t47 N) (k47 N (by omega)), TE.plain 92 (t92 N) (k92 N (by omega))]) (s := []) tys_ok eqts_ok follows Proofs.Try.func41 (c := Proofs.Try.f41.body.get rfl) rfl (by decide) (by kernel_rfl) (H := H41) (N := N) (shp := sh41)
      ((ev41 (by omega) rfl rfl rfl rfl (fun _ _ => rfl) (fun _ _ => rfl) x).trans h) (ar41.da x)
theorem k15 (N : Nat) (hN : N ≤ 4611686018427387904) : TOk Proofs.Try.prog 15 (t15 N) := TL_ok ar15.wk fun x v h =>
    pure_ofT (l := [TE.plain 27 (t27 N) (k27 N (by omega)), TE.plain 39 (t39 N) (k39 N (by omega)), TE.plain 72 (t72 N) (k72 N (by omega)), TE.plain 41 (t41 N) (k41 N (by omega)), TE.plain 28 (t28 N) (k28 N (by omega))]) (s := []) tys_ok eqts_ok follows Proofs.Try.func15 (c := Proofs.Try.f15.body.get rfl) rfl (by decide) (by kernel_rfl) (H := H15) (N := N) (shp := sh15)
      ((ev15 (by omega) rfl rfl rfl rfl (fun _ _ => rfl) (fun _ _ => rfl) (fun _ _ => rfl) (fun _ _ => rfl) (fun _ _ => rfl) x.1 x.2).trans h) (ar15.da x)
theorem k43 : ∀ (N : Nat), N ≤ 4611686018427387904 → TOk Proofs.Try.prog 43 (t43 N)
  | 0, _ => TL_ok ar43.wk fun x v h => by have h : none = some v := h; cases h
  | N + 1, hN => TL_ok ar43.wk fun x v h =>
    pure_ofT (l := [TE.plain 43 (t43 N) (k43 N (by omega))]) (s := []) tys_ok eqts_ok follows Proofs.Try.func43 (c := Proofs.Try.f43.body.get rfl) rfl (by decide) (by kernel_rfl) (H := H43) (N := N) (shp := sh43)
      ((ev43 (by omega) (F43 N) rfl rfl rfl rfl (fun _ _ => rfl) x).trans h) (ar43.da x)
theorem k181 : TOk Proofs.Try.prog 181 t181 := TL_ok ar181.wk fun x v h =>
    pure_ofT (l := []) (s := []) tys_ok eqts_ok follows Proofs.Try.func181 (c := Proofs.Try.f181.body.get rfl) rfl (by decide) (by kernel_rfl) (H := H181) (N := 0) (shp := sh181)
      ((ev181 (by omega) rfl rfl rfl rfl  x).trans h) (ar181.da x)
theorem k182 (N : Nat) (hN : N ≤ 4611686018427387904) : TOk Proofs.Try.prog 182 (t182 N) := TL_ok ar182.wk fun x v h =>
    pure_ofT (l := [TE.plain 181 (t181) k181]) (s := []) tys_ok eqts_ok follows Proofs.Try.func182 (c := Proofs.Try.f182.body.get rfl) rfl (by decide) (by kernel_rfl) (H := H182) (N := N) (shp := sh182)
      ((ev182 (by omega) rfl rfl rfl rfl (fun _ _ => rfl) x).trans h) (ar182.da x)
theorem k171 (N : Nat) (hN : N ≤ 4611686018427387904) : TOk Proofs.Try.prog 171 (t171 N) := TL_ok ar171.wk fun x v h =>
    pure_ofT (l := [TE.plain 181 (t181) k181, TE.plain 182 (t182 N) (k182 N (by omega))]) (s := []) tys_ok eqts_ok follows Proofs.Try.func171 (c := Proofs.Try.f171.body.get rfl) rfl (by decide) (by kernel_rfl) (H := H171) (N := N) (shp := sh171)
      ((ev171 (by omega) rfl rfl rfl rfl (fun _ _ => rfl) (fun _ _ => rfl) x).trans h) (ar171.da x)
theorem k157 (N : Nat) (hN : N ≤ 4611686018427387904) : TOk Proofs.Try.prog 157 (t157 N) := TL_ok ar157.wk fun x v h =>
    pure_ofT (l := [TE.plain 17 (t17 N) (k17 N (by omega)), TE.plain 171 (t171 N) (k171 N (by omega))]) (s := []) tys_ok eqts_ok follows Proofs.Try.func157 (c := Proofs.Try.f157.body.get rfl) rfl (by decide) (by kernel_rfl) (H := H157) (N := N) (shp := sh157)
      ((ev157 (by omega) rfl rfl rfl rfl (fun _ _ => rfl) (fun _ _ => rfl) x).trans h) (ar157.da x)
theorem k189 (N : Nat) (hN : N ≤ 4611686018427387904) : TOk Proofs.Try.prog 189 (t189 N) := TL_ok ar189.wk fun x v h =>
    pure_ofT (l := []) (s := []) tys_ok eqts_ok follows Proofs.Try.func189 (c := Proofs.Try.f189.body.get rfl) rfl (by decide) (by kernel_rfl) (H := H189) (N := N) (shp := sh189)
      ((ev189 (by omega) rfl rfl rfl rfl  x.1 x.2).trans h) (ar189.da x)
theorem k183 (N : Nat) (hN : N ≤ 4611686018427387904) : TOk Proofs.Try.prog 183 (t183 N) := TL_ok ar183.wk fun x v h =>
    pure_ofT (l := [TE.plain 189 (t189 N) (k189 N (by omega))]) (s := []) tys_ok eqts_ok follows Proofs.Try.func183 (c := Proofs.Try.f183.body.get rfl) rfl (by decide) (by kernel_rfl) (H := H183) (N := N) (shp := sh183)
      ((ev183 (by omega) rfl rfl rfl rfl (fun _ _ => rfl) x.1 x.2).trans h) (ar183.da x)
theorem k172 (N : Nat) (hN : N ≤ 4611686018427387904) : TOk Proofs.Try.prog 172 (t172 N) := TL_ok ar172.wk fun x v h =>
    pure_ofT (l := [TE.plain 183 (t183 N) (k183 N (by omega))]) (s := []) tys_ok eqts_ok follows Proofs.Try.func172 (c := Proofs.Try.f172.body.get rfl) rfl (by decide) (by kernel_rfl) (H := H172) (N := N) (shp := sh172)
      ((ev172 (by omega) rfl rfl rfl rfl (fun _ _ => rfl) x.1 x.2).trans h) (ar172.da x)
theorem k158 (N : Nat) (hN : N ≤ 4611686018427387904) : TOk Proofs.Try.prog 158 (t158 N) := TL_ok ar158.wk fun x v h =>
    pure_ofT (l := [TE.plain 172 (t172 N) (k172 N (by omega))]) (s := []) tys_ok eqts_ok follows Proofs.Try.func158 (c := Proofs.Try.f158.body.get rfl) rfl (by decide) (by kernel_rfl) (H := H158) (N := N) (shp := sh158)
      ((ev158 (by omega) rfl rfl rfl rfl (fun _ _ => rfl) x.1 x.2).trans h) (ar158.da x)
theorem k126 (N : Nat) (hN : N ≤ 4611686018427387904) : TOk Proofs.Try.prog 126 (t126 N) := TL_ok ar126.wk fun x v h =>
    pure_ofT (l := [TE.plain 157 (t157 N) (k157 N (by omega)), TE.plain 158 (t158 N) (k158 N (by omega))]) (s := []) tys_ok eqts_ok follows Proofs.Try.func126 (c := Proofs.Try.f126.body.get rfl) rfl (by decide) (by kernel_rfl) (H := H126) (N := N) (shp := sh126)
      ((ev126 (by omega) rfl rfl rfl rfl (fun _ _ => rfl) (fun _ _ => rfl) x).trans h) (ar126.da x)
theorem k159 (N : Nat) (hN : N ≤ 4611686018427387904) : TOk Proofs.Try.prog 159 (t159 N) := TL_ok ar159.wk fun x v h =>
    pure_ofT (l := [TE.plain 172 (t172 N) (k172 N (by omega))]) (s := []) tys_ok eqts_ok follows Proofs.Try.func159 (c := Proofs.Try.f159.body.get rfl) rfl (by decide) (by kernel_rfl) (H := H159) (N := N) (shp := sh159)
      ((ev159 (by omega) rfl rfl rfl rfl (fun _ _ => rfl) x.1 x.2.1 x.2.2.1 x.2.2.2).trans h) (ar159.da x)
theorem k173 : TOk Proofs.Try.prog 173 t173 := TL_ok ar173.wk fun x v h =>
    pure_ofT (l := [TE.plain 181 (t181) k181]) (s := []) tys_ok eqts_ok follows Proofs.Try.func173 (c := Proofs.Try.f173.body.get rfl) rfl (by decide) (by kernel_rfl) (H := H173) (N := 0) (shp := sh173)
      ((ev173 (by omega) rfl rfl rfl rfl (fun _ _ => rfl) x).trans h) (ar173.da x)
theorem k174 : TOk Proofs.Try.prog 174 t174 := TL_ok ar174.wk fun x v h =>
    pure_ofT (l := [TE.plain 173 (t173) k173]) (s := []) tys_ok eqts_ok follows Proofs.Try.func174 (c := Proofs.Try.f174.body.get rfl) rfl (by decide) (by kernel_rfl) (H := H174) (N := 0) (shp := sh174)
      ((ev174 (by omega) rfl rfl rfl rfl (fun _ _ => rfl) x.1 x.2).trans h) (ar174.da x)
theorem k184 (N : Nat) (hN : N ≤ 4611686018427387904) : TOk Proofs.Try.prog 184 (t184 N) := TL_ok ar184.wk fun x v h =>
    pure_ofT (l := []) (s := []) tys_ok eqts_ok follows Proofs.Try.func184 (c := Proofs.Try.f184.body.get rfl) rfl (by decide) (by kernel_rfl) (H := H184) (N := N) (shp := sh184)
      ((ev184 (by omega) rfl rfl rfl rfl  x.1 x.2).trans h) (ar184.da x)
theorem k185 (N : Nat) (hN : N ≤ 4611686018427387904) : TOk Proofs.Try.prog 185 (t185 N) := TL_ok ar185.wk fun x v h =>
    pure_ofT (l := [TE.plain 184 (t184 N) (k184 N (by omega))]) (s := []) tys_ok eqts_ok follows Proofs.Try.func185 (c := Proofs.Try.f185.body.get rfl) rfl (by decide) (by kernel_rfl) (H := H185) (N := N) (shp := sh185)
      ((ev185 (by omega) rfl rfl rfl rfl (fun _ _ => rfl) x.1 x.2).trans h) (ar185.da x)
theorem k175 (N : Nat) (hN : N ≤ 4611686018427387904) : TOk Proofs.Try.prog 175 (t175 N) := TL_ok ar175.wk fun x v h =>
    pure_ofT (l := [TE.plain 184 (t184 N) (k184 N (by omega)), TE.given 185 (t185 N) (k185 N (by omega))]) (s := []) tys_ok eqts_ok follows Proofs.Try.func175 (c := Proofs.Try.f175.body.get rfl) rfl (by decide) (by kernel_rfl) (H := H175) (N := N) (shp := sh175)
      ((ev175 (by omega) rfl rfl rfl rfl (fun _ _ => rfl) (fun _ _ => rfl) x.1 x.2.1 x.2.2).trans h) (ar175.da x)
theorem k176 (N : Nat) (hN : N ≤ 4611686018427387904) : TOk Proofs.Try.prog 176 (t176 N) := TL_ok ar176.wk fun x v h =>
    pure_ofT (l := []) (s := []) tys_ok eqts_ok follows Proofs.Try.func176 (c := Proofs.Try.f176.body.get rfl) rfl (by decide) (by kernel_rfl) (H := H176) (N := N) (shp := sh176)
      ((ev176 (by omega) rfl rfl rfl rfl  x.1 x.2).trans h) (ar176.da x)
theorem k177 (N : Nat) (hN : N ≤ 4611686018427387904) : TOk Proofs.Try.prog 177 (t177 N) := TL_ok ar177.wk fun x v h =>
    pure_ofT (l := [TE.plain 185 (t185 N) (k185 N (by omega)), TE.plain 176 (t176 N) (k176 N (by omega))]) (s := []) tys_ok eqts_ok follows Proofs.Try.func177 (c := Proofs.Try.f177.body.get rfl) rfl (by decide) (by kernel_rfl) (H := H177) (N := N) (shp := sh177)
      ((ev177 (by omega) rfl rfl rfl rfl (fun _ _ => rfl) (fun _ _ => rfl) x.1 x.2.1 x.2.2).trans h) (ar177.da x)
theorem k186 : TOk Proofs.Try.prog 186 t186 := TL_ok ar186.wk fun x v h =>
    pure_ofT (l := []) (s := []) tys_ok eqts_ok follows Proofs.Try.func186 (c := Proofs.Try.f186.body.get rfl) rfl (by decide) (by kernel_rfl) (H := H186) (N := 0) (shp := sh186)
      ((ev186 (by omega) rfl rfl rfl rfl  x).trans h) (ar186.da x)
theorem k178 (N : Nat) (hN : N ≤ 4611686018427387904) : TOk Proofs.Try.prog 178 (t178 N) := TL_ok ar178.wk fun x v h =>
    pure_ofT (l := [TE.plain 186 (t186) k186, TE.plain 183 (t183 N) (k183 N (by omega)), TE.plain 184 (t184 N) (k184 N (by omega))]) (s := []) tys_ok eqts_ok follows Proofs.Try.func178 (c := Proofs.Try.f178.body.get rfl) rfl (by decide) (by kernel_rfl) (H := H178) (N := N) (shp := sh178)
      ((ev178 (by omega) rfl rfl rfl rfl (fun _ _ => rfl) (fun _ _ => rfl) (fun _ _ => rfl) x.1 x.2).trans h) (ar178.da x)
theorem k160 (N : Nat) (hN : N ≤ 4611686018427387904) : TOk Proofs.Try.prog 160 (t160 N) := TL_ok ar160.wk fun x v h =>
    pure_ofTA ali160 (l := [TE.plain 173 (t173) k173, TE.plain 174 (t174) k174, TE.plain 175 (t175 N) (k175 N (by omega)), TE.plain 176 (t176 N) (k176 N (by omega)), TE.plain 177 (t177 N) (k177 N (by omega)), TE.plain 178 (t178 N) (k178 N (by omega))]) (s := []) tys_ok eqts_ok follows Proofs.Try.func160 (c := Proofs.Try.f160.body.get rfl) rfl (by decide) (by kernel_rfl) (H := H160) (N := N) (shp := sh160)
      ((ev160 (by omega) rfl rfl rfl rfl (fun _ _ => rfl) (fun _ _ => rfl) (fun _ _ => rfl) (fun _ _ => rfl) (fun _ _ => rfl) (fun _ _ => rfl) x.1 x.2).trans h) (ar160.da x)
theorem k127 : ∀ (N : Nat), N ≤ 4611686018427387904 → TOk Proofs.Try.prog 127 (t127 N)
  | 0, _ => TL_ok ar127.wk fun x v h => by have h : none = some v := h; cases h
  | N + 1, hN => TL_ok ar127.wk fun x v h =>
    pure_ofT (l := [TE.plain 127 (t127 N) (k127 N (by omega)), TE.plain 28 (t28 N) (k28 N (by omega)), TE.given 159 (t159 N) (k159 N (by omega)), TE.given 160 (t160 N) (k160 N (by omega))]) (s := []) tys_ok eqts_ok follows Proofs.Try.func127 (c := Proofs.Try.f127.body.get rfl) rfl (by decide) (by kernel_rfl) (H := H127) (N := N) (shp := sh127)
      ((ev127 (by omega) (F127 N) rfl rfl rfl rfl (fun _ _ => rfl) (fun _ _ => rfl) (fun _ _ => rfl) (fun _ _ => rfl) x.1 x.2).trans h) (ar127.da x)
theorem k87 (N : Nat) (hN : N ≤ 4611686018427387904) : TOk Proofs.Try.prog 87 (t87 N) := TL_ok ar87.wk fun x v h =>
    pure_ofT (l := [TE.plain 15 (t15 N) (k15 N (by omega)), TE.plain 43 (t43 N) (k43 N (by omega)), TE.plain 126 (t126 N) (k126 N (by omega)), TE.plain 127 (t127 N) (k127 N (by omega))]) (s := []) tys_ok eqts_ok follows Proofs.Try.func87 (c := Proofs.Try.f87.body.get rfl) rfl (by decide) (by kernel_rfl) (H := H87) (N := N) (shp := sh87)
      ((ev87 (by omega) rfl rfl rfl rfl (fun _ _ => rfl) (fun _ _ => rfl) (fun _ _ => rfl) (fun _ _ => rfl) x.1 x.2.1 x.2.2).trans h) (ar87.da x)
theorem k30 (N : Nat) (hN : N ≤ 4611686018427387904) : TOk Proofs.Try.prog 30 (t30 N) := TL_ok ar30.wk fun x v h =>
    pure_ofT (l := [TE.plain 87 (t87 N) (k87 N (by omega))]) (s := []) tys_ok eqts_ok follows Proofs.Try.func30 (c := Proofs.Try.f30.body.get rfl) rfl (by decide) (by kernel_rfl) (H := H30) (N := N) (shp := sh30)
      ((ev30 (by omega) rfl rfl rfl rfl (fun _ _ => rfl) x.1 x.2).trans h) (ar30.da x)
theorem k31 : TOk Proofs.Try.prog 31 t31 := TL_ok ar31.wk fun x v h =>
    pure_ofT (l := []) (s := []) tys_ok eqts_ok follows Proofs.Try.func31 (c := Proofs.Try.f31.body.get rfl) rfl (by decide) (by kernel_rfl) (H := H31) (N := 0) (shp := sh31)
      ((ev31 (by omega) rfl rfl rfl rfl  x).trans h) (ar31.da x)
theorem k6 (N : Nat) (hN : N ≤ 4611686018427387904) : TOk Proofs.Try.prog 6 (t6 N) := TL_ok ar6.wk fun x v h =>
    pure_ofT (l := [TE.plain 26 (t26 N) (k26 N (by omega)), TE.plain 27 (t27 N) (k27 N (by omega)), TE.plain 28 (t28 N) (k28 N (by omega)), TE.plain 29 (t29 N) (k29 N (by omega)), TE.plain 30 (t30 N) (k30 N (by omega)), TE.plain 31 (t31) k31]) (s := []) tys_ok eqts_ok follows Proofs.Try.func6 (c := Proofs.Try.f6.body.get rfl) rfl (by decide) (by kernel_rfl) (H := H6) (N := N) (shp := sh6)
      ((ev6 (by omega) rfl rfl rfl rfl (fun _ _ => rfl) (fun _ _ => rfl) (fun _ _ => rfl) (fun _ _ => rfl) (fun _ _ => rfl) (fun _ _ => rfl) x.1 x.2).trans h) (ar6.da x)
end Go.Abs.Try
