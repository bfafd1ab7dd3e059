import Derived.Test.YtjjajifecniidaaRV0
import Derived.Test.YtjjajifecniidaaRV1
import Derived.Test.YtjjajifecniidaaRV2
import Derived.Test.YtjjajifecniidaaRV3
import Derived.Test.YtjjajifecniidaaRV4
import Derived.Test.YtjjajifecniidaaRV5
import Derived.Test.YtjjajifecniidaaRV6
import Derived.Test.YtjjajifecniidaaRV7
import Derived.Test.YtjjajifecniidaaRCmp
import Derived.Test.YtjjajifecniidaaRAdd
namespace Go.Abs.Try
open Go.RowKit
set_option linter.unusedSimpArgs false
set_option linter.unusedVariables false
set_option maxRecDepth 100000
set_option maxHeartbeats 4000000
theorem k84 : TOk Proofs.Try.prog 84 t84 := TL_ok ar84.wk fun x v h =>
    pure_ofT (l := []) (s := []) tys_ok eqts_ok follows Proofs.Try.func84 (c := Proofs.Try.f84.body.get rfl) rfl (by decide) (by kernel_rfl) (H := H84) (N := 0) (shp := sh84)
      ((ev84 (by omega) rfl rfl rfl  x.1 x.2.1 x.2.2).trans h) (ar84.da x)
theorem k37 : TOk Proofs.Try.prog 37 t37 := TL_ok ar37.wk fun x v h =>
    pure_ofT (l := [TE.plain 91 (t91) k91]) (s := [se136]) tys_ok eqts_ok follows Proofs.Try.func37 (c := Proofs.Try.f37.body.get rfl) rfl (by decide) (by kernel_rfl) (H := H37) (N := 0) (shp := sh37)
      ((ev37 (by omega) rfl rfl rfl (fun _ _ => rfl) (fun _ => rfl) x).trans h) (ar37.da x)
theorem k38 : ∀ (N : Nat), N ≤ 4611686018427387904 → TOk Proofs.Try.prog 38 (t38 N)
  | 0, _ => TL_ok ar38.wk fun x v h => by have h : none = some v := h; cases h
  | N + 1, hN => TL_ok ar38.wk fun x v h =>
    pure_ofT (l := [TE.plain 38 (t38 N) (k38 N (by omega))]) (s := []) tys_ok eqts_ok follows Proofs.Try.func38 (c := Proofs.Try.f38.body.get rfl) rfl (by decide) (by kernel_rfl) (H := H38) (N := N) (shp := sh38)
      ((ev38 (by omega) (F38 N) rfl rfl rfl (fun _ _ => rfl) x).trans h) (ar38.da x)
theorem k70 (N : Nat) (hN : N ≤ 4611686018427387904) : TOk Proofs.Try.prog 70 (t70 N) := TL_ok ar70.wk fun x v h =>
    pure_ofT (l := [TE.plain 37 (t37) k37, TE.plain 38 (t38 N) (k38 N (by omega))]) (s := []) tys_ok eqts_ok follows Proofs.Try.func70 (c := Proofs.Try.f70.body.get rfl) rfl (by decide) (by kernel_rfl) (H := H70) (N := N) (shp := sh70)
      ((ev70 (by omega) rfl rfl rfl (fun _ _ => rfl) (fun _ _ => rfl) x).trans h) (ar70.da x)
theorem k73 : TOk Proofs.Try.prog 73 t73 := TL_ok ar73.wk fun x v h =>
    pure_ofT (l := []) (s := []) tys_ok eqts_ok follows Proofs.Try.func73 (c := Proofs.Try.f73.body.get rfl) rfl (by decide) (by kernel_rfl) (H := H73) (N := 0) (shp := sh73)
      ((ev73 (by omega) rfl rfl rfl  x).trans h) (ar73.da x)
theorem k74 : TOk Proofs.Try.prog 74 t74 := TL_ok ar74.wk fun x v h =>
    pure_ofT (l := []) (s := []) tys_ok eqts_ok follows Proofs.Try.func74 (c := Proofs.Try.f74.body.get rfl) rfl (by decide) (by kernel_rfl) (H := H74) (N := 0) (shp := sh74)
      ((ev74 (by omega) rfl rfl rfl  x).trans h) (ar74.da x)
theorem k16 (N : Nat) (hN : N ≤ 4611686018427387904) : TOk Proofs.Try.prog 16 (t16 N) := TL_ok ar16.wk fun x v h =>
    pure_ofT (l := [TE.plain 73 (t73) k73, TE.plain 74 (t74) k74]) (s := []) tys_ok eqts_ok follows Proofs.Try.func16 (c := Proofs.Try.f16.body.get rfl) rfl (by decide) (by kernel_rfl) (H := H16) (N := N) (shp := sh16)
      ((ev16 (by omega) rfl rfl rfl (fun _ _ => rfl) (fun _ _ => rfl) x).trans h) (ar16.da x)
theorem k116 (N : Nat) (hN : N ≤ 4611686018427387904) : TOk Proofs.Try.prog 116 (t116 N) := TL_ok ar116.wk fun x v h =>
    pure_ofT (l := [TE.plain 16 (t16 N) (k16 N (by omega))]) (s := []) tys_ok eqts_ok follows Proofs.Try.func116 (c := Proofs.Try.f116.body.get rfl) rfl (by decide) (by kernel_rfl) (H := H116) (N := N) (shp := sh116)
      ((ev116 (by omega) rfl rfl rfl (fun _ _ => rfl) x).trans h) (ar116.da x)
theorem k36 (N : Nat) (hN : N ≤ 4611686018427387904) : TOk Proofs.Try.prog 36 (t36 N) := TL_ok ar36.wk fun x v h =>
    pure_ofT (l := []) (s := []) tys_ok eqts_ok follows Proofs.Try.func36 (c := Proofs.Try.f36.body.get rfl) rfl (by decide) (by kernel_rfl) (H := H36) (N := N) (shp := sh36)
      ((ev36 (by omega) rfl rfl rfl  x).trans h) (ar36.da x)
theorem k153 : TOk Proofs.Try.prog 153 t153 := TL_ok ar153.wk fun x v h =>
    pure_ofT (l := []) (s := []) tys_ok eqts_ok follows Proofs.Try.func153 (c := Proofs.Try.f153.body.get rfl) rfl (by decide) (by kernel_rfl) (H := H153) (N := 0) (shp := sh153)
      ((ev153 (by omega) rfl rfl rfl  x).trans h) (ar153.da x)
theorem k154 (N : Nat) (hN : N ≤ 4611686018427387904) : TOk Proofs.Try.prog 154 (t154 N) := TL_ok ar154.wk fun x v h =>
    pure_ofT (l := []) (s := []) tys_ok eqts_ok follows Proofs.Try.func154 (c := Proofs.Try.f154.body.get rfl) rfl (by decide) (by kernel_rfl) (H := H154) (N := N) (shp := sh154)
      ((ev154 (by omega) rfl rfl rfl  x.1 x.2).trans h) (ar154.da x)
theorem k117 (N : Nat) (hN : N ≤ 4611686018427387904) : TOk Proofs.Try.prog 117 (t117 N) := TL_ok ar117.wk fun x v h =>
    pure_ofT (l := [TE.plain 36 (t36 N) (k36 N (by omega)), TE.plain 153 (t153) k153, TE.lent 154 (t154 N) (k154 N (by omega)), TE.inl tys eqts [] [] tys_ok eqts_ok follows 155 Proofs.Try.f155 Proofs.Try.func155 (c := Proofs.Try.f155.body.get rfl) rfl (by decide) (by kernel_rfl) H155 N]) (s := []) tys_ok eqts_ok follows Proofs.Try.func117 (c := Proofs.Try.f117.body.get rfl) rfl (by decide) (by kernel_rfl) (H := H117) (N := N) (shp := sh117)
      ((ev117 (E155 := fun n0 => mkT Proofs.Try.prog n0 tys eqts [] []) (by omega) rfl rfl rfl (fun _ _ => rfl) (fun _ _ => rfl) (fun _ _ => rfl) (fun _ _ => rfl) (fun _ => rfl) (fun _ => rfl) (fun _ => rfl) x).trans h) (ar117.da x)
theorem k71 (N : Nat) (hN : N ≤ 4611686018427387904) : TOk Proofs.Try.prog 71 (t71 N) := TL_ok ar71.wk fun x v h =>
    pure_ofT (l := [TE.plain 91 (t91) k91, TE.plain 116 (t116 N) (k116 N (by omega)), TE.plain 117 (t117 N) (k117 N (by omega))]) (s := [se136]) tys_ok eqts_ok follows Proofs.Try.func71 (c := Proofs.Try.f71.body.get rfl) rfl (by decide) (by kernel_rfl) (H := H71) (N := N) (shp := sh71)
      ((ev71 (by omega) rfl rfl rfl (fun _ _ => rfl) (fun _ _ => rfl) (fun _ _ => rfl) (fun _ => rfl) x).trans h) (ar71.da x)
theorem k40 : TOk Proofs.Try.prog 40 t40 := TL_ok ar40.wk fun x v h =>
    pure_ofT (l := [TE.plain 91 (t91) k91]) (s := [se136]) tys_ok eqts_ok follows Proofs.Try.func40 (c := Proofs.Try.f40.body.get rfl) rfl (by decide) (by kernel_rfl) (H := H40) (N := 0) (shp := sh40)
      ((ev40 (by omega) rfl rfl rfl (fun _ _ => rfl) (fun _ => rfl) x).trans h) (ar40.da x)
theorem k14 (N : Nat) (hN : N ≤ 4611686018427387904) : TOk Proofs.Try.prog 14 (t14 N) := TL_ok ar14.wk fun x v h =>
    pure_ofT (l := [TE.plain 70 (t70 N) (k70 N (by omega)), TE.plain 71 (t71 N) (k71 N (by omega)), TE.plain 40 (t40) k40, TE.plain 36 (t36 N) (k36 N (by omega))]) (s := []) tys_ok eqts_ok follows Proofs.Try.func14 (c := Proofs.Try.f14.body.get rfl) rfl (by decide) (by kernel_rfl) (H := H14) (N := N) (shp := sh14)
      ((ev14 (by omega) rfl rfl rfl (fun _ _ => rfl) (fun _ _ => rfl) (fun _ _ => rfl) (fun _ _ => rfl) x.1 x.2).trans h) (ar14.da x)
theorem k112 : TOk Proofs.Try.prog 112 t112 := TL_ok ar112.wk fun x v h =>
    pure_ofT (l := []) (s := []) tys_ok eqts_ok follows Proofs.Try.func112 (c := Proofs.Try.f112.body.get rfl) rfl (by decide) (by kernel_rfl) (H := H112) (N := 0) (shp := sh112)
      ((ev112 (by omega) rfl rfl rfl  x).trans h) (ar112.da x)
theorem k161 : TOk Proofs.Try.prog 161 t161 := TL_ok ar161.wk fun x v h =>
    pure_ofT (l := []) (s := []) tys_ok eqts_ok follows Proofs.Try.func161 (c := Proofs.Try.f161.body.get rfl) rfl (by decide) (by kernel_rfl) (H := H161) (N := 0) (shp := sh161)
      ((ev161 (by omega) rfl rfl rfl  x.1 x.2).trans h) (ar161.da x)
theorem k128 : TOk Proofs.Try.prog 128 t128 := TL_ok ar128.wk fun x v h =>
    pure_ofT (l := [TE.plain 161 (t161) k161, TE.plain 162 (t162) k162]) (s := []) tys_ok eqts_ok follows Proofs.Try.func128 (c := Proofs.Try.f128.body.get rfl) rfl (by decide) (by kernel_rfl) (H := H128) (N := 0) (shp := sh128)
      ((ev128 (by omega) rfl rfl rfl (fun _ _ => rfl) (fun _ _ => rfl) x.1 x.2.1 x.2.2).trans h) (ar128.da x)
theorem k129 : TOk Proofs.Try.prog 129 t129 := TL_ok ar129.wk fun x v h =>
    pure_ofT (l := [TE.plain 112 (t112) k112]) (s := []) tys_ok eqts_ok follows Proofs.Try.func129 (c := Proofs.Try.f129.body.get rfl) rfl (by decide) (by kernel_rfl) (H := H129) (N := 0) (shp := sh129)
      ((ev129 (by omega) rfl rfl rfl (fun _ _ => rfl) x).trans h) (ar129.da x)
theorem k78 : TOk Proofs.Try.prog 78 t78 := TL_ok ar78.wk fun x v h =>
    pure_ofT (l := []) (s := []) tys_ok eqts_ok follows Proofs.Try.func78 (c := Proofs.Try.f78.body.get rfl) rfl (by decide) (by kernel_rfl) (H := H78) (N := 0) (shp := sh78)
      ((ev78 (by omega) rfl rfl rfl  x.1 x.2).trans h) (ar78.da x)
theorem k80 : TOk Proofs.Try.prog 80 t80 := TL_ok ar80.wk fun x v h =>
    pure_ofT (l := []) (s := []) tys_ok eqts_ok follows Proofs.Try.func80 (c := Proofs.Try.f80.body.get rfl) rfl (by decide) (by kernel_rfl) (H := H80) (N := 0) (shp := sh80)
      ((ev80 (by omega) rfl rfl rfl  x.1 x.2).trans h) (ar80.da x)
theorem k18 : ∀ (N : Nat), N ≤ 4611686018427387904 → TOk Proofs.Try.prog 18 (t18 N)
  | 0, _ => TL_ok ar18.wk fun x v h => by have h : none = some v := h; cases h
  | N + 1, hN => TL_ok ar18.wk fun x v h =>
    pure_ofT (l := [TE.plain 78 (t78) k78, TE.plain 79 (t79) k79, TE.plain 80 (t80) k80, TE.plain 18 (t18 N) (k18 N (by omega))]) (s := []) tys_ok eqts_ok follows Proofs.Try.func18 (c := Proofs.Try.f18.body.get rfl) rfl (by decide) (by kernel_rfl) (H := H18) (N := N) (shp := sh18)
      ((ev18 (by omega) (F18 N) rfl rfl rfl (fun _ _ => rfl) (fun _ _ => rfl) (fun _ _ => rfl) (fun _ _ => rfl) x.1 x.2).trans h) (ar18.da x)
theorem k88 (N : Nat) (hN : N ≤ 4611686018427387904) : TOk Proofs.Try.prog 88 (t88 N) := TL_ok ar88.wk fun x v h =>
    pure_ofT (l := [TE.plain 128 (t128) k128, TE.plain 129 (t129) k129, TE.plain 18 (t18 N) (k18 N (by omega))]) (s := []) tys_ok eqts_ok follows Proofs.Try.func88 (c := Proofs.Try.f88.body.get rfl) rfl (by decide) (by kernel_rfl) (H := H88) (N := N) (shp := sh88)
      ((ev88 (by omega) rfl rfl rfl (fun _ _ => rfl) (fun _ _ => rfl) (fun _ _ => rfl) x.1 x.2.1 x.2.2.1 x.2.2.2).trans h) (ar88.da x)
theorem k85 : ∀ (N : Nat), N ≤ 4611686018427387904 → TOk Proofs.Try.prog 85 (t85 N)
  | 0, _ => TL_ok ar85.wk fun x v h => by have h : none = some v := h; cases h
  | N + 1, hN => TL_ok ar85.wk fun x v h =>
    pure_ofT (l := [TE.plain 112 (t112) k112, TE.inl tys eqts [TE.plain 85 (t85 N) (k85 N (by omega)), TE.plain 88 (t88 N) (k88 N (by omega))] [] tys_ok eqts_ok follows 124 Proofs.Try.f124 Proofs.Try.func124 (c := Proofs.Try.f124.body.get rfl) rfl (by decide) (by kernel_rfl) H124 N, TE.plain 85 (t85 N) (k85 N (by omega)), TE.plain 88 (t88 N) (k88 N (by omega))]) (s := []) tys_ok eqts_ok follows Proofs.Try.func85 (c := Proofs.Try.f85.body.get rfl) rfl (by decide) (by kernel_rfl) (H := H85) (N := N) (shp := sh85)
      ((ev85 (E124 := fun n0 => mkT Proofs.Try.prog n0 tys eqts [TE.plain 85 (t85 N) (k85 N (by omega)), TE.plain 88 (t88 N) (k88 N (by omega))] []) (by omega) (F85 N) rfl rfl rfl (fun _ _ => rfl) (fun _ _ => rfl) (fun _ _ => rfl) (fun _ _ => rfl) (fun _ => rfl) (fun _ => rfl) (fun _ => rfl) (fun _ _ _ => rfl) (fun _ _ _ => rfl) x).trans h) (ar85.da x)
theorem k82 : ∀ (N : Nat), N ≤ 4611686018427387904 → TOk Proofs.Try.prog 82 (t82 N)
  | 0, _ => TL_ok ar82.wk fun x v h => by have h : none = some v := h; cases h
  | N + 1, hN => TL_ok ar82.wk fun x v h =>
    pure_ofT (l := [te123, TE.plain 82 (t82 N) (k82 N (by omega))]) (s := []) tys_ok eqts_ok follows Proofs.Try.func82 (c := Proofs.Try.f82.body.get rfl) rfl (by decide) (by kernel_rfl) (H := H82) (N := N) (shp := sh82)
      ((ev82 (by omega) (F82 N) rfl rfl rfl (fun _ _ => rfl) (fun _ _ => rfl) x).trans h) (ar82.da x)
theorem k22 : ∀ (N : Nat), N ≤ 4611686018427387904 → TOk Proofs.Try.prog 22 (t22 N)
  | 0, _ => TL_ok ar22.wk fun x v h => by have h : none = some v := h; cases h
  | N + 1, hN => TL_ok ar22.wk fun x v h =>
    pure_ofT (l := [TE.plain 82 (t82 N) (k82 N (by omega)), TE.plain 22 (t22 N) (k22 N (by omega))]) (s := []) tys_ok eqts_ok follows Proofs.Try.func22 (c := Proofs.Try.f22.body.get rfl) rfl (by decide) (by kernel_rfl) (H := H22) (N := N) (shp := sh22)
      ((ev22 (by omega) (F22 N) rfl rfl rfl (fun _ _ => rfl) (fun _ _ => rfl) x.1 x.2.1 x.2.2).trans h) (ar22.da x)
theorem k24 (N : Nat) (hN : N ≤ 4611686018427387904) : TOk Proofs.Try.prog 24 (t24 N) := TL_ok ar24.wk fun x v h =>
    pure_ofT (l := [TE.plain 22 (t22 N) (k22 N (by omega))]) (s := []) tys_ok eqts_ok follows Proofs.Try.func24 (c := Proofs.Try.f24.body.get rfl) rfl (by decide) (by kernel_rfl) (H := H24) (N := N) (shp := sh24)
      ((ev24 (by omega) rfl rfl rfl (fun _ _ => rfl) x.1 x.2.1 x.2.2).trans h) (ar24.da x)
theorem k86 (N : Nat) (hN : N ≤ 4611686018427387904) : TOk Proofs.Try.prog 86 (t86 N) := TL_ok ar86.wk fun x v h =>
    pure_ofT (l := [te125, TE.plain 24 (t24 N) (k24 N (by omega))]) (s := []) tys_ok eqts_ok follows Proofs.Try.func86 (c := Proofs.Try.f86.body.get rfl) rfl (by decide) (by kernel_rfl) (H := H86) (N := N) (shp := sh86)
      ((ev86 (by omega) rfl rfl rfl (fun _ _ => rfl) (fun _ _ => rfl) x).trans h) (ar86.da x)
theorem k29 (N : Nat) (hN : N ≤ 4611686018427387904) : TOk Proofs.Try.prog 29 (t29 N) := TL_ok ar29.wk fun x v h =>
    pure_ofT (l := [TE.plain 14 (t14 N) (k14 N (by omega)), TE.plain 36 (t36 N) (k36 N (by omega)), TE.plain 85 (t85 N) (k85 N (by omega)), TE.plain 86 (t86 N) (k86 N (by omega))]) (s := []) tys_ok eqts_ok follows Proofs.Try.func29 (c := Proofs.Try.f29.body.get rfl) rfl (by decide) (by kernel_rfl) (H := H29) (N := N) (shp := sh29)
      ((ev29 (by omega) rfl rfl rfl (fun _ _ => rfl) (fun _ _ => rfl) (fun _ _ => rfl) (fun _ _ => rfl) x).trans h) (ar29.da x)
theorem k26 (N : Nat) (hN : N ≤ 4611686018427387904) : TOk Proofs.Try.prog 26 (t26 N) := TL_ok ar26.wk fun x v h =>
    pure_ofT (l := [TE.plain 84 (t84) k84, TE.plain 29 (t29 N) (k29 N (by omega))]) (s := []) tys_ok eqts_ok follows Proofs.Try.func26 (c := Proofs.Try.f26.body.get rfl) rfl (by decide) (by kernel_rfl) (H := H26) (N := N) (shp := sh26)
      ((ev26 (by omega) rfl rfl rfl (fun _ _ => rfl) (fun _ _ => rfl) ).trans h) (ar26.da x)
theorem k27 : ∀ (N : Nat), N ≤ 4611686018427387904 → TOk Proofs.Try.prog 27 (t27 N)
  | 0, _ => TL_ok ar27.wk fun x v h => by have h : none = some v := h; cases h
  | N + 1, hN => TL_ok ar27.wk fun x v h =>
    pure_ofT (l := [TE.plain 27 (t27 N) (k27 N (by omega))]) (s := []) tys_ok eqts_ok follows Proofs.Try.func27 (c := Proofs.Try.f27.body.get rfl) rfl (by decide) (by kernel_rfl) (H := H27) (N := N) (shp := sh27)
      ((ev27 (by omega) (F27 N) rfl rfl rfl (fun _ _ => rfl) x).trans h) (ar27.da x)
theorem k32 (N : Nat) (hN : N ≤ 4611686018427387904) : TOk Proofs.Try.prog 32 (t32 N) := TL_ok ar32.wk fun x v h =>
    pure_ofT (l := [TE.plain 27 (t27 N) (k27 N (by omega))]) (s := []) tys_ok eqts_ok follows Proofs.Try.func32 (c := Proofs.Try.f32.body.get rfl) rfl (by decide) (by kernel_rfl) (H := H32) (N := N) (shp := sh32)
      ((ev32 (by omega) rfl rfl rfl (fun _ _ => rfl) x).trans h) (ar32.da x)
theorem k62 (N : Nat) (hN : N ≤ 4611686018427387904) : TOk Proofs.Try.prog 62 (t62 N) := TL_ok ar62.wk fun x v h =>
    pure_ofT (l := [TE.plain 14 (t14 N) (k14 N (by omega)), TE.plain 36 (t36 N) (k36 N (by omega))]) (s := []) tys_ok eqts_ok follows Proofs.Try.func62 (c := Proofs.Try.f62.body.get rfl) rfl (by decide) (by kernel_rfl) (H := H62) (N := N) (shp := sh62)
      ((ev62 (by omega) rfl rfl rfl (fun _ _ => rfl) (fun _ _ => rfl) x).trans h) (ar62.da x)
theorem k64 (N : Nat) (hN : N ≤ 4611686018427387904) : TOk Proofs.Try.prog 64 (t64 N) := TL_ok ar64.wk fun x v h =>
    pure_ofT (l := [TE.plain 112 (t112) k112, TE.plain 62 (t62 N) (k62 N (by omega)), TE.plain 18 (t18 N) (k18 N (by omega))]) (s := []) tys_ok eqts_ok follows Proofs.Try.func64 (c := Proofs.Try.f64.body.get rfl) rfl (by decide) (by kernel_rfl) (H := H64) (N := N) (shp := sh64)
      ((ev64 (by omega) rfl rfl rfl (fun _ _ => rfl) (fun _ _ => rfl) (fun _ _ => rfl) x).trans h) (ar64.da x)
theorem k33 (N : Nat) (hN : N ≤ 4611686018427387904) : TOk Proofs.Try.prog 33 (t33 N) := TL_ok ar33.wk fun x v h =>
    pure_ofT (l := [TE.plain 64 (t64 N) (k64 N (by omega)), TE.plain 88 (t88 N) (k88 N (by omega)), TE.plain 86 (t86 N) (k86 N (by omega))]) (s := []) tys_ok eqts_ok follows Proofs.Try.func33 (c := Proofs.Try.f33.body.get rfl) rfl (by decide) (by kernel_rfl) (H := H33) (N := N) (shp := sh33)
      ((ev33 (by omega) rfl rfl rfl (fun _ _ => rfl) (fun _ _ => rfl) (fun _ _ => rfl) x.1 x.2.1 x.2.2.1 x.2.2.2).trans h) (ar33.da x)
theorem k130 : TOk Proofs.Try.prog 130 t130 := TL_ok ar130.wk fun x v h =>
    pure_ofT (l := []) (s := []) tys_ok eqts_ok follows Proofs.Try.func130 (c := Proofs.Try.f130.body.get rfl) rfl (by decide) (by kernel_rfl) (H := H130) (N := 0) (shp := sh130)
      ((ev130 (by omega) rfl rfl rfl  x).trans h) (ar130.da x)
theorem k28 : ∀ (N : Nat), N ≤ 4611686018427387904 → TOk Proofs.Try.prog 28 (t28 N)
  | 0, _ => TL_ok ar28.wk fun x v h => by have h : none = some v := h; cases h
  | N + 1, hN => TL_ok ar28.wk fun x v h =>
    pure_ofT (l := [TE.plain 28 (t28 N) (k28 N (by omega))]) (s := []) tys_ok eqts_ok follows Proofs.Try.func28 (c := Proofs.Try.f28.body.get rfl) rfl (by decide) (by kernel_rfl) (H := H28) (N := N) (shp := sh28)
      ((ev28 (by omega) (F28 N) rfl rfl rfl (fun _ _ => rfl) x).trans h) (ar28.da x)
theorem k39 : ∀ (N : Nat), N ≤ 4611686018427387904 → TOk Proofs.Try.prog 39 (t39 N)
  | 0, _ => TL_ok ar39.wk fun x v h => by have h : none = some v := h; cases h
  | N + 1, hN => TL_ok ar39.wk fun x v h =>
    pure_ofT (l := [TE.plain 39 (t39 N) (k39 N (by omega))]) (s := []) tys_ok eqts_ok follows Proofs.Try.func39 (c := Proofs.Try.f39.body.get rfl) rfl (by decide) (by kernel_rfl) (H := H39) (N := N) (shp := sh39)
      ((ev39 (by omega) (F39 N) rfl rfl rfl (fun _ _ => rfl) x).trans h) (ar39.da x)
theorem k75 : TOk Proofs.Try.prog 75 t75 := TL_ok ar75.wk fun x v h =>
    pure_ofT (l := []) (s := []) tys_ok eqts_ok follows Proofs.Try.func75 (c := Proofs.Try.f75.body.get rfl) rfl (by decide) (by kernel_rfl) (H := H75) (N := 0) (shp := sh75)
      ((ev75 (by omega) rfl rfl rfl  x).trans h) (ar75.da x)
theorem k121 : TOk Proofs.Try.prog 121 t121 := TL_ok ar121.wk fun x v h =>
    pure_ofT (l := []) (s := []) tys_ok eqts_ok follows Proofs.Try.func121 (c := Proofs.Try.f121.body.get rfl) rfl (by decide) (by kernel_rfl) (H := H121) (N := 0) (shp := sh121)
      ((ev121 (by omega) rfl rfl rfl  ).trans h) (ar121.da x)
theorem k76 (N : Nat) (hN : N ≤ 4611686018427387904) : TOk Proofs.Try.prog 76 (t76 N) := TL_ok ar76.wk fun x v h =>
    pure_ofT (l := [TE.plain 121 (t121) k121]) (s := []) tys_ok eqts_ok follows Proofs.Try.func76 (c := Proofs.Try.f76.body.get rfl) rfl (by decide) (by kernel_rfl) (H := H76) (N := N) (shp := sh76)
      ((ev76 (by omega) rfl rfl rfl (fun _ _ => rfl) x).trans h) (ar76.da x)
theorem k77 : TOk Proofs.Try.prog 77 t77 := TL_ok ar77.wk fun x v h =>
    pure_ofT (l := []) (s := []) tys_ok eqts_ok follows Proofs.Try.func77 (c := Proofs.Try.f77.body.get rfl) rfl (by decide) (by kernel_rfl) (H := H77) (N := 0) (shp := sh77)
      ((ev77 (by omega) rfl rfl rfl  x).trans h) (ar77.da x)
theorem k17 (N : Nat) (hN : N ≤ 4611686018427387904) : TOk Proofs.Try.prog 17 (t17 N) := TL_ok ar17.wk fun x v h =>
    pure_ofT (l := [TE.plain 75 (t75) k75, TE.plain 76 (t76 N) (k76 N (by omega)), TE.plain 77 (t77) k77]) (s := []) tys_ok eqts_ok follows Proofs.Try.func17 (c := Proofs.Try.f17.body.get rfl) rfl (by decide) (by kernel_rfl) (H := H17) (N := N) (shp := sh17)
      ((ev17 (by omega) rfl rfl rfl (fun _ _ => rfl) (fun _ _ => rfl) (fun _ _ => rfl) x).trans h) (ar17.da x)
theorem k118 (N : Nat) (hN : N ≤ 4611686018427387904) : TOk Proofs.Try.prog 118 (t118 N) := TL_ok ar118.wk fun x v h =>
    pure_ofT (l := [TE.plain 17 (t17 N) (k17 N (by omega))]) (s := []) tys_ok eqts_ok follows Proofs.Try.func118 (c := Proofs.Try.f118.body.get rfl) rfl (by decide) (by kernel_rfl) (H := H118) (N := N) (shp := sh118)
      ((ev118 (by omega) rfl rfl rfl (fun _ _ => rfl) x).trans h) (ar118.da x)
theorem k119 : TOk Proofs.Try.prog 119 t119 := TL_ok ar119.wk fun x v h =>
    pure_ofT (l := []) (s := []) tys_ok eqts_ok follows Proofs.Try.func119 (c := Proofs.Try.f119.body.get rfl) rfl (by decide) (by kernel_rfl) (H := H119) (N := 0) (shp := sh119)
      ((ev119 (by omega) rfl rfl rfl  x).trans h) (ar119.da x)
theorem k120 : TOk Proofs.Try.prog 120 t120 := TL_ok ar120.wk fun x v h =>
    pure_ofT (l := []) (s := []) tys_ok eqts_ok follows Proofs.Try.func120 (c := Proofs.Try.f120.body.get rfl) rfl (by decide) (by kernel_rfl) (H := H120) (N := 0) (shp := sh120)
      ((ev120 (by omega) rfl rfl rfl  x).trans h) (ar120.da x)
theorem k72 : ∀ (N : Nat), N ≤ 4611686018427387904 → TOk Proofs.Try.prog 72 (t72 N)
  | 0, _ => TL_ok ar72.wk fun x v h => by have h : none = some v := h; cases h
  | N + 1, hN => TL_ok ar72.wk fun x v h =>
    pure_ofT (l := [TE.plain 118 (t118 N) (k118 N (by omega)), TE.plain 72 (t72 N) (k72 N (by omega)), TE.plain 28 (t28 N) (k28 N (by omega)), TE.plain 119 (t119) k119, TE.plain 120 (t120) k120]) (s := []) tys_ok eqts_ok follows Proofs.Try.func72 (c := Proofs.Try.f72.body.get rfl) rfl (by decide) (by kernel_rfl) (H := H72) (N := N) (shp := sh72)
      ((ev72 (by omega) (F72 N) rfl rfl rfl (fun _ _ => rfl) (fun _ _ => rfl) (fun _ _ => rfl) (fun _ _ => rfl) (fun _ _ => rfl) x).trans h) (ar72.da x)
theorem k168 : TOk Proofs.Try.prog 168 t168 := TL_ok ar168.wk fun x v h =>
    pure_ofT (l := []) (s := []) tys_ok eqts_ok follows Proofs.Try.func168 (c := Proofs.Try.f168.body.get rfl) rfl (by decide) (by kernel_rfl) (H := H168) (N := 0) (shp := sh168)
      ((ev168 (by omega) rfl rfl rfl  x.1 x.2).trans h) (ar168.da x)
theorem k140 (N : Nat) (hN : N ≤ 4611686018427387904) : TOk Proofs.Try.prog 140 (t140 N) := TL_ok ar140.wk fun x v h =>
    pure_ofT (l := [TE.plain 168 (t168) k168]) (s := []) tys_ok eqts_ok follows Proofs.Try.func140 (c := Proofs.Try.f140.body.get rfl) rfl (by decide) (by kernel_rfl) (H := H140) (N := N) (shp := sh140)
      ((ev140 (by omega) rfl rfl rfl (fun _ _ => rfl) x.1 x.2).trans h) (ar140.da x)
theorem k95 : ∀ (N : Nat), N ≤ 4611686018427387904 → TOk Proofs.Try.prog 95 (t95 N)
  | 0, _ => TL_ok ar95.wk fun x v h => by have h : none = some v := h; cases h
  | N + 1, hN => TL_ok ar95.wk fun x v h =>
    pure_ofT (l := [TE.plain 140 (t140 N) (k140 N (by omega)), TE.plain 95 (t95 N) (k95 N (by omega))]) (s := []) tys_ok eqts_ok follows Proofs.Try.func95 (c := Proofs.Try.f95.body.get rfl) rfl (by decide) (by kernel_rfl) (H := H95) (N := N) (shp := sh95)
      ((ev95 (by omega) (F95 N) rfl rfl rfl (fun _ _ => rfl) (fun _ _ => rfl) x.1 x.2).trans h) (ar95.da x)
theorem k47 (N : Nat) (hN : N ≤ 4611686018427387904) : TOk Proofs.Try.prog 47 (t47 N) := TL_ok ar47.wk fun x v h =>
    pure_ofT (l := [TE.plain 95 (t95 N) (k95 N (by omega))]) (s := []) tys_ok eqts_ok follows Proofs.Try.func47 (c := Proofs.Try.f47.body.get rfl) rfl (by decide) (by kernel_rfl) (H := H47) (N := N) (shp := sh47)
      ((ev47 (by omega) rfl rfl rfl (fun _ _ => rfl) x).trans h) (ar47.da x)
theorem k92 : ∀ (N : Nat), N ≤ 4611686018427387904 → TOk Proofs.Try.prog 92 (t92 N)
  | 0, _ => TL_ok ar92.wk fun x v h => by have h : none = some v := h; cases h
  | N + 1, hN => TL_ok ar92.wk fun x v h =>
    pure_ofT (l := [TE.plain 92 (t92 N) (k92 N (by omega))]) (s := []) tys_ok eqts_ok follows Proofs.Try.func92 (c := Proofs.Try.f92.body.get rfl) rfl (by decide) (by kernel_rfl) (H := H92) (N := N) (shp := sh92)
      ((ev92 (by omega) (F92 N) rfl rfl rfl (fun _ _ => rfl) x.1 x.2).trans h) (ar92.da x)
theorem k41 (N : Nat) (hN : N ≤ 4611686018427387904) : TOk Proofs.Try.prog 41 (t41 N) := TL_ok ar41.wk fun x v h =>
    pure_ofT (l := [TE.plain 47 (t47 N) (k47 N (by omega)), TE.plain 92 (t92 N) (k92 N (by omega))]) (s := []) tys_ok eqts_ok follows Proofs.Try.func41 (c := Proofs.Try.f41.body.get rfl) rfl (by decide) (by kernel_rfl) (H := H41) (N := N) (shp := sh41)
      ((ev41 (by omega) rfl rfl rfl (fun _ _ => rfl) (fun _ _ => rfl) x).trans h) (ar41.da x)
theorem k15 (N : Nat) (hN : N ≤ 4611686018427387904) : TOk Proofs.Try.prog 15 (t15 N) := TL_ok ar15.wk fun x v h =>
    pure_ofT (l := [TE.plain 27 (t27 N) (k27 N (by omega)), TE.plain 39 (t39 N) (k39 N (by omega)), TE.plain 72 (t72 N) (k72 N (by omega)), TE.plain 41 (t41 N) (k41 N (by omega)), TE.plain 28 (t28 N) (k28 N (by omega))]) (s := []) tys_ok eqts_ok follows Proofs.Try.func15 (c := Proofs.Try.f15.body.get rfl) rfl (by decide) (by kernel_rfl) (H := H15) (N := N) (shp := sh15)
      ((ev15 (by omega) rfl rfl rfl (fun _ _ => rfl) (fun _ _ => rfl) (fun _ _ => rfl) (fun _ _ => rfl) (fun _ _ => rfl) x.1 x.2).trans h) (ar15.da x)
theorem k63 (N : Nat) (hN : N ≤ 4611686018427387904) : TOk Proofs.Try.prog 63 (t63 N) := TL_ok ar63.wk fun x v h =>
    pure_ofT (l := [TE.plain 28 (t28 N) (k28 N (by omega)), TE.plain 15 (t15 N) (k15 N (by omega))]) (s := []) tys_ok eqts_ok follows Proofs.Try.func63 (c := Proofs.Try.f63.body.get rfl) rfl (by decide) (by kernel_rfl) (H := H63) (N := N) (shp := sh63)
      ((ev63 (by omega) rfl rfl rfl (fun _ _ => rfl) (fun _ _ => rfl) x).trans h) (ar63.da x)
theorem k81 : TOk Proofs.Try.prog 81 t81 := TL_ok ar81.wk fun x v h =>
    pure_ofT (l := []) (s := []) tys_ok eqts_ok follows Proofs.Try.func81 (c := Proofs.Try.f81.body.get rfl) rfl (by decide) (by kernel_rfl) (H := H81) (N := 0) (shp := sh81)
      ((ev81 (by omega) rfl rfl rfl  x.1 x.2).trans h) (ar81.da x)
theorem k19 : ∀ (N : Nat), N ≤ 4611686018427387904 → TOk Proofs.Try.prog 19 (t19 N)
  | 0, _ => TL_ok ar19.wk fun x v h => by have h : none = some v := h; cases h
  | N + 1, hN => TL_ok ar19.wk fun x v h =>
    pure_ofT (l := [TE.plain 81 (t81) k81, TE.plain 19 (t19 N) (k19 N (by omega))]) (s := []) tys_ok eqts_ok follows Proofs.Try.func19 (c := Proofs.Try.f19.body.get rfl) rfl (by decide) (by kernel_rfl) (H := H19) (N := N) (shp := sh19)
      ((ev19 (by omega) (F19 N) rfl rfl rfl (fun _ _ => rfl) (fun _ _ => rfl) x.1 x.2).trans h) (ar19.da x)
theorem k89 (N : Nat) (hN : N ≤ 4611686018427387904) : TOk Proofs.Try.prog 89 (t89 N) := TL_ok ar89.wk fun x v h =>
    pure_ofT (l := [TE.plain 130 (t130) k130, TE.plain 63 (t63 N) (k63 N (by omega)), TE.plain 19 (t19 N) (k19 N (by omega))]) (s := []) tys_ok eqts_ok follows Proofs.Try.func89 (c := Proofs.Try.f89.body.get rfl) rfl (by decide) (by kernel_rfl) (H := H89) (N := N) (shp := sh89)
      ((ev89 (by omega) rfl rfl rfl (fun _ _ => rfl) (fun _ _ => rfl) (fun _ _ => rfl) x).trans h) (ar89.da x)
theorem k143 (N : Nat) (hN : N ≤ 4611686018427387904) : TOk Proofs.Try.prog 143 (t143 N) := TL_ok ar143.wk fun x v h =>
    pure_ofT (l := [TE.plain 19 (t19 N) (k19 N (by omega))]) (s := []) tys_ok eqts_ok follows Proofs.Try.func143 (c := Proofs.Try.f143.body.get rfl) rfl (by decide) (by kernel_rfl) (H := H143) (N := N) (shp := sh143)
      ((ev143 (by omega) rfl rfl rfl (fun _ _ => rfl) x.1 x.2).trans h) (ar143.da x)
theorem k131 (N : Nat) (hN : N ≤ 4611686018427387904) : TOk Proofs.Try.prog 131 (t131 N) := TL_ok ar131.wk fun x v h =>
    pure_ofT (l := [TE.plain 143 (t143 N) (k143 N (by omega))]) (s := []) tys_ok eqts_ok follows Proofs.Try.func131 (c := Proofs.Try.f131.body.get rfl) rfl (by decide) (by kernel_rfl) (H := H131) (N := N) (shp := sh131)
      ((ev131 (by omega) rfl rfl rfl (fun _ _ => rfl) x.1 x.2).trans h) (ar131.da x)
theorem k165 : TOk Proofs.Try.prog 165 t165 := TL_ok ar165.wk fun x v h =>
    pure_ofT (l := []) (s := []) tys_ok eqts_ok follows Proofs.Try.func165 (c := Proofs.Try.f165.body.get rfl) rfl (by decide) (by kernel_rfl) (H := H165) (N := 0) (shp := sh165)
      ((ev165 (by omega) rfl rfl rfl  x).trans h) (ar165.da x)
theorem k133 : TOk Proofs.Try.prog 133 t133 := TL_ok ar133.wk fun x v h =>
    pure_ofT (l := [TE.plain 165 (t165) k165]) (s := []) tys_ok eqts_ok follows Proofs.Try.func133 (c := Proofs.Try.f133.body.get rfl) rfl (by decide) (by kernel_rfl) (H := H133) (N := 0) (shp := sh133)
      ((ev133 (by omega) rfl rfl rfl (fun _ _ => rfl) x.1 x.2).trans h) (ar133.da x)
theorem k163 : TOk Proofs.Try.prog 163 t163 := TL_ok ar163.wk fun x v h =>
    pure_ofT (l := []) (s := []) tys_ok eqts_ok follows Proofs.Try.func163 (c := Proofs.Try.f163.body.get rfl) rfl (by decide) (by kernel_rfl) (H := H163) (N := 0) (shp := sh163)
      ((ev163 (by omega) rfl rfl rfl  x.1 x.2).trans h) (ar163.da x)
theorem k164 : TOk Proofs.Try.prog 164 t164 := TL_ok ar164.wk fun x v h =>
    pure_ofT (l := []) (s := []) tys_ok eqts_ok follows Proofs.Try.func164 (c := Proofs.Try.f164.body.get rfl) rfl (by decide) (by kernel_rfl) (H := H164) (N := 0) (shp := sh164)
      ((ev164 (by omega) rfl rfl rfl  x.1 x.2).trans h) (ar164.da x)
theorem k132 : TOk Proofs.Try.prog 132 t132 := TL_ok ar132.wk fun x v h =>
    pure_ofT (l := [TE.plain 163 (t163) k163, TE.plain 164 (t164) k164]) (s := []) tys_ok eqts_ok follows Proofs.Try.func132 (c := Proofs.Try.f132.body.get rfl) rfl (by decide) (by kernel_rfl) (H := H132) (N := 0) (shp := sh132)
      ((ev132 (by omega) rfl rfl rfl (fun _ _ => rfl) (fun _ _ => rfl) x.1 x.2).trans h) (ar132.da x)
theorem k134 : TOk Proofs.Try.prog 134 t134 := TL_ok ar134.wk fun x v h =>
    pure_ofT (l := []) (s := []) tys_ok eqts_ok follows Proofs.Try.func134 (c := Proofs.Try.f134.body.get rfl) rfl (by decide) (by kernel_rfl) (H := H134) (N := 0) (shp := sh134)
      ((ev134 (by omega) rfl rfl rfl  x).trans h) (ar134.da x)
theorem k21 (N : Nat) (hN : N ≤ 4611686018427387904) : TOk Proofs.Try.prog 21 (t21 N) := TL_ok ar21.wk fun x v h =>
    pure_ofT (l := [TE.plain 19 (t19 N) (k19 N (by omega))]) (s := []) tys_ok eqts_ok follows Proofs.Try.func21 (c := Proofs.Try.f21.body.get rfl) rfl (by decide) (by kernel_rfl) (H := H21) (N := N) (shp := sh21)
      ((ev21 (by omega) rfl rfl rfl (fun _ _ => rfl) x.1 x.2).trans h) (ar21.da x)
theorem k135 (N : Nat) (hN : N ≤ 4611686018427387904) : TOk Proofs.Try.prog 135 (t135 N) := TL_ok ar135.wk fun x v h =>
    pure_ofT (l := [TE.plain 21 (t21 N) (k21 N (by omega))]) (s := []) tys_ok eqts_ok follows Proofs.Try.func135 (c := Proofs.Try.f135.body.get rfl) rfl (by decide) (by kernel_rfl) (H := H135) (N := N) (shp := sh135)
      ((ev135 (by omega) rfl rfl rfl (fun _ _ => rfl) x.1 x.2).trans h) (ar135.da x)
theorem k83 : ∀ (N : Nat), N ≤ 4611686018427387904 → TOk Proofs.Try.prog 83 (t83 N)
  | 0, _ => TL_ok ar83.wk fun x v h => by have h : none = some v := h; cases h
  | N + 1, hN => TL_ok ar83.wk fun x v h =>
    pure_ofT (l := [TE.plain 83 (t83 N) (k83 N (by omega))]) (s := []) tys_ok eqts_ok follows Proofs.Try.func83 (c := Proofs.Try.f83.body.get rfl) rfl (by decide) (by kernel_rfl) (H := H83) (N := N) (shp := sh83)
      ((ev83 (by omega) (F83 N) rfl rfl rfl (fun _ _ => rfl) x).trans h) (ar83.da x)
theorem k90 (N : Nat) (hN : N ≤ 4611686018427387904) : TOk Proofs.Try.prog 90 (t90 N) := TL_ok ar90.wk fun x v h =>
    pure_ofT (l := [TE.given 131 (t131 N) (k131 N (by omega)), TE.plain 133 (t133) k133, TE.plain 132 (t132) k132, TE.plain 134 (t134) k134, TE.plain 135 (t135 N) (k135 N (by omega)), TE.plain 83 (t83 N) (k83 N (by omega))]) (s := []) tys_ok eqts_ok follows Proofs.Try.func90 (c := Proofs.Try.f90.body.get rfl) rfl (by decide) (by kernel_rfl) (H := H90) (N := N) (shp := sh90)
      ((ev90 (by omega) rfl rfl rfl (fun _ _ => rfl) (fun _ _ => rfl) (fun _ _ => rfl) (fun _ _ => rfl) (fun _ _ => rfl) (fun _ _ => rfl) x.1 x.2).trans h) (ar90.da x)
theorem k34 (N : Nat) (hN : N ≤ 4611686018427387904) : TOk Proofs.Try.prog 34 (t34 N) := TL_ok ar34.wk fun x v h =>
    pure_ofT (l := [TE.plain 89 (t89 N) (k89 N (by omega)), TE.plain 90 (t90 N) (k90 N (by omega))]) (s := []) tys_ok eqts_ok follows Proofs.Try.func34 (c := Proofs.Try.f34.body.get rfl) rfl (by decide) (by kernel_rfl) (H := H34) (N := N) (shp := sh34)
      ((ev34 (by omega) rfl rfl rfl (fun _ _ => rfl) (fun _ _ => rfl) x.1 x.2.1 x.2.2.1 x.2.2.2).trans h) (ar34.da x)
theorem k35 (N : Nat) (hN : N ≤ 4611686018427387904) : TOk Proofs.Try.prog 35 (t35 N) := TL_ok ar35.wk fun x v h =>
    pure_ofT (l := [TE.plain 21 (t21 N) (k21 N (by omega))]) (s := []) tys_ok eqts_ok follows Proofs.Try.func35 (c := Proofs.Try.f35.body.get rfl) rfl (by decide) (by kernel_rfl) (H := H35) (N := N) (shp := sh35)
      ((ev35 (by omega) rfl rfl rfl (fun _ _ => rfl) x.1 x.2).trans h) (ar35.da x)
theorem k7 (N : Nat) (hN : N ≤ 4611686018427387904) : TOk Proofs.Try.prog 7 (t7 N) := TL_ok ar7.wk fun x v h =>
    pure_ofT (l := [TE.plain 26 (t26 N) (k26 N (by omega)), TE.plain 32 (t32 N) (k32 N (by omega)), TE.plain 33 (t33 N) (k33 N (by omega)), TE.plain 34 (t34 N) (k34 N (by omega)), TE.plain 35 (t35 N) (k35 N (by omega))]) (s := []) tys_ok eqts_ok follows Proofs.Try.func7 (c := Proofs.Try.f7.body.get rfl) rfl (by decide) (by kernel_rfl) (H := H7) (N := N) (shp := sh7)
      ((ev7 (by omega) rfl rfl rfl (fun _ _ => rfl) (fun _ _ => rfl) (fun _ _ => rfl) (fun _ _ => rfl) (fun _ _ => rfl) x.1 x.2.1 x.2.2.1 x.2.2.2).trans h) (ar7.da x)
end Go.Abs.Try
