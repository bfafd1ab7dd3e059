import Derived.Test.YtjjajifecniidaaQV0
import Derived.Test.YtjjajifecniidaaQV1
import Derived.Test.YtjjajifecniidaaQV2
import Derived.Test.YtjjajifecniidaaQV3
import Derived.Test.YtjjajifecniidaaQV4
import Derived.Test.YtjjajifecniidaaQV5
import Derived.Test.YtjjajifecniidaaQV6
import Derived.Test.YtjjajifecniidaaQV7
import Derived.Test.YtjjajifecniidaaQV8
import Derived.Test.YtjjajifecniidaaQV9
import Derived.Test.YtjjajifecniidaaQV10
import Derived.Test.YtjjajifecniidaaQV11
import Derived.Test.YtjjajifecniidaaQV12
import Derived.Test.YtjjajifecniidaaQV13
import Derived.Test.YtjjajifecniidaaQCmp
import Derived.Test.YtjjajifecniidaaQAdd
namespace Go.Abs.Try
open Go.RowKit
set_option linter.unusedSimpArgs false
set_option linter.unusedVariables false
set_option maxRecDepth 100000
set_option maxHeartbeats 4000000
theorem k84 : TOk Proofs.Try.prog 84 t84 := TL_ok w84 fun x v h =>
    pure_ofT (l := []) (s := []) tys_ok eqts_ok follows Proofs.Try.func84 (c := Proofs.Try.f84.body.get rfl) rfl (by decide) (by kernel_rfl) (H := H84) (N := 0) (shp := sh84)
      ((ev84 (by omega) rfl rfl rfl  x.1 x.2.1 x.2.2).trans h) (d84 x)
theorem k37 : TOk Proofs.Try.prog 37 t37 := TL_ok w37 fun x v h =>
    pure_ofT (l := [TE.plain 91 (t91) k91]) (s := [se136]) tys_ok eqts_ok follows Proofs.Try.func37 (c := Proofs.Try.f37.body.get rfl) rfl (by decide) (by kernel_rfl) (H := H37) (N := 0) (shp := sh37)
      ((ev37 (by omega) rfl rfl rfl (fun _ _ => rfl) (fun _ => rfl) x).trans h) (d37 x)
theorem k38 : ∀ (N : Nat), N ≤ 4611686018427387904 → TOk Proofs.Try.prog 38 (t38 N)
  | 0, _ => TL_ok w38 fun x v h => by have h : none = some v := h; cases h
  | N + 1, hN => TL_ok w38 fun x v h =>
    pure_ofT (l := [TE.plain 38 (t38 N) (k38 N (by omega))]) (s := []) tys_ok eqts_ok follows Proofs.Try.func38 (c := Proofs.Try.f38.body.get rfl) rfl (by decide) (by kernel_rfl) (H := H38) (N := N) (shp := sh38)
      ((ev38 (by omega) (F38 N) rfl rfl rfl (fun _ _ => rfl) x).trans h) (d38 x)
theorem k70 (N : Nat) (hN : N ≤ 4611686018427387904) : TOk Proofs.Try.prog 70 (t70 N) := TL_ok w70 fun x v h =>
    pure_ofT (l := [TE.plain 37 (t37) k37, TE.plain 38 (t38 N) (k38 N (by omega))]) (s := []) tys_ok eqts_ok follows Proofs.Try.func70 (c := Proofs.Try.f70.body.get rfl) rfl (by decide) (by kernel_rfl) (H := H70) (N := N) (shp := sh70)
      ((ev70 (by omega) rfl rfl rfl (fun _ _ => rfl) (fun _ _ => rfl) x).trans h) (d70 x)
theorem k73 : TOk Proofs.Try.prog 73 t73 := TL_ok w73 fun x v h =>
    pure_ofT (l := []) (s := []) tys_ok eqts_ok follows Proofs.Try.func73 (c := Proofs.Try.f73.body.get rfl) rfl (by decide) (by kernel_rfl) (H := H73) (N := 0) (shp := sh73)
      ((ev73 (by omega) rfl rfl rfl  x).trans h) (d73 x)
theorem k74 : TOk Proofs.Try.prog 74 t74 := TL_ok w74 fun x v h =>
    pure_ofT (l := []) (s := []) tys_ok eqts_ok follows Proofs.Try.func74 (c := Proofs.Try.f74.body.get rfl) rfl (by decide) (by kernel_rfl) (H := H74) (N := 0) (shp := sh74)
      ((ev74 (by omega) rfl rfl rfl  x).trans h) (d74 x)
theorem k16 (N : Nat) (hN : N ≤ 4611686018427387904) : TOk Proofs.Try.prog 16 (t16 N) := TL_ok w16 fun x v h =>
    pure_ofT (l := [TE.plain 73 (t73) k73, TE.plain 74 (t74) k74]) (s := []) tys_ok eqts_ok follows Proofs.Try.func16 (c := Proofs.Try.f16.body.get rfl) rfl (by decide) (by kernel_rfl) (H := H16) (N := N) (shp := sh16)
      ((ev16 (by omega) rfl rfl rfl (fun _ _ => rfl) (fun _ _ => rfl) x).trans h) (d16 x)
theorem k116 (N : Nat) (hN : N ≤ 4611686018427387904) : TOk Proofs.Try.prog 116 (t116 N) := TL_ok w116 fun x v h =>
    pure_ofT (l := [TE.plain 16 (t16 N) (k16 N (by omega))]) (s := []) tys_ok eqts_ok follows Proofs.Try.func116 (c := Proofs.Try.f116.body.get rfl) rfl (by decide) (by kernel_rfl) (H := H116) (N := N) (shp := sh116)
      ((ev116 (by omega) rfl rfl rfl (fun _ _ => rfl) x).trans h) (d116 x)
theorem k36 (N : Nat) (hN : N ≤ 4611686018427387904) : TOk Proofs.Try.prog 36 (t36 N) := TL_ok w36 fun x v h =>
    pure_ofT (l := []) (s := []) tys_ok eqts_ok follows Proofs.Try.func36 (c := Proofs.Try.f36.body.get rfl) rfl (by decide) (by kernel_rfl) (H := H36) (N := N) (shp := sh36)
      ((ev36 (by omega) rfl rfl rfl  x).trans h) (d36 x)
theorem k153 : TOk Proofs.Try.prog 153 t153 := TL_ok w153 fun x v h =>
    pure_ofT (l := []) (s := []) tys_ok eqts_ok follows Proofs.Try.func153 (c := Proofs.Try.f153.body.get rfl) rfl (by decide) (by kernel_rfl) (H := H153) (N := 0) (shp := sh153)
      ((ev153 (by omega) rfl rfl rfl  x).trans h) (d153 x)
theorem k154 (N : Nat) (hN : N ≤ 4611686018427387904) : TOk Proofs.Try.prog 154 (t154 N) := TL_ok w154 fun x v h =>
    pure_ofT (l := []) (s := []) tys_ok eqts_ok follows Proofs.Try.func154 (c := Proofs.Try.f154.body.get rfl) rfl (by decide) (by kernel_rfl) (H := H154) (N := N) (shp := sh154)
      ((ev154 (by omega) rfl rfl rfl  x.1 x.2).trans h) (d154 x)
theorem k117 (N : Nat) (hN : N ≤ 4611686018427387904) : TOk Proofs.Try.prog 117 (t117 N) := TL_ok w117 fun x v h =>
    pure_ofT (l := [TE.plain 36 (t36 N) (k36 N (by omega)), TE.plain 153 (t153) k153, TE.lent 154 (t154 N) (k154 N (by omega)), TE.inl tys eqts [] [] tys_ok eqts_ok follows 155 Proofs.Try.f155 Proofs.Try.func155 (c := Proofs.Try.f155.body.get rfl) rfl (by decide) (by kernel_rfl) H155 N]) (s := []) tys_ok eqts_ok follows Proofs.Try.func117 (c := Proofs.Try.f117.body.get rfl) rfl (by decide) (by kernel_rfl) (H := H117) (N := N) (shp := sh117)
      ((ev117 (E155 := fun n0 => mkT Proofs.Try.prog n0 tys eqts [] []) (by omega) rfl rfl rfl (fun _ _ => rfl) (fun _ _ => rfl) (fun _ _ => rfl) (fun _ _ => rfl) (fun _ => rfl) (fun _ => rfl) (fun _ => rfl) x).trans h) (d117 x)
theorem k71 (N : Nat) (hN : N ≤ 4611686018427387904) : TOk Proofs.Try.prog 71 (t71 N) := TL_ok w71 fun x v h =>
    pure_ofT (l := [TE.plain 91 (t91) k91, TE.plain 116 (t116 N) (k116 N (by omega)), TE.plain 117 (t117 N) (k117 N (by omega))]) (s := [se136]) tys_ok eqts_ok follows Proofs.Try.func71 (c := Proofs.Try.f71.body.get rfl) rfl (by decide) (by kernel_rfl) (H := H71) (N := N) (shp := sh71)
      ((ev71 (by omega) rfl rfl rfl (fun _ _ => rfl) (fun _ _ => rfl) (fun _ _ => rfl) (fun _ => rfl) x).trans h) (d71 x)
theorem k40 : TOk Proofs.Try.prog 40 t40 := TL_ok w40 fun x v h =>
    pure_ofT (l := [TE.plain 91 (t91) k91]) (s := [se136]) tys_ok eqts_ok follows Proofs.Try.func40 (c := Proofs.Try.f40.body.get rfl) rfl (by decide) (by kernel_rfl) (H := H40) (N := 0) (shp := sh40)
      ((ev40 (by omega) rfl rfl rfl (fun _ _ => rfl) (fun _ => rfl) x).trans h) (d40 x)
theorem k14 (N : Nat) (hN : N ≤ 4611686018427387904) : TOk Proofs.Try.prog 14 (t14 N) := TL_ok w14 fun x v h =>
    pure_ofT (l := [TE.plain 70 (t70 N) (k70 N (by omega)), TE.plain 71 (t71 N) (k71 N (by omega)), TE.plain 40 (t40) k40, TE.plain 36 (t36 N) (k36 N (by omega))]) (s := []) tys_ok eqts_ok follows Proofs.Try.func14 (c := Proofs.Try.f14.body.get rfl) rfl (by decide) (by kernel_rfl) (H := H14) (N := N) (shp := sh14)
      ((ev14 (by omega) rfl rfl rfl (fun _ _ => rfl) (fun _ _ => rfl) (fun _ _ => rfl) (fun _ _ => rfl) x.1 x.2).trans h) (d14 x)
theorem k112 : TOk Proofs.Try.prog 112 t112 := TL_ok w112 fun x v h =>
    pure_ofT (l := []) (s := []) tys_ok eqts_ok follows Proofs.Try.func112 (c := Proofs.Try.f112.body.get rfl) rfl (by decide) (by kernel_rfl) (H := H112) (N := 0) (shp := sh112)
      ((ev112 (by omega) rfl rfl rfl  x).trans h) (d112 x)
theorem k161 : TOk Proofs.Try.prog 161 t161 := TL_ok w161 fun x v h =>
    pure_ofT (l := []) (s := []) tys_ok eqts_ok follows Proofs.Try.func161 (c := Proofs.Try.f161.body.get rfl) rfl (by decide) (by kernel_rfl) (H := H161) (N := 0) (shp := sh161)
      ((ev161 (by omega) rfl rfl rfl  x.1 x.2).trans h) (d161 x)
theorem k128 : TOk Proofs.Try.prog 128 t128 := TL_ok w128 fun x v h =>
    pure_ofT (l := [TE.plain 161 (t161) k161, TE.plain 162 (t162) k162]) (s := []) tys_ok eqts_ok follows Proofs.Try.func128 (c := Proofs.Try.f128.body.get rfl) rfl (by decide) (by kernel_rfl) (H := H128) (N := 0) (shp := sh128)
      ((ev128 (by omega) rfl rfl rfl (fun _ _ => rfl) (fun _ _ => rfl) x.1 x.2.1 x.2.2).trans h) (d128 x)
theorem k129 : TOk Proofs.Try.prog 129 t129 := TL_ok w129 fun x v h =>
    pure_ofT (l := [TE.plain 112 (t112) k112]) (s := []) tys_ok eqts_ok follows Proofs.Try.func129 (c := Proofs.Try.f129.body.get rfl) rfl (by decide) (by kernel_rfl) (H := H129) (N := 0) (shp := sh129)
      ((ev129 (by omega) rfl rfl rfl (fun _ _ => rfl) x).trans h) (d129 x)
theorem k78 : TOk Proofs.Try.prog 78 t78 := TL_ok w78 fun x v h =>
    pure_ofT (l := []) (s := []) tys_ok eqts_ok follows Proofs.Try.func78 (c := Proofs.Try.f78.body.get rfl) rfl (by decide) (by kernel_rfl) (H := H78) (N := 0) (shp := sh78)
      ((ev78 (by omega) rfl rfl rfl  x.1 x.2).trans h) (d78 x)
theorem k80 : TOk Proofs.Try.prog 80 t80 := TL_ok w80 fun x v h =>
    pure_ofT (l := []) (s := []) tys_ok eqts_ok follows Proofs.Try.func80 (c := Proofs.Try.f80.body.get rfl) rfl (by decide) (by kernel_rfl) (H := H80) (N := 0) (shp := sh80)
      ((ev80 (by omega) rfl rfl rfl  x.1 x.2).trans h) (d80 x)
theorem k18 : ∀ (N : Nat), N ≤ 4611686018427387904 → TOk Proofs.Try.prog 18 (t18 N)
  | 0, _ => TL_ok w18 fun x v h => by have h : none = some v := h; cases h
  | N + 1, hN => TL_ok w18 fun x v h =>
    pure_ofT (l := [TE.plain 78 (t78) k78, TE.plain 79 (t79) k79, TE.plain 80 (t80) k80, TE.plain 18 (t18 N) (k18 N (by omega))]) (s := []) tys_ok eqts_ok follows Proofs.Try.func18 (c := Proofs.Try.f18.body.get rfl) rfl (by decide) (by kernel_rfl) (H := H18) (N := N) (shp := sh18)
      ((ev18 (by omega) (F18 N) rfl rfl rfl (fun _ _ => rfl) (fun _ _ => rfl) (fun _ _ => rfl) (fun _ _ => rfl) x.1 x.2).trans h) (d18 x)
theorem k88 (N : Nat) (hN : N ≤ 4611686018427387904) : TOk Proofs.Try.prog 88 (t88 N) := TL_ok w88 fun x v h =>
    pure_ofT (l := [TE.plain 128 (t128) k128, TE.plain 129 (t129) k129, TE.plain 18 (t18 N) (k18 N (by omega))]) (s := []) tys_ok eqts_ok follows Proofs.Try.func88 (c := Proofs.Try.f88.body.get rfl) rfl (by decide) (by kernel_rfl) (H := H88) (N := N) (shp := sh88)
      ((ev88 (by omega) rfl rfl rfl (fun _ _ => rfl) (fun _ _ => rfl) (fun _ _ => rfl) x.1 x.2.1 x.2.2.1 x.2.2.2).trans h) (d88 x)
theorem k85 : ∀ (N : Nat), N ≤ 4611686018427387904 → TOk Proofs.Try.prog 85 (t85 N)
  | 0, _ => TL_ok w85 fun x v h => by have h : none = some v := h; cases h
  | N + 1, hN => TL_ok w85 fun x v h =>
    pure_ofT (l := [TE.plain 112 (t112) k112, TE.inl tys eqts [TE.plain 85 (t85 N) (k85 N (by omega)), TE.plain 88 (t88 N) (k88 N (by omega))] [] tys_ok eqts_ok follows 124 Proofs.Try.f124 Proofs.Try.func124 (c := Proofs.Try.f124.body.get rfl) rfl (by decide) (by kernel_rfl) H124 N, TE.plain 85 (t85 N) (k85 N (by omega)), TE.plain 88 (t88 N) (k88 N (by omega))]) (s := []) tys_ok eqts_ok follows Proofs.Try.func85 (c := Proofs.Try.f85.body.get rfl) rfl (by decide) (by kernel_rfl) (H := H85) (N := N) (shp := sh85)
      ((ev85 (E124 := fun n0 => mkT Proofs.Try.prog n0 tys eqts [TE.plain 85 (t85 N) (k85 N (by omega)), TE.plain 88 (t88 N) (k88 N (by omega))] []) (by omega) (F85 N) rfl rfl rfl (fun _ _ => rfl) (fun _ _ => rfl) (fun _ _ => rfl) (fun _ _ => rfl) (fun _ => rfl) (fun _ => rfl) (fun _ => rfl) (fun _ _ _ => rfl) (fun _ _ _ => rfl) x).trans h) (d85 x)
theorem k82 : ∀ (N : Nat), N ≤ 4611686018427387904 → TOk Proofs.Try.prog 82 (t82 N)
  | 0, _ => TL_ok w82 fun x v h => by have h : none = some v := h; cases h
  | N + 1, hN => TL_ok w82 fun x v h =>
    pure_ofT (l := [te123, TE.plain 82 (t82 N) (k82 N (by omega))]) (s := []) tys_ok eqts_ok follows Proofs.Try.func82 (c := Proofs.Try.f82.body.get rfl) rfl (by decide) (by kernel_rfl) (H := H82) (N := N) (shp := sh82)
      ((ev82 (by omega) (F82 N) rfl rfl rfl (fun _ _ => rfl) (fun _ _ => rfl) x).trans h) (d82 x)
theorem k22 : ∀ (N : Nat), N ≤ 4611686018427387904 → TOk Proofs.Try.prog 22 (t22 N)
  | 0, _ => TL_ok w22 fun x v h => by have h : none = some v := h; cases h
  | N + 1, hN => TL_ok w22 fun x v h =>
    pure_ofT (l := [TE.plain 82 (t82 N) (k82 N (by omega)), TE.plain 22 (t22 N) (k22 N (by omega))]) (s := []) tys_ok eqts_ok follows Proofs.Try.func22 (c := Proofs.Try.f22.body.get rfl) rfl (by decide) (by kernel_rfl) (H := H22) (N := N) (shp := sh22)
      ((ev22 (by omega) (F22 N) rfl rfl rfl (fun _ _ => rfl) (fun _ _ => rfl) x.1 x.2.1 x.2.2).trans h) (d22 x)
theorem k24 (N : Nat) (hN : N ≤ 4611686018427387904) : TOk Proofs.Try.prog 24 (t24 N) := TL_ok w24 fun x v h =>
    pure_ofT (l := [TE.plain 22 (t22 N) (k22 N (by omega))]) (s := []) tys_ok eqts_ok follows Proofs.Try.func24 (c := Proofs.Try.f24.body.get rfl) rfl (by decide) (by kernel_rfl) (H := H24) (N := N) (shp := sh24)
      ((ev24 (by omega) rfl rfl rfl (fun _ _ => rfl) x.1 x.2.1 x.2.2).trans h) (d24 x)
theorem k86 (N : Nat) (hN : N ≤ 4611686018427387904) : TOk Proofs.Try.prog 86 (t86 N) := TL_ok w86 fun x v h =>
    pure_ofT (l := [te125, TE.plain 24 (t24 N) (k24 N (by omega))]) (s := []) tys_ok eqts_ok follows Proofs.Try.func86 (c := Proofs.Try.f86.body.get rfl) rfl (by decide) (by kernel_rfl) (H := H86) (N := N) (shp := sh86)
      ((ev86 (by omega) rfl rfl rfl (fun _ _ => rfl) (fun _ _ => rfl) x).trans h) (d86 x)
theorem k29 (N : Nat) (hN : N ≤ 4611686018427387904) : TOk Proofs.Try.prog 29 (t29 N) := TL_ok w29 fun x v h =>
    pure_ofT (l := [TE.plain 14 (t14 N) (k14 N (by omega)), TE.plain 36 (t36 N) (k36 N (by omega)), TE.plain 85 (t85 N) (k85 N (by omega)), TE.plain 86 (t86 N) (k86 N (by omega))]) (s := []) tys_ok eqts_ok follows Proofs.Try.func29 (c := Proofs.Try.f29.body.get rfl) rfl (by decide) (by kernel_rfl) (H := H29) (N := N) (shp := sh29)
      ((ev29 (by omega) rfl rfl rfl (fun _ _ => rfl) (fun _ _ => rfl) (fun _ _ => rfl) (fun _ _ => rfl) x).trans h) (d29 x)
theorem k26 (N : Nat) (hN : N ≤ 4611686018427387904) : TOk Proofs.Try.prog 26 (t26 N) := TL_ok w26 fun x v h =>
    pure_ofT (l := [TE.plain 84 (t84) k84, TE.plain 29 (t29 N) (k29 N (by omega))]) (s := []) tys_ok eqts_ok follows Proofs.Try.func26 (c := Proofs.Try.f26.body.get rfl) rfl (by decide) (by kernel_rfl) (H := H26) (N := N) (shp := sh26)
      ((ev26 (by omega) rfl rfl rfl (fun _ _ => rfl) (fun _ _ => rfl) ).trans h) (d26 x)
theorem k27 : ∀ (N : Nat), N ≤ 4611686018427387904 → TOk Proofs.Try.prog 27 (t27 N)
  | 0, _ => TL_ok w27 fun x v h => by have h : none = some v := h; cases h
  | N + 1, hN => TL_ok w27 fun x v h =>
    pure_ofT (l := [TE.plain 27 (t27 N) (k27 N (by omega))]) (s := []) tys_ok eqts_ok follows Proofs.Try.func27 (c := Proofs.Try.f27.body.get rfl) rfl (by decide) (by kernel_rfl) (H := H27) (N := N) (shp := sh27)
      ((ev27 (by omega) (F27 N) rfl rfl rfl (fun _ _ => rfl) x).trans h) (d27 x)
theorem k32 (N : Nat) (hN : N ≤ 4611686018427387904) : TOk Proofs.Try.prog 32 (t32 N) := TL_ok w32 fun x v h =>
    pure_ofT (l := [TE.plain 27 (t27 N) (k27 N (by omega))]) (s := []) tys_ok eqts_ok follows Proofs.Try.func32 (c := Proofs.Try.f32.body.get rfl) rfl (by decide) (by kernel_rfl) (H := H32) (N := N) (shp := sh32)
      ((ev32 (by omega) rfl rfl rfl (fun _ _ => rfl) x).trans h) (d32 x)
theorem k62 (N : Nat) (hN : N ≤ 4611686018427387904) : TOk Proofs.Try.prog 62 (t62 N) := TL_ok w62 fun x v h =>
    pure_ofT (l := [TE.plain 14 (t14 N) (k14 N (by omega)), TE.plain 36 (t36 N) (k36 N (by omega))]) (s := []) tys_ok eqts_ok follows Proofs.Try.func62 (c := Proofs.Try.f62.body.get rfl) rfl (by decide) (by kernel_rfl) (H := H62) (N := N) (shp := sh62)
      ((ev62 (by omega) rfl rfl rfl (fun _ _ => rfl) (fun _ _ => rfl) x).trans h) (d62 x)
theorem k64 (N : Nat) (hN : N ≤ 4611686018427387904) : TOk Proofs.Try.prog 64 (t64 N) := TL_ok w64 fun x v h =>
    pure_ofT (l := [TE.plain 112 (t112) k112, TE.plain 62 (t62 N) (k62 N (by omega)), TE.plain 18 (t18 N) (k18 N (by omega))]) (s := []) tys_ok eqts_ok follows Proofs.Try.func64 (c := Proofs.Try.f64.body.get rfl) rfl (by decide) (by kernel_rfl) (H := H64) (N := N) (shp := sh64)
      ((ev64 (by omega) rfl rfl rfl (fun _ _ => rfl) (fun _ _ => rfl) (fun _ _ => rfl) x).trans h) (d64 x)
theorem k107 (N : Nat) (hN : N ≤ 4611686018427387904) : TOk Proofs.Try.prog 107 (t107 N) := TL_ok w107 fun x v h =>
    pure_ofT (l := [TE.plain 64 (t64 N) (k64 N (by omega))]) (s := []) tys_ok eqts_ok follows Proofs.Try.func107 (c := Proofs.Try.f107.body.get rfl) rfl (by decide) (by kernel_rfl) (H := H107) (N := N) (shp := sh107)
      ((ev107 (by omega) rfl rfl rfl (fun _ _ => rfl) x).trans h) (d107 x)
theorem k148 (N : Nat) (hN : N ≤ 4611686018427387904) : TOk Proofs.Try.prog 148 (t148 N) := TL_ok w148 fun x v h =>
    pure_ofT (l := []) (s := []) tys_ok eqts_ok follows Proofs.Try.func148 (c := Proofs.Try.f148.body.get rfl) rfl (by decide) (by kernel_rfl) (H := H148) (N := N) (shp := sh148)
      ((ev148 (by omega) rfl rfl rfl  x).trans h) (d148 x)
theorem k149 : TOk Proofs.Try.prog 149 t149 := TL_ok w149 fun x v h =>
    pure_ofT (l := []) (s := []) tys_ok eqts_ok follows Proofs.Try.func149 (c := Proofs.Try.f149.body.get rfl) rfl (by decide) (by kernel_rfl) (H := H149) (N := 0) (shp := sh149)
      ((ev149 (by omega) rfl rfl rfl  x.1 x.2).trans h) (d149 x)
theorem k108 (N : Nat) (hN : N ≤ 4611686018427387904) : TOk Proofs.Try.prog 108 (t108 N) := TL_ok w108 fun x v h =>
    pure_ofT (l := [TE.plain 148 (t148 N) (k148 N (by omega)), TE.plain 149 (t149) k149]) (s := []) tys_ok eqts_ok follows Proofs.Try.func108 (c := Proofs.Try.f108.body.get rfl) rfl (by decide) (by kernel_rfl) (H := H108) (N := N) (shp := sh108)
      ((ev108 (by omega) rfl rfl rfl (fun _ _ => rfl) (fun _ _ => rfl) x).trans h) (d108 x)
theorem k56 (N : Nat) (hN : N ≤ 4611686018427387904) : TOk Proofs.Try.prog 56 (t56 N) := TL_ok w56 fun x v h =>
    pure_ofT (l := [TE.plain 107 (t107 N) (k107 N (by omega)), TE.plain 108 (t108 N) (k108 N (by omega)), TE.plain 86 (t86 N) (k86 N (by omega))]) (s := []) tys_ok eqts_ok follows Proofs.Try.func56 (c := Proofs.Try.f56.body.get rfl) rfl (by decide) (by kernel_rfl) (H := H56) (N := N) (shp := sh56)
      ((ev56 (by omega) rfl rfl rfl (fun _ _ => rfl) (fun _ _ => rfl) (fun _ _ => rfl) x).trans h) (d56 x)
theorem k130 : TOk Proofs.Try.prog 130 t130 := TL_ok w130 fun x v h =>
    pure_ofT (l := []) (s := []) tys_ok eqts_ok follows Proofs.Try.func130 (c := Proofs.Try.f130.body.get rfl) rfl (by decide) (by kernel_rfl) (H := H130) (N := 0) (shp := sh130)
      ((ev130 (by omega) rfl rfl rfl  x).trans h) (d130 x)
theorem k28 : ∀ (N : Nat), N ≤ 4611686018427387904 → TOk Proofs.Try.prog 28 (t28 N)
  | 0, _ => TL_ok w28 fun x v h => by have h : none = some v := h; cases h
  | N + 1, hN => TL_ok w28 fun x v h =>
    pure_ofT (l := [TE.plain 28 (t28 N) (k28 N (by omega))]) (s := []) tys_ok eqts_ok follows Proofs.Try.func28 (c := Proofs.Try.f28.body.get rfl) rfl (by decide) (by kernel_rfl) (H := H28) (N := N) (shp := sh28)
      ((ev28 (by omega) (F28 N) rfl rfl rfl (fun _ _ => rfl) x).trans h) (d28 x)
theorem k39 : ∀ (N : Nat), N ≤ 4611686018427387904 → TOk Proofs.Try.prog 39 (t39 N)
  | 0, _ => TL_ok w39 fun x v h => by have h : none = some v := h; cases h
  | N + 1, hN => TL_ok w39 fun x v h =>
    pure_ofT (l := [TE.plain 39 (t39 N) (k39 N (by omega))]) (s := []) tys_ok eqts_ok follows Proofs.Try.func39 (c := Proofs.Try.f39.body.get rfl) rfl (by decide) (by kernel_rfl) (H := H39) (N := N) (shp := sh39)
      ((ev39 (by omega) (F39 N) rfl rfl rfl (fun _ _ => rfl) x).trans h) (d39 x)
theorem k75 : TOk Proofs.Try.prog 75 t75 := TL_ok w75 fun x v h =>
    pure_ofT (l := []) (s := []) tys_ok eqts_ok follows Proofs.Try.func75 (c := Proofs.Try.f75.body.get rfl) rfl (by decide) (by kernel_rfl) (H := H75) (N := 0) (shp := sh75)
      ((ev75 (by omega) rfl rfl rfl  x).trans h) (d75 x)
theorem k121 : TOk Proofs.Try.prog 121 t121 := TL_ok w121 fun x v h =>
    pure_ofT (l := []) (s := []) tys_ok eqts_ok follows Proofs.Try.func121 (c := Proofs.Try.f121.body.get rfl) rfl (by decide) (by kernel_rfl) (H := H121) (N := 0) (shp := sh121)
      ((ev121 (by omega) rfl rfl rfl  ).trans h) (d121 x)
theorem k76 (N : Nat) (hN : N ≤ 4611686018427387904) : TOk Proofs.Try.prog 76 (t76 N) := TL_ok w76 fun x v h =>
    pure_ofT (l := [TE.plain 121 (t121) k121]) (s := []) tys_ok eqts_ok follows Proofs.Try.func76 (c := Proofs.Try.f76.body.get rfl) rfl (by decide) (by kernel_rfl) (H := H76) (N := N) (shp := sh76)
      ((ev76 (by omega) rfl rfl rfl (fun _ _ => rfl) x).trans h) (d76 x)
theorem k77 : TOk Proofs.Try.prog 77 t77 := TL_ok w77 fun x v h =>
    pure_ofT (l := []) (s := []) tys_ok eqts_ok follows Proofs.Try.func77 (c := Proofs.Try.f77.body.get rfl) rfl (by decide) (by kernel_rfl) (H := H77) (N := 0) (shp := sh77)
      ((ev77 (by omega) rfl rfl rfl  x).trans h) (d77 x)
theorem k17 (N : Nat) (hN : N ≤ 4611686018427387904) : TOk Proofs.Try.prog 17 (t17 N) := TL_ok w17 fun x v h =>
    pure_ofT (l := [TE.plain 75 (t75) k75, TE.plain 76 (t76 N) (k76 N (by omega)), TE.plain 77 (t77) k77]) (s := []) tys_ok eqts_ok follows Proofs.Try.func17 (c := Proofs.Try.f17.body.get rfl) rfl (by decide) (by kernel_rfl) (H := H17) (N := N) (shp := sh17)
      ((ev17 (by omega) rfl rfl rfl (fun _ _ => rfl) (fun _ _ => rfl) (fun _ _ => rfl) x).trans h) (d17 x)
theorem k118 (N : Nat) (hN : N ≤ 4611686018427387904) : TOk Proofs.Try.prog 118 (t118 N) := TL_ok w118 fun x v h =>
    pure_ofT (l := [TE.plain 17 (t17 N) (k17 N (by omega))]) (s := []) tys_ok eqts_ok follows Proofs.Try.func118 (c := Proofs.Try.f118.body.get rfl) rfl (by decide) (by kernel_rfl) (H := H118) (N := N) (shp := sh118)
      ((ev118 (by omega) rfl rfl rfl (fun _ _ => rfl) x).trans h) (d118 x)
theorem k119 : TOk Proofs.Try.prog 119 t119 := TL_ok w119 fun x v h =>
    pure_ofT (l := []) (s := []) tys_ok eqts_ok follows Proofs.Try.func119 (c := Proofs.Try.f119.body.get rfl) rfl (by decide) (by kernel_rfl) (H := H119) (N := 0) (shp := sh119)
      ((ev119 (by omega) rfl rfl rfl  x).trans h) (d119 x)
theorem k120 : TOk Proofs.Try.prog 120 t120 := TL_ok w120 fun x v h =>
    pure_ofT (l := []) (s := []) tys_ok eqts_ok follows Proofs.Try.func120 (c := Proofs.Try.f120.body.get rfl) rfl (by decide) (by kernel_rfl) (H := H120) (N := 0) (shp := sh120)
      ((ev120 (by omega) rfl rfl rfl  x).trans h) (d120 x)
theorem k72 : ∀ (N : Nat), N ≤ 4611686018427387904 → TOk Proofs.Try.prog 72 (t72 N)
  | 0, _ => TL_ok w72 fun x v h => by have h : none = some v := h; cases h
  | N + 1, hN => TL_ok w72 fun x v h =>
    pure_ofT (l := [TE.plain 118 (t118 N) (k118 N (by omega)), TE.plain 72 (t72 N) (k72 N (by omega)), TE.plain 28 (t28 N) (k28 N (by omega)), TE.plain 119 (t119) k119, TE.plain 120 (t120) k120]) (s := []) tys_ok eqts_ok follows Proofs.Try.func72 (c := Proofs.Try.f72.body.get rfl) rfl (by decide) (by kernel_rfl) (H := H72) (N := N) (shp := sh72)
      ((ev72 (by omega) (F72 N) rfl rfl rfl (fun _ _ => rfl) (fun _ _ => rfl) (fun _ _ => rfl) (fun _ _ => rfl) (fun _ _ => rfl) x).trans h) (d72 x)
theorem k168 : TOk Proofs.Try.prog 168 t168 := TL_ok w168 fun x v h =>
    pure_ofT (l := []) (s := []) tys_ok eqts_ok follows Proofs.Try.func168 (c := Proofs.Try.f168.body.get rfl) rfl (by decide) (by kernel_rfl) (H := H168) (N := 0) (shp := sh168)
      ((ev168 (by omega) rfl rfl rfl  x.1 x.2).trans h) (d168 x)
theorem k140 (N : Nat) (hN : N ≤ 4611686018427387904) : TOk Proofs.Try.prog 140 (t140 N) := TL_ok w140 fun x v h =>
    pure_ofT (l := [TE.plain 168 (t168) k168]) (s := []) tys_ok eqts_ok follows Proofs.Try.func140 (c := Proofs.Try.f140.body.get rfl) rfl (by decide) (by kernel_rfl) (H := H140) (N := N) (shp := sh140)
      ((ev140 (by omega) rfl rfl rfl (fun _ _ => rfl) x.1 x.2).trans h) (d140 x)
theorem k95 : ∀ (N : Nat), N ≤ 4611686018427387904 → TOk Proofs.Try.prog 95 (t95 N)
  | 0, _ => TL_ok w95 fun x v h => by have h : none = some v := h; cases h
  | N + 1, hN => TL_ok w95 fun x v h =>
    pure_ofT (l := [TE.plain 140 (t140 N) (k140 N (by omega)), TE.plain 95 (t95 N) (k95 N (by omega))]) (s := []) tys_ok eqts_ok follows Proofs.Try.func95 (c := Proofs.Try.f95.body.get rfl) rfl (by decide) (by kernel_rfl) (H := H95) (N := N) (shp := sh95)
      ((ev95 (by omega) (F95 N) rfl rfl rfl (fun _ _ => rfl) (fun _ _ => rfl) x.1 x.2).trans h) (d95 x)
theorem k47 (N : Nat) (hN : N ≤ 4611686018427387904) : TOk Proofs.Try.prog 47 (t47 N) := TL_ok w47 fun x v h =>
    pure_ofT (l := [TE.plain 95 (t95 N) (k95 N (by omega))]) (s := []) tys_ok eqts_ok follows Proofs.Try.func47 (c := Proofs.Try.f47.body.get rfl) rfl (by decide) (by kernel_rfl) (H := H47) (N := N) (shp := sh47)
      ((ev47 (by omega) rfl rfl rfl (fun _ _ => rfl) x).trans h) (d47 x)
theorem k92 : ∀ (N : Nat), N ≤ 4611686018427387904 → TOk Proofs.Try.prog 92 (t92 N)
  | 0, _ => TL_ok w92 fun x v h => by have h : none = some v := h; cases h
  | N + 1, hN => TL_ok w92 fun x v h =>
    pure_ofT (l := [TE.plain 92 (t92 N) (k92 N (by omega))]) (s := []) tys_ok eqts_ok follows Proofs.Try.func92 (c := Proofs.Try.f92.body.get rfl) rfl (by decide) (by kernel_rfl) (H := H92) (N := N) (shp := sh92)
      ((ev92 (by omega) (F92 N) rfl rfl rfl (fun _ _ => rfl) x.1 x.2).trans h) (d92 x)
theorem k41 (N : Nat) (hN : N ≤ 4611686018427387904) : TOk Proofs.Try.prog 41 (t41 N) := TL_ok w41 fun x v h =>
    pure_ofT (l := [TE.plain 47 (t47 N) (k47 N (by omega)), TE.plain 92 (t92 N) (k92 N (by omega))]) (s := []) tys_ok eqts_ok follows Proofs.Try.func41 (c := Proofs.Try.f41.body.get rfl) rfl (by decide) (by kernel_rfl) (H := H41) (N := N) (shp := sh41)
      ((ev41 (by omega) rfl rfl rfl (fun _ _ => rfl) (fun _ _ => rfl) x).trans h) (d41 x)
theorem k15 (N : Nat) (hN : N ≤ 4611686018427387904) : TOk Proofs.Try.prog 15 (t15 N) := TL_ok w15 fun x v h =>
    pure_ofT (l := [TE.plain 27 (t27 N) (k27 N (by omega)), TE.plain 39 (t39 N) (k39 N (by omega)), TE.plain 72 (t72 N) (k72 N (by omega)), TE.plain 41 (t41 N) (k41 N (by omega)), TE.plain 28 (t28 N) (k28 N (by omega))]) (s := []) tys_ok eqts_ok follows Proofs.Try.func15 (c := Proofs.Try.f15.body.get rfl) rfl (by decide) (by kernel_rfl) (H := H15) (N := N) (shp := sh15)
      ((ev15 (by omega) rfl rfl rfl (fun _ _ => rfl) (fun _ _ => rfl) (fun _ _ => rfl) (fun _ _ => rfl) (fun _ _ => rfl) x.1 x.2).trans h) (d15 x)
theorem k63 (N : Nat) (hN : N ≤ 4611686018427387904) : TOk Proofs.Try.prog 63 (t63 N) := TL_ok w63 fun x v h =>
    pure_ofT (l := [TE.plain 28 (t28 N) (k28 N (by omega)), TE.plain 15 (t15 N) (k15 N (by omega))]) (s := []) tys_ok eqts_ok follows Proofs.Try.func63 (c := Proofs.Try.f63.body.get rfl) rfl (by decide) (by kernel_rfl) (H := H63) (N := N) (shp := sh63)
      ((ev63 (by omega) rfl rfl rfl (fun _ _ => rfl) (fun _ _ => rfl) x).trans h) (d63 x)
theorem k81 : TOk Proofs.Try.prog 81 t81 := TL_ok w81 fun x v h =>
    pure_ofT (l := []) (s := []) tys_ok eqts_ok follows Proofs.Try.func81 (c := Proofs.Try.f81.body.get rfl) rfl (by decide) (by kernel_rfl) (H := H81) (N := 0) (shp := sh81)
      ((ev81 (by omega) rfl rfl rfl  x.1 x.2).trans h) (d81 x)
theorem k19 : ∀ (N : Nat), N ≤ 4611686018427387904 → TOk Proofs.Try.prog 19 (t19 N)
  | 0, _ => TL_ok w19 fun x v h => by have h : none = some v := h; cases h
  | N + 1, hN => TL_ok w19 fun x v h =>
    pure_ofT (l := [TE.plain 81 (t81) k81, TE.plain 19 (t19 N) (k19 N (by omega))]) (s := []) tys_ok eqts_ok follows Proofs.Try.func19 (c := Proofs.Try.f19.body.get rfl) rfl (by decide) (by kernel_rfl) (H := H19) (N := N) (shp := sh19)
      ((ev19 (by omega) (F19 N) rfl rfl rfl (fun _ _ => rfl) (fun _ _ => rfl) x.1 x.2).trans h) (d19 x)
theorem k89 (N : Nat) (hN : N ≤ 4611686018427387904) : TOk Proofs.Try.prog 89 (t89 N) := TL_ok w89 fun x v h =>
    pure_ofT (l := [TE.plain 130 (t130) k130, TE.plain 63 (t63 N) (k63 N (by omega)), TE.plain 19 (t19 N) (k19 N (by omega))]) (s := []) tys_ok eqts_ok follows Proofs.Try.func89 (c := Proofs.Try.f89.body.get rfl) rfl (by decide) (by kernel_rfl) (H := H89) (N := N) (shp := sh89)
      ((ev89 (by omega) rfl rfl rfl (fun _ _ => rfl) (fun _ _ => rfl) (fun _ _ => rfl) x).trans h) (d89 x)
theorem k109 (N : Nat) (hN : N ≤ 4611686018427387904) : TOk Proofs.Try.prog 109 (t109 N) := TL_ok w109 fun x v h =>
    pure_ofT (l := [TE.plain 89 (t89 N) (k89 N (by omega))]) (s := []) tys_ok eqts_ok follows Proofs.Try.func109 (c := Proofs.Try.f109.body.get rfl) rfl (by decide) (by kernel_rfl) (H := H109) (N := N) (shp := sh109)
      ((ev109 (by omega) rfl rfl rfl (fun _ _ => rfl) x).trans h) (d109 x)
theorem k150 (N : Nat) (hN : N ≤ 4611686018427387904) : TOk Proofs.Try.prog 150 (t150 N) := TL_ok w150 fun x v h =>
    pure_ofT (l := []) (s := []) tys_ok eqts_ok follows Proofs.Try.func150 (c := Proofs.Try.f150.body.get rfl) rfl (by decide) (by kernel_rfl) (H := H150) (N := N) (shp := sh150)
      ((ev150 (by omega) rfl rfl rfl  x.1 x.2).trans h) (d150 x)
theorem k83 : ∀ (N : Nat), N ≤ 4611686018427387904 → TOk Proofs.Try.prog 83 (t83 N)
  | 0, _ => TL_ok w83 fun x v h => by have h : none = some v := h; cases h
  | N + 1, hN => TL_ok w83 fun x v h =>
    pure_ofT (l := [TE.plain 83 (t83 N) (k83 N (by omega))]) (s := []) tys_ok eqts_ok follows Proofs.Try.func83 (c := Proofs.Try.f83.body.get rfl) rfl (by decide) (by kernel_rfl) (H := H83) (N := N) (shp := sh83)
      ((ev83 (by omega) (F83 N) rfl rfl rfl (fun _ _ => rfl) x).trans h) (d83 x)
theorem k151 : TOk Proofs.Try.prog 151 t151 := TL_ok w151 fun x v h =>
    pure_ofT (l := []) (s := []) tys_ok eqts_ok follows Proofs.Try.func151 (c := Proofs.Try.f151.body.get rfl) rfl (by decide) (by kernel_rfl) (H := H151) (N := 0) (shp := sh151)
      ((ev151 (by omega) rfl rfl rfl  x.1 x.2).trans h) (d151 x)
theorem k110 (N : Nat) (hN : N ≤ 4611686018427387904) : TOk Proofs.Try.prog 110 (t110 N) := TL_ok w110 fun x v h =>
    pure_ofT (l := [TE.plain 150 (t150 N) (k150 N (by omega)), TE.plain 83 (t83 N) (k83 N (by omega)), TE.plain 151 (t151) k151]) (s := []) tys_ok eqts_ok follows Proofs.Try.func110 (c := Proofs.Try.f110.body.get rfl) rfl (by decide) (by kernel_rfl) (H := H110) (N := N) (shp := sh110)
      ((ev110 (by omega) rfl rfl rfl (fun _ _ => rfl) (fun _ _ => rfl) (fun _ _ => rfl) x).trans h) (d110 x)
theorem k57 (N : Nat) (hN : N ≤ 4611686018427387904) : TOk Proofs.Try.prog 57 (t57 N) := TL_ok w57 fun x v h =>
    pure_ofT (l := [TE.plain 109 (t109 N) (k109 N (by omega)), TE.plain 110 (t110 N) (k110 N (by omega))]) (s := []) tys_ok eqts_ok follows Proofs.Try.func57 (c := Proofs.Try.f57.body.get rfl) rfl (by decide) (by kernel_rfl) (H := H57) (N := N) (shp := sh57)
      ((ev57 (by omega) rfl rfl rfl (fun _ _ => rfl) (fun _ _ => rfl) x).trans h) (d57 x)
theorem k21 (N : Nat) (hN : N ≤ 4611686018427387904) : TOk Proofs.Try.prog 21 (t21 N) := TL_ok w21 fun x v h =>
    pure_ofT (l := [TE.plain 19 (t19 N) (k19 N (by omega))]) (s := []) tys_ok eqts_ok follows Proofs.Try.func21 (c := Proofs.Try.f21.body.get rfl) rfl (by decide) (by kernel_rfl) (H := H21) (N := N) (shp := sh21)
      ((ev21 (by omega) rfl rfl rfl (fun _ _ => rfl) x.1 x.2).trans h) (d21 x)
theorem k35 (N : Nat) (hN : N ≤ 4611686018427387904) : TOk Proofs.Try.prog 35 (t35 N) := TL_ok w35 fun x v h =>
    pure_ofT (l := [TE.plain 21 (t21 N) (k21 N (by omega))]) (s := []) tys_ok eqts_ok follows Proofs.Try.func35 (c := Proofs.Try.f35.body.get rfl) rfl (by decide) (by kernel_rfl) (H := H35) (N := N) (shp := sh35)
      ((ev35 (by omega) rfl rfl rfl (fun _ _ => rfl) x.1 x.2).trans h) (d35 x)
theorem k58 (N : Nat) (hN : N ≤ 4611686018427387904) : TOk Proofs.Try.prog 58 (t58 N) := TL_ok w58 fun x v h =>
    pure_ofT (l := [TE.plain 35 (t35 N) (k35 N (by omega))]) (s := []) tys_ok eqts_ok follows Proofs.Try.func58 (c := Proofs.Try.f58.body.get rfl) rfl (by decide) (by kernel_rfl) (H := H58) (N := N) (shp := sh58)
      ((ev58 (by omega) rfl rfl rfl (fun _ _ => rfl) x.1 x.2).trans h) (d58 x)
theorem k59 (N : Nat) (hN : N ≤ 4611686018427387904) : TOk Proofs.Try.prog 59 (t59 N) := TL_ok w59 fun x v h =>
    pure_ofT (l := [TE.plain 107 (t107 N) (k107 N (by omega))]) (s := []) tys_ok eqts_ok follows Proofs.Try.func59 (c := Proofs.Try.f59.body.get rfl) rfl (by decide) (by kernel_rfl) (H := H59) (N := N) (shp := sh59)
      ((ev59 (by omega) rfl rfl rfl (fun _ _ => rfl) x).trans h) (d59 x)
theorem k60 (N : Nat) (hN : N ≤ 4611686018427387904) : TOk Proofs.Try.prog 60 (t60 N) := TL_ok w60 fun x v h =>
    pure_ofT (l := [TE.plain 109 (t109 N) (k109 N (by omega))]) (s := []) tys_ok eqts_ok follows Proofs.Try.func60 (c := Proofs.Try.f60.body.get rfl) rfl (by decide) (by kernel_rfl) (H := H60) (N := N) (shp := sh60)
      ((ev60 (by omega) rfl rfl rfl (fun _ _ => rfl) x).trans h) (d60 x)
theorem k10 (N : Nat) (hN : N ≤ 4611686018427387904) : TOk Proofs.Try.prog 10 (t10 N) := TL_ok w10 fun x v h =>
    pure_ofT (l := [TE.plain 26 (t26 N) (k26 N (by omega)), TE.plain 32 (t32 N) (k32 N (by omega)), TE.plain 56 (t56 N) (k56 N (by omega)), TE.plain 57 (t57 N) (k57 N (by omega)), TE.plain 58 (t58 N) (k58 N (by omega)), TE.plain 59 (t59 N) (k59 N (by omega)), TE.plain 60 (t60 N) (k60 N (by omega))]) (s := []) tys_ok eqts_ok follows Proofs.Try.func10 (c := Proofs.Try.f10.body.get rfl) rfl (by decide) (by kernel_rfl) (H := H10) (N := N) (shp := sh10)
      ((ev10 (by omega) rfl rfl rfl (fun _ _ => rfl) (fun _ _ => rfl) (fun _ _ => rfl) (fun _ _ => rfl) (fun _ _ => rfl) (fun _ _ => rfl) (fun _ _ => rfl) x).trans h) (d10 x)
end Go.Abs.Try
