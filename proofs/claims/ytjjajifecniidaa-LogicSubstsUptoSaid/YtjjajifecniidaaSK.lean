import Derived.Test.YtjjajifecniidaaSV0
import Derived.Test.YtjjajifecniidaaSV1
import Derived.Test.YtjjajifecniidaaSV2
import Derived.Test.YtjjajifecniidaaSV3
import Derived.Test.YtjjajifecniidaaSV4
import Derived.Test.YtjjajifecniidaaSV5
import Derived.Test.YtjjajifecniidaaSCmp
namespace Go.Abs.Try
open Go.RowKit
set_option linter.unusedSimpArgs false
set_option linter.unusedVariables false
set_option maxRecDepth 100000
set_option maxHeartbeats 4000000
theorem k37 : TOk Proofs.Try.prog 37 t37 := TL_ok w37 fun x v h =>
    pure_ofT (l := [TE.plain 91 (t91) k91]) (s := [se136]) tys_ok eqts_ok follows Proofs.Try.func37 (c := Proofs.Try.f37.body.get rfl) rfl (by decide) (by kernel_rfl) (H := H37) (N := 0) (shp := sh37)
      ((ev37 (by omega) rfl rfl rfl (fun _ _ => rfl) (fun _ => rfl) x).trans h) (d37 x)
theorem k38 : ∀ (N : Nat), N ≤ 4611686018427387904 → TOk Proofs.Try.prog 38 (t38 N)
  | 0, _ => TL_ok w38 fun x v h => by have h : none = some v := h; cases h
  | N + 1, hN => TL_ok w38 fun x v h =>
    pure_ofT (l := [TE.plain 38 (t38 N) (k38 N (by omega))]) (s := []) tys_ok eqts_ok follows Proofs.Try.func38 (c := Proofs.Try.f38.body.get rfl) rfl (by decide) (by kernel_rfl) (H := H38) (N := N) (shp := sh38)
      ((ev38 (by omega) (F38 N) rfl rfl rfl (fun _ _ => rfl) x).trans h) (d38 x)
theorem k70 (N : Nat) (hN : N ≤ 4611686018427387904) : TOk Proofs.Try.prog 70 (t70 N) := TL_ok w70 fun x v h =>
    pure_ofT (l := [TE.plain 37 (t37) k37, TE.plain 38 (t38 N) (k38 N (by omega))]) (s := []) tys_ok eqts_ok follows Proofs.Try.func70 (c := Proofs.Try.f70.body.get rfl) rfl (by decide) (by kernel_rfl) (H := H70) (N := N) (shp := sh70)
      ((ev70 (by omega) rfl rfl rfl (fun _ _ => rfl) (fun _ _ => rfl) x).trans h) (d70 x)
theorem k73 : TOk Proofs.Try.prog 73 t73 := TL_ok w73 fun x v h =>
    pure_ofT (l := []) (s := []) tys_ok eqts_ok follows Proofs.Try.func73 (c := Proofs.Try.f73.body.get rfl) rfl (by decide) (by kernel_rfl) (H := H73) (N := 0) (shp := sh73)
      ((ev73 (by omega) rfl rfl rfl  x).trans h) (d73 x)
theorem k74 : TOk Proofs.Try.prog 74 t74 := TL_ok w74 fun x v h =>
    pure_ofT (l := []) (s := []) tys_ok eqts_ok follows Proofs.Try.func74 (c := Proofs.Try.f74.body.get rfl) rfl (by decide) (by kernel_rfl) (H := H74) (N := 0) (shp := sh74)
      ((ev74 (by omega) rfl rfl rfl  x).trans h) (d74 x)
theorem k16 (N : Nat) (hN : N ≤ 4611686018427387904) : TOk Proofs.Try.prog 16 (t16 N) := TL_ok w16 fun x v h =>
    pure_ofT (l := [TE.plain 73 (t73) k73, TE.plain 74 (t74) k74]) (s := []) tys_ok eqts_ok follows Proofs.Try.func16 (c := Proofs.Try.f16.body.get rfl) rfl (by decide) (by kernel_rfl) (H := H16) (N := N) (shp := sh16)
      ((ev16 (by omega) rfl rfl rfl (fun _ _ => rfl) (fun _ _ => rfl) x).trans h) (d16 x)
theorem k116 (N : Nat) (hN : N ≤ 4611686018427387904) : TOk Proofs.Try.prog 116 (t116 N) := TL_ok w116 fun x v h =>
    pure_ofT (l := [TE.plain 16 (t16 N) (k16 N (by omega))]) (s := []) tys_ok eqts_ok follows Proofs.Try.func116 (c := Proofs.Try.f116.body.get rfl) rfl (by decide) (by kernel_rfl) (H := H116) (N := N) (shp := sh116)
      ((ev116 (by omega) rfl rfl rfl (fun _ _ => rfl) x).trans h) (d116 x)
theorem k36 (N : Nat) (hN : N ≤ 4611686018427387904) : TOk Proofs.Try.prog 36 (t36 N) := TL_ok w36 fun x v h =>
    pure_ofT (l := []) (s := []) tys_ok eqts_ok follows Proofs.Try.func36 (c := Proofs.Try.f36.body.get rfl) rfl (by decide) (by kernel_rfl) (H := H36) (N := N) (shp := sh36)
      ((ev36 (by omega) rfl rfl rfl  x).trans h) (d36 x)
theorem k153 : TOk Proofs.Try.prog 153 t153 := TL_ok w153 fun x v h =>
    pure_ofT (l := []) (s := []) tys_ok eqts_ok follows Proofs.Try.func153 (c := Proofs.Try.f153.body.get rfl) rfl (by decide) (by kernel_rfl) (H := H153) (N := 0) (shp := sh153)
      ((ev153 (by omega) rfl rfl rfl  x).trans h) (d153 x)
theorem k154 (N : Nat) (hN : N ≤ 4611686018427387904) : TOk Proofs.Try.prog 154 (t154 N) := TL_ok w154 fun x v h =>
    pure_ofT (l := []) (s := []) tys_ok eqts_ok follows Proofs.Try.func154 (c := Proofs.Try.f154.body.get rfl) rfl (by decide) (by kernel_rfl) (H := H154) (N := N) (shp := sh154)
      ((ev154 (by omega) rfl rfl rfl  x.1 x.2).trans h) (d154 x)
theorem k117 (N : Nat) (hN : N ≤ 4611686018427387904) : TOk Proofs.Try.prog 117 (t117 N) := TL_ok w117 fun x v h =>
    pure_ofT (l := [TE.plain 36 (t36 N) (k36 N (by omega)), TE.plain 153 (t153) k153, TE.lent 154 (t154 N) (k154 N (by omega)), TE.inl tys eqts [] [] tys_ok eqts_ok follows 155 Proofs.Try.f155 Proofs.Try.func155 (c := Proofs.Try.f155.body.get rfl) rfl (by decide) (by kernel_rfl) H155 N]) (s := []) tys_ok eqts_ok follows Proofs.Try.func117 (c := Proofs.Try.f117.body.get rfl) rfl (by decide) (by kernel_rfl) (H := H117) (N := N) (shp := sh117)
      ((ev117 (E155 := fun n0 => mkT Proofs.Try.prog n0 tys eqts [] []) (by omega) rfl rfl rfl (fun _ _ => rfl) (fun _ _ => rfl) (fun _ _ => rfl) (fun _ _ => rfl) (fun _ => rfl) (fun _ => rfl) (fun _ => rfl) x).trans h) (d117 x)
theorem k71 (N : Nat) (hN : N ≤ 4611686018427387904) : TOk Proofs.Try.prog 71 (t71 N) := TL_ok w71 fun x v h =>
    pure_ofT (l := [TE.plain 91 (t91) k91, TE.plain 116 (t116 N) (k116 N (by omega)), TE.plain 117 (t117 N) (k117 N (by omega))]) (s := [se136]) tys_ok eqts_ok follows Proofs.Try.func71 (c := Proofs.Try.f71.body.get rfl) rfl (by decide) (by kernel_rfl) (H := H71) (N := N) (shp := sh71)
      ((ev71 (by omega) rfl rfl rfl (fun _ _ => rfl) (fun _ _ => rfl) (fun _ _ => rfl) (fun _ => rfl) x).trans h) (d71 x)
theorem k40 : TOk Proofs.Try.prog 40 t40 := TL_ok w40 fun x v h =>
    pure_ofT (l := [TE.plain 91 (t91) k91]) (s := [se136]) tys_ok eqts_ok follows Proofs.Try.func40 (c := Proofs.Try.f40.body.get rfl) rfl (by decide) (by kernel_rfl) (H := H40) (N := 0) (shp := sh40)
      ((ev40 (by omega) rfl rfl rfl (fun _ _ => rfl) (fun _ => rfl) x).trans h) (d40 x)
theorem k14 (N : Nat) (hN : N ≤ 4611686018427387904) : TOk Proofs.Try.prog 14 (t14 N) := TL_ok w14 fun x v h =>
    pure_ofT (l := [TE.plain 70 (t70 N) (k70 N (by omega)), TE.plain 71 (t71 N) (k71 N (by omega)), TE.plain 40 (t40) k40, TE.plain 36 (t36 N) (k36 N (by omega))]) (s := []) tys_ok eqts_ok follows Proofs.Try.func14 (c := Proofs.Try.f14.body.get rfl) rfl (by decide) (by kernel_rfl) (H := H14) (N := N) (shp := sh14)
      ((ev14 (by omega) rfl rfl rfl (fun _ _ => rfl) (fun _ _ => rfl) (fun _ _ => rfl) (fun _ _ => rfl) x.1 x.2).trans h) (d14 x)
theorem k78 : TOk Proofs.Try.prog 78 t78 := TL_ok w78 fun x v h =>
    pure_ofT (l := []) (s := []) tys_ok eqts_ok follows Proofs.Try.func78 (c := Proofs.Try.f78.body.get rfl) rfl (by decide) (by kernel_rfl) (H := H78) (N := 0) (shp := sh78)
      ((ev78 (by omega) rfl rfl rfl  x.1 x.2).trans h) (d78 x)
theorem k94 : TOk Proofs.Try.prog 94 t94 := TL_ok w94 fun x v h =>
    pure_ofT (l := [TE.plain 79 (t79) k79, TE.plain 78 (t78) k78]) (s := []) tys_ok eqts_ok follows Proofs.Try.func94 (c := Proofs.Try.f94.body.get rfl) rfl (by decide) (by kernel_rfl) (H := H94) (N := 0) (shp := sh94)
      ((ev94 (by omega) rfl rfl rfl (fun _ _ => rfl) (fun _ _ => rfl) x.1 x.2).trans h) (d94 x)
theorem k46 (N : Nat) (hN : N ≤ 4611686018427387904) : TOk Proofs.Try.prog 46 (t46 N) := TL_ok w46 fun x v h =>
    pure_ofT (l := [TE.plain 91 (t91) k91, TE.inl tys eqts [TE.inl tys eqts [TE.plain 94 (t94) k94] [] tys_ok eqts_ok follows 138 Proofs.Try.f138 Proofs.Try.func138 (c := Proofs.Try.f138.body.get rfl) rfl (by decide) (by kernel_rfl) H138 N, TE.inl tys eqts [] [] tys_ok eqts_ok follows 139 Proofs.Try.f139 Proofs.Try.func139 (c := Proofs.Try.f139.body.get rfl) rfl (by decide) (by kernel_rfl) H139 N] [] tys_ok eqts_ok follows 93 Proofs.Try.f93 Proofs.Try.func93 (c := Proofs.Try.f93.body.get rfl) rfl (by decide) (by kernel_rfl) H93 N]) (s := [se136]) tys_ok eqts_ok follows Proofs.Try.func46 (c := Proofs.Try.f46.body.get rfl) rfl (by decide) (by kernel_rfl) (H := H46) (N := N) (shp := sh46)
      ((ev46 (E93 := fun n0 => mkT Proofs.Try.prog n0 tys eqts [TE.inl tys eqts [TE.plain 94 (t94) k94] [] tys_ok eqts_ok follows 138 Proofs.Try.f138 Proofs.Try.func138 (c := Proofs.Try.f138.body.get rfl) rfl (by decide) (by kernel_rfl) H138 N, TE.inl tys eqts [] [] tys_ok eqts_ok follows 139 Proofs.Try.f139 Proofs.Try.func139 (c := Proofs.Try.f139.body.get rfl) rfl (by decide) (by kernel_rfl) H139 N] []) (E138 := fun n0 => mkT Proofs.Try.prog n0 tys eqts [TE.plain 94 (t94) k94] []) (E139 := fun n0 => mkT Proofs.Try.prog n0 tys eqts [] []) (by omega) rfl rfl rfl (fun _ _ => rfl) (fun _ _ => rfl) (fun _ => rfl) (fun _ => rfl) (fun _ => rfl) (fun _ => rfl) (fun _ _ _ => rfl) (fun _ _ _ => rfl) (fun _ => rfl) (fun _ => rfl) (fun _ => rfl) (fun _ _ _ => rfl) (fun _ => rfl) (fun _ => rfl) (fun _ => rfl) x).trans h) (d46 x)
theorem k12 (N : Nat) (hN : N ≤ 4611686018427387904) : TOk Proofs.Try.prog 12 (t12 N) := TL_ok w12 fun x v h =>
    pure_ofT (l := [TE.plain 14 (t14 N) (k14 N (by omega)), TE.plain 37 (t37) k37, TE.plain 46 (t46 N) (k46 N (by omega))]) (s := []) tys_ok eqts_ok follows Proofs.Try.func12 (c := Proofs.Try.f12.body.get rfl) rfl (by decide) (by kernel_rfl) (H := H12) (N := N) (shp := sh12)
      ((ev12 (by omega) rfl rfl rfl (fun _ _ => rfl) (fun _ _ => rfl) (fun _ _ => rfl) ).trans h) (d12 x)
theorem k27 : ∀ (N : Nat), N ≤ 4611686018427387904 → TOk Proofs.Try.prog 27 (t27 N)
  | 0, _ => TL_ok w27 fun x v h => by have h : none = some v := h; cases h
  | N + 1, hN => TL_ok w27 fun x v h =>
    pure_ofT (l := [TE.plain 27 (t27 N) (k27 N (by omega))]) (s := []) tys_ok eqts_ok follows Proofs.Try.func27 (c := Proofs.Try.f27.body.get rfl) rfl (by decide) (by kernel_rfl) (H := H27) (N := N) (shp := sh27)
      ((ev27 (by omega) (F27 N) rfl rfl rfl (fun _ _ => rfl) x).trans h) (d27 x)
theorem k13 (N : Nat) (hN : N ≤ 4611686018427387904) : TOk Proofs.Try.prog 13 (t13 N) := TL_ok w13 fun x v h =>
    pure_ofT (l := [TE.plain 27 (t27 N) (k27 N (by omega))]) (s := []) tys_ok eqts_ok follows Proofs.Try.func13 (c := Proofs.Try.f13.body.get rfl) rfl (by decide) (by kernel_rfl) (H := H13) (N := N) (shp := sh13)
      ((ev13 (by omega) rfl rfl rfl (fun _ _ => rfl) x.1 x.2).trans h) (d13 x)
theorem k82 : ∀ (N : Nat), N ≤ 4611686018427387904 → TOk Proofs.Try.prog 82 (t82 N)
  | 0, _ => TL_ok w82 fun x v h => by have h : none = some v := h; cases h
  | N + 1, hN => TL_ok w82 fun x v h =>
    pure_ofT (l := [te123, TE.plain 82 (t82 N) (k82 N (by omega))]) (s := []) tys_ok eqts_ok follows Proofs.Try.func82 (c := Proofs.Try.f82.body.get rfl) rfl (by decide) (by kernel_rfl) (H := H82) (N := N) (shp := sh82)
      ((ev82 (by omega) (F82 N) rfl rfl rfl (fun _ _ => rfl) (fun _ _ => rfl) x).trans h) (d82 x)
theorem k22 : ∀ (N : Nat), N ≤ 4611686018427387904 → TOk Proofs.Try.prog 22 (t22 N)
  | 0, _ => TL_ok w22 fun x v h => by have h : none = some v := h; cases h
  | N + 1, hN => TL_ok w22 fun x v h =>
    pure_ofT (l := [TE.plain 82 (t82 N) (k82 N (by omega)), TE.plain 22 (t22 N) (k22 N (by omega))]) (s := []) tys_ok eqts_ok follows Proofs.Try.func22 (c := Proofs.Try.f22.body.get rfl) rfl (by decide) (by kernel_rfl) (H := H22) (N := N) (shp := sh22)
      ((ev22 (by omega) (F22 N) rfl rfl rfl (fun _ _ => rfl) (fun _ _ => rfl) x.1 x.2.1 x.2.2).trans h) (d22 x)
theorem k83 : ∀ (N : Nat), N ≤ 4611686018427387904 → TOk Proofs.Try.prog 83 (t83 N)
  | 0, _ => TL_ok w83 fun x v h => by have h : none = some v := h; cases h
  | N + 1, hN => TL_ok w83 fun x v h =>
    pure_ofT (l := [TE.plain 83 (t83 N) (k83 N (by omega))]) (s := []) tys_ok eqts_ok follows Proofs.Try.func83 (c := Proofs.Try.f83.body.get rfl) rfl (by decide) (by kernel_rfl) (H := H83) (N := N) (shp := sh83)
      ((ev83 (by omega) (F83 N) rfl rfl rfl (fun _ _ => rfl) x).trans h) (d83 x)
theorem k23 : ∀ (N : Nat), N ≤ 4611686018427387904 → TOk Proofs.Try.prog 23 (t23 N)
  | 0, _ => TL_ok w23 fun x v h => by have h : none = some v := h; cases h
  | N + 1, hN => TL_ok w23 fun x v h =>
    pure_ofT (l := [TE.plain 83 (t83 N) (k83 N (by omega)), TE.plain 23 (t23 N) (k23 N (by omega))]) (s := []) tys_ok eqts_ok follows Proofs.Try.func23 (c := Proofs.Try.f23.body.get rfl) rfl (by decide) (by kernel_rfl) (H := H23) (N := N) (shp := sh23)
      ((ev23 (by omega) (F23 N) rfl rfl rfl (fun _ _ => rfl) (fun _ _ => rfl) x.1 x.2.1 x.2.2).trans h) (d23 x)
theorem k81 : TOk Proofs.Try.prog 81 t81 := TL_ok w81 fun x v h =>
    pure_ofT (l := []) (s := []) tys_ok eqts_ok follows Proofs.Try.func81 (c := Proofs.Try.f81.body.get rfl) rfl (by decide) (by kernel_rfl) (H := H81) (N := 0) (shp := sh81)
      ((ev81 (by omega) rfl rfl rfl  x.1 x.2).trans h) (d81 x)
theorem k19 : ∀ (N : Nat), N ≤ 4611686018427387904 → TOk Proofs.Try.prog 19 (t19 N)
  | 0, _ => TL_ok w19 fun x v h => by have h : none = some v := h; cases h
  | N + 1, hN => TL_ok w19 fun x v h =>
    pure_ofT (l := [TE.plain 81 (t81) k81, TE.plain 19 (t19 N) (k19 N (by omega))]) (s := []) tys_ok eqts_ok follows Proofs.Try.func19 (c := Proofs.Try.f19.body.get rfl) rfl (by decide) (by kernel_rfl) (H := H19) (N := N) (shp := sh19)
      ((ev19 (by omega) (F19 N) rfl rfl rfl (fun _ _ => rfl) (fun _ _ => rfl) x.1 x.2).trans h) (d19 x)
theorem k21 (N : Nat) (hN : N ≤ 4611686018427387904) : TOk Proofs.Try.prog 21 (t21 N) := TL_ok w21 fun x v h =>
    pure_ofT (l := [TE.plain 19 (t19 N) (k19 N (by omega))]) (s := []) tys_ok eqts_ok follows Proofs.Try.func21 (c := Proofs.Try.f21.body.get rfl) rfl (by decide) (by kernel_rfl) (H := H21) (N := N) (shp := sh21)
      ((ev21 (by omega) rfl rfl rfl (fun _ _ => rfl) x.1 x.2).trans h) (d21 x)
theorem k24 (N : Nat) (hN : N ≤ 4611686018427387904) : TOk Proofs.Try.prog 24 (t24 N) := TL_ok w24 fun x v h =>
    pure_ofT (l := [TE.plain 22 (t22 N) (k22 N (by omega))]) (s := []) tys_ok eqts_ok follows Proofs.Try.func24 (c := Proofs.Try.f24.body.get rfl) rfl (by decide) (by kernel_rfl) (H := H24) (N := N) (shp := sh24)
      ((ev24 (by omega) rfl rfl rfl (fun _ _ => rfl) x.1 x.2.1 x.2.2).trans h) (d24 x)
theorem k25 (N : Nat) (hN : N ≤ 4611686018427387904) : TOk Proofs.Try.prog 25 (t25 N) := TL_ok w25 fun x v h =>
    pure_ofT (l := [TE.plain 23 (t23 N) (k23 N (by omega))]) (s := []) tys_ok eqts_ok follows Proofs.Try.func25 (c := Proofs.Try.f25.body.get rfl) rfl (by decide) (by kernel_rfl) (H := H25) (N := N) (shp := sh25)
      ((ev25 (by omega) rfl rfl rfl (fun _ _ => rfl) x.1 x.2.1 x.2.2).trans h) (d25 x)
theorem k5 (N : Nat) (hN : N ≤ 4611686018427387904) : TOk Proofs.Try.prog 5 (t5 N) := TL_ok w5 fun x v h =>
    pure_ofT (l := [TE.plain 12 (t12 N) (k12 N (by omega)), TE.lent 13 (t13 N) (k13 N (by omega)), TE.plain 22 (t22 N) (k22 N (by omega)), TE.plain 23 (t23 N) (k23 N (by omega)), TE.plain 21 (t21 N) (k21 N (by omega)), TE.plain 24 (t24 N) (k24 N (by omega)), TE.plain 25 (t25 N) (k25 N (by omega))]) (s := []) tys_ok eqts_ok follows Proofs.Try.func5 (c := Proofs.Try.f5.body.get rfl) rfl (by decide) (by kernel_rfl) (H := H5) (N := N) (shp := sh5)
      ((ev5 (by omega) rfl rfl rfl (fun _ _ => rfl) (fun _ _ => rfl) (fun _ _ => rfl) (fun _ _ => rfl) (fun _ _ => rfl) (fun _ _ => rfl) (fun _ _ => rfl) x.1 x.2.1 x.2.2).trans h) (d5 x)
end Go.Abs.Try
