import Derived.Test.YtjjajifecniidaaLV0
import Derived.Test.YtjjajifecniidaaLV1
import Derived.Test.YtjjajifecniidaaLV2
import Derived.Test.YtjjajifecniidaaLV3
import Derived.Test.YtjjajifecniidaaLV4
import Derived.Test.YtjjajifecniidaaLV5
import Derived.Test.YtjjajifecniidaaLV6
import Derived.Test.YtjjajifecniidaaLV7
import Derived.Test.YtjjajifecniidaaSqCmp
namespace Go.Abs.Try
open Go.RowKit
set_option linter.unusedSimpArgs false
set_option linter.unusedVariables false
set_option maxRecDepth 100000
set_option maxHeartbeats 4000000
theorem k37 : TOk Proofs.Try.prog 37 t37 := TL_ok w37 fun x v h =>
    pure_ofT (l := [TE.plain 91 (t91) k91]) (s := [se136]) tys_ok eqts_ok follows Proofs.Try.func37 (c := Proofs.Try.f37.body.get rfl) rfl (by decide) (by kernel_rfl) (H := H37) (N := 0) (shp := sh37)
      ((ev37 (by omega) rfl rfl rfl (fun _ _ => rfl) (fun _ => rfl) x).trans h) (d37 x)
theorem k38 : ∀ (N : Nat), N ≤ 4611686018427387904 → TOk Proofs.Try.prog 38 (t38 N)
  | 0, _ => TL_ok w38 fun x v h => by have h : none = some v := h; cases h
  | N + 1, hN => TL_ok w38 fun x v h =>
    pure_ofT (l := [TE.plain 38 (t38 N) (k38 N (by omega))]) (s := []) tys_ok eqts_ok follows Proofs.Try.func38 (c := Proofs.Try.f38.body.get rfl) rfl (by decide) (by kernel_rfl) (H := H38) (N := N) (shp := sh38)
      ((ev38 (by omega) (F38 N) rfl rfl rfl (fun _ _ => rfl) x).trans h) (d38 x)
theorem k70 (N : Nat) (hN : N ≤ 4611686018427387904) : TOk Proofs.Try.prog 70 (t70 N) := TL_ok w70 fun x v h =>
    pure_ofT (l := [TE.plain 37 (t37) k37, TE.plain 38 (t38 N) (k38 N (by omega))]) (s := []) tys_ok eqts_ok follows Proofs.Try.func70 (c := Proofs.Try.f70.body.get rfl) rfl (by decide) (by kernel_rfl) (H := H70) (N := N) (shp := sh70)
      ((ev70 (by omega) rfl rfl rfl (fun _ _ => rfl) (fun _ _ => rfl) x).trans h) (d70 x)
theorem k73 : TOk Proofs.Try.prog 73 t73 := TL_ok w73 fun x v h =>
    pure_ofT (l := []) (s := []) tys_ok eqts_ok follows Proofs.Try.func73 (c := Proofs.Try.f73.body.get rfl) rfl (by decide) (by kernel_rfl) (H := H73) (N := 0) (shp := sh73)
      ((ev73 (by omega) rfl rfl rfl  x).trans h) (d73 x)
theorem k74 : TOk Proofs.Try.prog 74 t74 := TL_ok w74 fun x v h =>
    pure_ofT (l := []) (s := []) tys_ok eqts_ok follows Proofs.Try.func74 (c := Proofs.Try.f74.body.get rfl) rfl (by decide) (by kernel_rfl) (H := H74) (N := 0) (shp := sh74)
      ((ev74 (by omega) rfl rfl rfl  x).trans h) (d74 x)
theorem k16 (N : Nat) (hN : N ≤ 4611686018427387904) : TOk Proofs.Try.prog 16 (t16 N) := TL_ok w16 fun x v h =>
    pure_ofT (l := [TE.plain 73 (t73) k73, TE.plain 74 (t74) k74]) (s := []) tys_ok eqts_ok follows Proofs.Try.func16 (c := Proofs.Try.f16.body.get rfl) rfl (by decide) (by kernel_rfl) (H := H16) (N := N) (shp := sh16)
      ((ev16 (by omega) rfl rfl rfl (fun _ _ => rfl) (fun _ _ => rfl) x).trans h) (d16 x)
theorem k116 (N : Nat) (hN : N ≤ 4611686018427387904) : TOk Proofs.Try.prog 116 (t116 N) := TL_ok w116 fun x v h =>
    pure_ofT (l := [TE.plain 16 (t16 N) (k16 N (by omega))]) (s := []) tys_ok eqts_ok follows Proofs.Try.func116 (c := Proofs.Try.f116.body.get rfl) rfl (by decide) (by kernel_rfl) (H := H116) (N := N) (shp := sh116)
      ((ev116 (by omega) rfl rfl rfl (fun _ _ => rfl) x).trans h) (d116 x)
theorem k36 (N : Nat) (hN : N ≤ 4611686018427387904) : TOk Proofs.Try.prog 36 (t36 N) := TL_ok w36 fun x v h =>
    pure_ofT (l := []) (s := []) tys_ok eqts_ok follows Proofs.Try.func36 (c := Proofs.Try.f36.body.get rfl) rfl (by decide) (by kernel_rfl) (H := H36) (N := N) (shp := sh36)
      ((ev36 (by omega) rfl rfl rfl  x).trans h) (d36 x)
theorem k153 : TOk Proofs.Try.prog 153 t153 := TL_ok w153 fun x v h =>
    pure_ofT (l := []) (s := []) tys_ok eqts_ok follows Proofs.Try.func153 (c := Proofs.Try.f153.body.get rfl) rfl (by decide) (by kernel_rfl) (H := H153) (N := 0) (shp := sh153)
      ((ev153 (by omega) rfl rfl rfl  x).trans h) (d153 x)
theorem k154 (N : Nat) (hN : N ≤ 4611686018427387904) : TOk Proofs.Try.prog 154 (t154 N) := TL_ok w154 fun x v h =>
    pure_ofT (l := []) (s := []) tys_ok eqts_ok follows Proofs.Try.func154 (c := Proofs.Try.f154.body.get rfl) rfl (by decide) (by kernel_rfl) (H := H154) (N := N) (shp := sh154)
      ((ev154 (by omega) rfl rfl rfl  x.1 x.2).trans h) (d154 x)
theorem k117 (N : Nat) (hN : N ≤ 4611686018427387904) : TOk Proofs.Try.prog 117 (t117 N) := TL_ok w117 fun x v h =>
    pure_ofT (l := [TE.plain 36 (t36 N) (k36 N (by omega)), TE.plain 153 (t153) k153, TE.lent 154 (t154 N) (k154 N (by omega)), TE.inl tys eqts [] [] tys_ok eqts_ok follows 155 Proofs.Try.f155 Proofs.Try.func155 (c := Proofs.Try.f155.body.get rfl) rfl (by decide) (by kernel_rfl) H155 N]) (s := []) tys_ok eqts_ok follows Proofs.Try.func117 (c := Proofs.Try.f117.body.get rfl) rfl (by decide) (by kernel_rfl) (H := H117) (N := N) (shp := sh117)
      ((ev117 (E155 := fun n0 => mkT Proofs.Try.prog n0 tys eqts [] []) (by omega) rfl rfl rfl (fun _ _ => rfl) (fun _ _ => rfl) (fun _ _ => rfl) (fun _ _ => rfl) (fun _ => rfl) (fun _ => rfl) (fun _ => rfl) x).trans h) (d117 x)
theorem k71 (N : Nat) (hN : N ≤ 4611686018427387904) : TOk Proofs.Try.prog 71 (t71 N) := TL_ok w71 fun x v h =>
    pure_ofT (l := [TE.plain 91 (t91) k91, TE.plain 116 (t116 N) (k116 N (by omega)), TE.plain 117 (t117 N) (k117 N (by omega))]) (s := [se136]) tys_ok eqts_ok follows Proofs.Try.func71 (c := Proofs.Try.f71.body.get rfl) rfl (by decide) (by kernel_rfl) (H := H71) (N := N) (shp := sh71)
      ((ev71 (by omega) rfl rfl rfl (fun _ _ => rfl) (fun _ _ => rfl) (fun _ _ => rfl) (fun _ => rfl) x).trans h) (d71 x)
theorem k40 : TOk Proofs.Try.prog 40 t40 := TL_ok w40 fun x v h =>
    pure_ofT (l := [TE.plain 91 (t91) k91]) (s := [se136]) tys_ok eqts_ok follows Proofs.Try.func40 (c := Proofs.Try.f40.body.get rfl) rfl (by decide) (by kernel_rfl) (H := H40) (N := 0) (shp := sh40)
      ((ev40 (by omega) rfl rfl rfl (fun _ _ => rfl) (fun _ => rfl) x).trans h) (d40 x)
theorem k14 (N : Nat) (hN : N ≤ 4611686018427387904) : TOk Proofs.Try.prog 14 (t14 N) := TL_ok w14 fun x v h =>
    pure_ofT (l := [TE.plain 70 (t70 N) (k70 N (by omega)), TE.plain 71 (t71 N) (k71 N (by omega)), TE.plain 40 (t40) k40, TE.plain 36 (t36 N) (k36 N (by omega))]) (s := []) tys_ok eqts_ok follows Proofs.Try.func14 (c := Proofs.Try.f14.body.get rfl) rfl (by decide) (by kernel_rfl) (H := H14) (N := N) (shp := sh14)
      ((ev14 (by omega) rfl rfl rfl (fun _ _ => rfl) (fun _ _ => rfl) (fun _ _ => rfl) (fun _ _ => rfl) x.1 x.2).trans h) (d14 x)
theorem k78 : TOk Proofs.Try.prog 78 t78 := TL_ok w78 fun x v h =>
    pure_ofT (l := []) (s := []) tys_ok eqts_ok follows Proofs.Try.func78 (c := Proofs.Try.f78.body.get rfl) rfl (by decide) (by kernel_rfl) (H := H78) (N := 0) (shp := sh78)
      ((ev78 (by omega) rfl rfl rfl  x.1 x.2).trans h) (d78 x)
theorem k94 : TOk Proofs.Try.prog 94 t94 := TL_ok w94 fun x v h =>
    pure_ofT (l := [TE.plain 79 (t79) k79, TE.plain 78 (t78) k78]) (s := []) tys_ok eqts_ok follows Proofs.Try.func94 (c := Proofs.Try.f94.body.get rfl) rfl (by decide) (by kernel_rfl) (H := H94) (N := 0) (shp := sh94)
      ((ev94 (by omega) rfl rfl rfl (fun _ _ => rfl) (fun _ _ => rfl) x.1 x.2).trans h) (d94 x)
theorem k46 (N : Nat) (hN : N ≤ 4611686018427387904) : TOk Proofs.Try.prog 46 (t46 N) := TL_ok w46 fun x v h =>
    pure_ofT (l := [TE.plain 91 (t91) k91, TE.inl tys eqts [TE.inl tys eqts [TE.plain 94 (t94) k94] [] tys_ok eqts_ok follows 138 Proofs.Try.f138 Proofs.Try.func138 (c := Proofs.Try.f138.body.get rfl) rfl (by decide) (by kernel_rfl) H138 N, TE.inl tys eqts [] [] tys_ok eqts_ok follows 139 Proofs.Try.f139 Proofs.Try.func139 (c := Proofs.Try.f139.body.get rfl) rfl (by decide) (by kernel_rfl) H139 N] [] tys_ok eqts_ok follows 93 Proofs.Try.f93 Proofs.Try.func93 (c := Proofs.Try.f93.body.get rfl) rfl (by decide) (by kernel_rfl) H93 N]) (s := [se136]) tys_ok eqts_ok follows Proofs.Try.func46 (c := Proofs.Try.f46.body.get rfl) rfl (by decide) (by kernel_rfl) (H := H46) (N := N) (shp := sh46)
      ((ev46 (E93 := fun n0 => mkT Proofs.Try.prog n0 tys eqts [TE.inl tys eqts [TE.plain 94 (t94) k94] [] tys_ok eqts_ok follows 138 Proofs.Try.f138 Proofs.Try.func138 (c := Proofs.Try.f138.body.get rfl) rfl (by decide) (by kernel_rfl) H138 N, TE.inl tys eqts [] [] tys_ok eqts_ok follows 139 Proofs.Try.f139 Proofs.Try.func139 (c := Proofs.Try.f139.body.get rfl) rfl (by decide) (by kernel_rfl) H139 N] []) (E138 := fun n0 => mkT Proofs.Try.prog n0 tys eqts [TE.plain 94 (t94) k94] []) (E139 := fun n0 => mkT Proofs.Try.prog n0 tys eqts [] []) (by omega) rfl rfl rfl (fun _ _ => rfl) (fun _ _ => rfl) (fun _ => rfl) (fun _ => rfl) (fun _ => rfl) (fun _ => rfl) (fun _ _ _ => rfl) (fun _ _ _ => rfl) (fun _ => rfl) (fun _ => rfl) (fun _ => rfl) (fun _ _ _ => rfl) (fun _ => rfl) (fun _ => rfl) (fun _ => rfl) x).trans h) (d46 x)
theorem k12 (N : Nat) (hN : N ≤ 4611686018427387904) : TOk Proofs.Try.prog 12 (t12 N) := TL_ok w12 fun x v h =>
    pure_ofT (l := [TE.plain 14 (t14 N) (k14 N (by omega)), TE.plain 37 (t37) k37, TE.plain 46 (t46 N) (k46 N (by omega))]) (s := []) tys_ok eqts_ok follows Proofs.Try.func12 (c := Proofs.Try.f12.body.get rfl) rfl (by decide) (by kernel_rfl) (H := H12) (N := N) (shp := sh12)
      ((ev12 (by omega) rfl rfl rfl (fun _ _ => rfl) (fun _ _ => rfl) (fun _ _ => rfl) ).trans h) (d12 x)
theorem k27 : ∀ (N : Nat), N ≤ 4611686018427387904 → TOk Proofs.Try.prog 27 (t27 N)
  | 0, _ => TL_ok w27 fun x v h => by have h : none = some v := h; cases h
  | N + 1, hN => TL_ok w27 fun x v h =>
    pure_ofT (l := [TE.plain 27 (t27 N) (k27 N (by omega))]) (s := []) tys_ok eqts_ok follows Proofs.Try.func27 (c := Proofs.Try.f27.body.get rfl) rfl (by decide) (by kernel_rfl) (H := H27) (N := N) (shp := sh27)
      ((ev27 (by omega) (F27 N) rfl rfl rfl (fun _ _ => rfl) x).trans h) (d27 x)
theorem k13 (N : Nat) (hN : N ≤ 4611686018427387904) : TOk Proofs.Try.prog 13 (t13 N) := TL_ok w13 fun x v h =>
    pure_ofT (l := [TE.plain 27 (t27 N) (k27 N (by omega))]) (s := []) tys_ok eqts_ok follows Proofs.Try.func13 (c := Proofs.Try.f13.body.get rfl) rfl (by decide) (by kernel_rfl) (H := H13) (N := N) (shp := sh13)
      ((ev13 (by omega) rfl rfl rfl (fun _ _ => rfl) x.1 x.2).trans h) (d13 x)
theorem k39 : ∀ (N : Nat), N ≤ 4611686018427387904 → TOk Proofs.Try.prog 39 (t39 N)
  | 0, _ => TL_ok w39 fun x v h => by have h : none = some v := h; cases h
  | N + 1, hN => TL_ok w39 fun x v h =>
    pure_ofT (l := [TE.plain 39 (t39 N) (k39 N (by omega))]) (s := []) tys_ok eqts_ok follows Proofs.Try.func39 (c := Proofs.Try.f39.body.get rfl) rfl (by decide) (by kernel_rfl) (H := H39) (N := N) (shp := sh39)
      ((ev39 (by omega) (F39 N) rfl rfl rfl (fun _ _ => rfl) x).trans h) (d39 x)
theorem k75 : TOk Proofs.Try.prog 75 t75 := TL_ok w75 fun x v h =>
    pure_ofT (l := []) (s := []) tys_ok eqts_ok follows Proofs.Try.func75 (c := Proofs.Try.f75.body.get rfl) rfl (by decide) (by kernel_rfl) (H := H75) (N := 0) (shp := sh75)
      ((ev75 (by omega) rfl rfl rfl  x).trans h) (d75 x)
theorem k121 : TOk Proofs.Try.prog 121 t121 := TL_ok w121 fun x v h =>
    pure_ofT (l := []) (s := []) tys_ok eqts_ok follows Proofs.Try.func121 (c := Proofs.Try.f121.body.get rfl) rfl (by decide) (by kernel_rfl) (H := H121) (N := 0) (shp := sh121)
      ((ev121 (by omega) rfl rfl rfl  ).trans h) (d121 x)
theorem k76 (N : Nat) (hN : N ≤ 4611686018427387904) : TOk Proofs.Try.prog 76 (t76 N) := TL_ok w76 fun x v h =>
    pure_ofT (l := [TE.plain 121 (t121) k121]) (s := []) tys_ok eqts_ok follows Proofs.Try.func76 (c := Proofs.Try.f76.body.get rfl) rfl (by decide) (by kernel_rfl) (H := H76) (N := N) (shp := sh76)
      ((ev76 (by omega) rfl rfl rfl (fun _ _ => rfl) x).trans h) (d76 x)
theorem k77 : TOk Proofs.Try.prog 77 t77 := TL_ok w77 fun x v h =>
    pure_ofT (l := []) (s := []) tys_ok eqts_ok follows Proofs.Try.func77 (c := Proofs.Try.f77.body.get rfl) rfl (by decide) (by kernel_rfl) (H := H77) (N := 0) (shp := sh77)
      ((ev77 (by omega) rfl rfl rfl  x).trans h) (d77 x)
theorem k17 (N : Nat) (hN : N ≤ 4611686018427387904) : TOk Proofs.Try.prog 17 (t17 N) := TL_ok w17 fun x v h =>
    pure_ofT (l := [TE.plain 75 (t75) k75, TE.plain 76 (t76 N) (k76 N (by omega)), TE.plain 77 (t77) k77]) (s := []) tys_ok eqts_ok follows Proofs.Try.func17 (c := Proofs.Try.f17.body.get rfl) rfl (by decide) (by kernel_rfl) (H := H17) (N := N) (shp := sh17)
      ((ev17 (by omega) rfl rfl rfl (fun _ _ => rfl) (fun _ _ => rfl) (fun _ _ => rfl) x).trans h) (d17 x)
theorem k118 (N : Nat) (hN : N ≤ 4611686018427387904) : TOk Proofs.Try.prog 118 (t118 N) := TL_ok w118 fun x v h =>
    pure_ofT (l := [TE.plain 17 (t17 N) (k17 N (by omega))]) (s := []) tys_ok eqts_ok follows Proofs.Try.func118 (c := Proofs.Try.f118.body.get rfl) rfl (by decide) (by kernel_rfl) (H := H118) (N := N) (shp := sh118)
      ((ev118 (by omega) rfl rfl rfl (fun _ _ => rfl) x).trans h) (d118 x)
theorem k28 : ∀ (N : Nat), N ≤ 4611686018427387904 → TOk Proofs.Try.prog 28 (t28 N)
  | 0, _ => TL_ok w28 fun x v h => by have h : none = some v := h; cases h
  | N + 1, hN => TL_ok w28 fun x v h =>
    pure_ofT (l := [TE.plain 28 (t28 N) (k28 N (by omega))]) (s := []) tys_ok eqts_ok follows Proofs.Try.func28 (c := Proofs.Try.f28.body.get rfl) rfl (by decide) (by kernel_rfl) (H := H28) (N := N) (shp := sh28)
      ((ev28 (by omega) (F28 N) rfl rfl rfl (fun _ _ => rfl) x).trans h) (d28 x)
theorem k119 : TOk Proofs.Try.prog 119 t119 := TL_ok w119 fun x v h =>
    pure_ofT (l := []) (s := []) tys_ok eqts_ok follows Proofs.Try.func119 (c := Proofs.Try.f119.body.get rfl) rfl (by decide) (by kernel_rfl) (H := H119) (N := 0) (shp := sh119)
      ((ev119 (by omega) rfl rfl rfl  x).trans h) (d119 x)
theorem k120 : TOk Proofs.Try.prog 120 t120 := TL_ok w120 fun x v h =>
    pure_ofT (l := []) (s := []) tys_ok eqts_ok follows Proofs.Try.func120 (c := Proofs.Try.f120.body.get rfl) rfl (by decide) (by kernel_rfl) (H := H120) (N := 0) (shp := sh120)
      ((ev120 (by omega) rfl rfl rfl  x).trans h) (d120 x)
theorem k72 : ∀ (N : Nat), N ≤ 4611686018427387904 → TOk Proofs.Try.prog 72 (t72 N)
  | 0, _ => TL_ok w72 fun x v h => by have h : none = some v := h; cases h
  | N + 1, hN => TL_ok w72 fun x v h =>
    pure_ofT (l := [TE.plain 118 (t118 N) (k118 N (by omega)), TE.plain 72 (t72 N) (k72 N (by omega)), TE.plain 28 (t28 N) (k28 N (by omega)), TE.plain 119 (t119) k119, TE.plain 120 (t120) k120]) (s := []) tys_ok eqts_ok follows Proofs.Try.func72 (c := Proofs.Try.f72.body.get rfl) rfl (by decide) (by kernel_rfl) (H := H72) (N := N) (shp := sh72)
      ((ev72 (by omega) (F72 N) rfl rfl rfl (fun _ _ => rfl) (fun _ _ => rfl) (fun _ _ => rfl) (fun _ _ => rfl) (fun _ _ => rfl) x).trans h) (d72 x)
theorem k168 : TOk Proofs.Try.prog 168 t168 := TL_ok w168 fun x v h =>
    pure_ofT (l := []) (s := []) tys_ok eqts_ok follows Proofs.Try.func168 (c := Proofs.Try.f168.body.get rfl) rfl (by decide) (by kernel_rfl) (H := H168) (N := 0) (shp := sh168)
      ((ev168 (by omega) rfl rfl rfl  x.1 x.2).trans h) (d168 x)
theorem k140 (N : Nat) (hN : N ≤ 4611686018427387904) : TOk Proofs.Try.prog 140 (t140 N) := TL_ok w140 fun x v h =>
    pure_ofT (l := [TE.plain 168 (t168) k168]) (s := []) tys_ok eqts_ok follows Proofs.Try.func140 (c := Proofs.Try.f140.body.get rfl) rfl (by decide) (by kernel_rfl) (H := H140) (N := N) (shp := sh140)
      ((ev140 (by omega) rfl rfl rfl (fun _ _ => rfl) x.1 x.2).trans h) (d140 x)
theorem k95 : ∀ (N : Nat), N ≤ 4611686018427387904 → TOk Proofs.Try.prog 95 (t95 N)
  | 0, _ => TL_ok w95 fun x v h => by have h : none = some v := h; cases h
  | N + 1, hN => TL_ok w95 fun x v h =>
    pure_ofT (l := [TE.plain 140 (t140 N) (k140 N (by omega)), TE.plain 95 (t95 N) (k95 N (by omega))]) (s := []) tys_ok eqts_ok follows Proofs.Try.func95 (c := Proofs.Try.f95.body.get rfl) rfl (by decide) (by kernel_rfl) (H := H95) (N := N) (shp := sh95)
      ((ev95 (by omega) (F95 N) rfl rfl rfl (fun _ _ => rfl) (fun _ _ => rfl) x.1 x.2).trans h) (d95 x)
theorem k47 (N : Nat) (hN : N ≤ 4611686018427387904) : TOk Proofs.Try.prog 47 (t47 N) := TL_ok w47 fun x v h =>
    pure_ofT (l := [TE.plain 95 (t95 N) (k95 N (by omega))]) (s := []) tys_ok eqts_ok follows Proofs.Try.func47 (c := Proofs.Try.f47.body.get rfl) rfl (by decide) (by kernel_rfl) (H := H47) (N := N) (shp := sh47)
      ((ev47 (by omega) rfl rfl rfl (fun _ _ => rfl) x).trans h) (d47 x)
theorem k92 : ∀ (N : Nat), N ≤ 4611686018427387904 → TOk Proofs.Try.prog 92 (t92 N)
  | 0, _ => TL_ok w92 fun x v h => by have h : none = some v := h; cases h
  | N + 1, hN => TL_ok w92 fun x v h =>
    pure_ofT (l := [TE.plain 92 (t92 N) (k92 N (by omega))]) (s := []) tys_ok eqts_ok follows Proofs.Try.func92 (c := Proofs.Try.f92.body.get rfl) rfl (by decide) (by kernel_rfl) (H := H92) (N := N) (shp := sh92)
      ((ev92 (by omega) (F92 N) rfl rfl rfl (fun _ _ => rfl) x.1 x.2).trans h) (d92 x)
theorem k41 (N : Nat) (hN : N ≤ 4611686018427387904) : TOk Proofs.Try.prog 41 (t41 N) := TL_ok w41 fun x v h =>
    pure_ofT (l := [TE.plain 47 (t47 N) (k47 N (by omega)), TE.plain 92 (t92 N) (k92 N (by omega))]) (s := []) tys_ok eqts_ok follows Proofs.Try.func41 (c := Proofs.Try.f41.body.get rfl) rfl (by decide) (by kernel_rfl) (H := H41) (N := N) (shp := sh41)
      ((ev41 (by omega) rfl rfl rfl (fun _ _ => rfl) (fun _ _ => rfl) x).trans h) (d41 x)
theorem k15 (N : Nat) (hN : N ≤ 4611686018427387904) : TOk Proofs.Try.prog 15 (t15 N) := TL_ok w15 fun x v h =>
    pure_ofT (l := [TE.plain 27 (t27 N) (k27 N (by omega)), TE.plain 39 (t39 N) (k39 N (by omega)), TE.plain 72 (t72 N) (k72 N (by omega)), TE.plain 41 (t41 N) (k41 N (by omega)), TE.plain 28 (t28 N) (k28 N (by omega))]) (s := []) tys_ok eqts_ok follows Proofs.Try.func15 (c := Proofs.Try.f15.body.get rfl) rfl (by decide) (by kernel_rfl) (H := H15) (N := N) (shp := sh15)
      ((ev15 (by omega) rfl rfl rfl (fun _ _ => rfl) (fun _ _ => rfl) (fun _ _ => rfl) (fun _ _ => rfl) (fun _ _ => rfl) x.1 x.2).trans h) (d15 x)
theorem k3 (N : Nat) (hN : N ≤ 4611686018427387904) : TOk Proofs.Try.prog 3 (t3 N) := TL_ok w3 fun x v h =>
    pure_ofT (l := [TE.plain 12 (t12 N) (k12 N (by omega)), TE.plain 13 (t13 N) (k13 N (by omega)), TE.plain 14 (t14 N) (k14 N (by omega)), TE.plain 15 (t15 N) (k15 N (by omega)), TE.plain 16 (t16 N) (k16 N (by omega)), TE.plain 17 (t17 N) (k17 N (by omega))]) (s := []) tys_ok eqts_ok follows Proofs.Try.func3 (c := Proofs.Try.f3.body.get rfl) rfl (by decide) (by kernel_rfl) (H := H3) (N := N) (shp := sh3)
      ((ev3 (by omega) rfl rfl rfl (fun _ _ => rfl) (fun _ _ => rfl) (fun _ _ => rfl) (fun _ _ => rfl) (fun _ _ => rfl) (fun _ _ => rfl) x.1 x.2.1 x.2.2).trans h) (d3 x)
end Go.Abs.Try
