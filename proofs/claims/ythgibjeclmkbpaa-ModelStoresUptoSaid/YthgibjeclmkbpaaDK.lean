import Derived.Test.YthgibjeclmkbpaaDVal0toDVal
import Derived.Test.YthgibjeclmkbpaaDV0
import Derived.Test.YthgibjeclmkbpaaDV1
import Derived.Test.YthgibjeclmkbpaaDV2
import Derived.Test.YthgibjeclmkbpaaDV3
set_option linter.unusedSimpArgs false
set_option linter.unusedVariables false
namespace Go.Abs.Try
open Go.RowKit
set_option maxRecDepth 100000
set_option maxHeartbeats 40000000
theorem k47 : TOk Proofs.Try.prog 47 t47 := TL_ok ar47.wk fun x v h =>
   pure_ofT (l := []) (s := []) tys_ok eqts_ok follows Proofs.Try.func47 (c := Proofs.Try.f47.body.get rfl) rfl (by decide) (by kernel_rfl)  (H := H47) (N := 0) (shp := sh47)
     ((ev47 (by omega) rfl rfl rfl rfl  x).trans h) (ar47.da x)
theorem k70 : TOk Proofs.Try.prog 70 t70 := TL_ok ar70.wk fun x v h =>
   pure_ofT (l := []) (s := []) tys_ok eqts_ok follows Proofs.Try.func70 (c := Proofs.Try.f70.body.get rfl) rfl (by decide) (by kernel_rfl)  (H := H70) (N := 0) (shp := sh70)
     ((ev70 (by omega) rfl rfl rfl rfl  x).trans h) (ar70.da x)
theorem k63 : TOk Proofs.Try.prog 63 t63 := TL_ok ar63.wk fun x v h =>
   pure_ofT (l := [TE.plain 70 (t70) k70]) (s := []) tys_ok eqts_ok follows Proofs.Try.func63 (c := Proofs.Try.f63.body.get rfl) rfl (by decide) (by kernel_rfl)  (H := H63) (N := 0) (shp := sh63)
     ((ev63 (by omega) rfl rfl rfl rfl (fun _ _ => rfl) x.1 x.2).trans h) (ar63.da x)
theorem k64 : TOk Proofs.Try.prog 64 t64 := TL_ok ar64.wk fun x v h =>
   pure_ofT (l := []) (s := []) tys_ok eqts_ok follows Proofs.Try.func64 (c := Proofs.Try.f64.body.get rfl) rfl (by decide) (by kernel_rfl)  (H := H64) (N := 0) (shp := sh64)
     ((ev64 (by omega) rfl rfl rfl rfl  x).trans h) (ar64.da x)
theorem k48 (N : Nat) (hN : N ≤ 4611686018427387904) : TOk Proofs.Try.prog 48 (t48 N) := TL_ok ar48.wk fun x v h =>
   pure_ofT (l := [TE.plain 63 (t63) k63, TE.plain 64 (t64) k64]) (s := []) tys_ok eqts_ok follows Proofs.Try.func48 (c := Proofs.Try.f48.body.get rfl) rfl (by decide) (by kernel_rfl)  (H := H48) (N := N) (shp := sh48)
     ((ev48 (by omega) rfl rfl rfl rfl (fun _ _ => rfl) (fun _ _ => rfl) x.1 x.2).trans h) (ar48.da x)
theorem k29 (N : Nat) (hN : N ≤ 4611686018427387904) : TOk Proofs.Try.prog 29 (t29 N) := TL_ok ar29.wk fun x v h =>
   pure_ofT (l := [TE.plain 48 (t48 N) (k48 N (by omega))]) (s := []) tys_ok eqts_ok follows Proofs.Try.func29 (c := Proofs.Try.f29.body.get rfl) rfl (by decide) (by kernel_rfl)  (H := H29) (N := N) (shp := sh29)
     ((ev29 (by omega) rfl rfl rfl rfl (fun _ _ => rfl) x.1 x.2).trans h) (ar29.da x)
theorem k2001 (N : Nat) (hN : N ≤ 4611686018427387904) : TSOk Proofs.Try.prog 30 1 (t2001 N) := TLS_ok (fun x => ar2001.wk x.1) (fun x => st2001.wk x.2) fun x v s' h =>
   lens_ofTA ali2001 [49, 50] (l := [TE.inlA ali18 [34] tys eqts [te34] [] tys_ok eqts_ok follows 18 Proofs.Try.f18 Proofs.Try.func18 (c := Proofs.Try.f18.body.get rfl) rfl (by decide) (by kernel_rfl) (growT_cons (fun _ _ _ _ h => clone_grown h) growT_nil (by decide)) H18 N, TE.lent 48 (t48 N) (k48 N (by omega)), te49, te50]) (s := []) tys_ok eqts_ok follows Proofs.Try.func30 (c := Proofs.Try.f30.body.get rfl) rfl (by kernel_rfl) (growT_cons (fun _ _ _ _ h => del_grown h) (growT_cons (fun _ _ _ _ h => insert_grown h) growT_nil (by decide)) (by decide)) (H := H2001) (N := N) (ms := [.give]) (shp := sh2001) (sho := sw2001)
     ((ev2001 (N := N) (E18 := fun n0 => mkTA ali18 Proofs.Try.prog n0 tys eqts [te34] []) (by omega) rfl rfl rfl rfl (fun _ _ => rfl) (fun _ _ => rfl) (fun _ _ => rfl) (fun _ _ => rfl) (fun _ => rfl) (fun _ => rfl) (fun _ => rfl) (fun _ => rfl) (fun _ _ _ => rfl) x.1.1 x.1.2.1 x.1.2.2.1 x.2.1.1 x.2.1.2.1).trans h) rfl (by decide)
theorem k2002 (N : Nat) (hN : N ≤ 4611686018427387904) : TSOk Proofs.Try.prog 31 1 (t2002 N) := TLS_ok (fun x => ar2002.wk x.1) (fun x => st2002.wk x.2) fun x v s' h =>
   lens_ofTA ali2002 [34] (l := [te34, te51, te52, TE.plain 48 (t48 N) (k48 N (by omega))]) (s := []) tys_ok eqts_ok follows Proofs.Try.func31 (c := Proofs.Try.f31.body.get rfl) rfl (by kernel_rfl) (growT_cons (fun _ _ _ _ h => clone_grown h) growT_nil (by decide)) (H := H2002) (N := N) (ms := [.give]) (shp := sh2002) (sho := sw2002)
     ((ev2002 (N := N) (by omega) rfl rfl rfl rfl (fun _ _ => rfl) (fun _ _ => rfl) (fun _ _ => rfl) (fun _ _ => rfl) x.1.1 x.1.2.1 x.2.1.1 x.2.1.2.1).trans h) rfl (by decide)
theorem k33 (N : Nat) (hN : N ≤ 4611686018427387904) : TOk Proofs.Try.prog 33 (t33 N) := TL_ok ar33.wk fun x v h =>
   pure_ofT (l := [TE.plain 46 (t46 N) (k46 N (by omega)), TE.plain 48 (t48 N) (k48 N (by omega)), TE.inl tys eqts [TE.inl tys eqts [TE.inl tys eqts [TE.plain 48 (t48 N) (k48 N (by omega))] [] tys_ok eqts_ok follows 54 Proofs.Try.f54 Proofs.Try.func54 (c := Proofs.Try.f54.body.get rfl) rfl (by decide) (by kernel_rfl) H54 N] [] tys_ok eqts_ok follows 69 Proofs.Try.f69 Proofs.Try.func69 (c := Proofs.Try.f69.body.get rfl) rfl (by decide) (by kernel_rfl) H69 N] [] tys_ok eqts_ok follows 53 Proofs.Try.f53 Proofs.Try.func53 (c := Proofs.Try.f53.body.get rfl) rfl (by decide) (by kernel_rfl) H53 N]) (s := []) tys_ok eqts_ok follows Proofs.Try.func33 (c := Proofs.Try.f33.body.get rfl) rfl (by decide) (by kernel_rfl)  (H := H33) (N := N) (shp := sh33)
     ((ev33 (E53 := fun n0 => mkT Proofs.Try.prog n0 tys eqts [TE.inl tys eqts [TE.inl tys eqts [TE.plain 48 (t48 N) (k48 N (by omega))] [] tys_ok eqts_ok follows 54 Proofs.Try.f54 Proofs.Try.func54 (c := Proofs.Try.f54.body.get rfl) rfl (by decide) (by kernel_rfl) H54 N] [] tys_ok eqts_ok follows 69 Proofs.Try.f69 Proofs.Try.func69 (c := Proofs.Try.f69.body.get rfl) rfl (by decide) (by kernel_rfl) H69 N] []) (E69 := fun n0 => mkT Proofs.Try.prog n0 tys eqts [TE.inl tys eqts [TE.plain 48 (t48 N) (k48 N (by omega))] [] tys_ok eqts_ok follows 54 Proofs.Try.f54 Proofs.Try.func54 (c := Proofs.Try.f54.body.get rfl) rfl (by decide) (by kernel_rfl) H54 N] []) (E54 := fun n0 => mkT Proofs.Try.prog n0 tys eqts [TE.plain 48 (t48 N) (k48 N (by omega))] []) (by omega) rfl rfl rfl rfl (fun _ _ => rfl) (fun _ _ => rfl) (fun _ _ => rfl) (fun _ => rfl) (fun _ => rfl) (fun _ => rfl) (fun _ => rfl) (fun _ _ _ => rfl) (fun _ => rfl) (fun _ => rfl) (fun _ => rfl) (fun _ => rfl) (fun _ _ _ => rfl) (fun _ => rfl) (fun _ => rfl) (fun _ => rfl) (fun _ => rfl) (fun _ _ _ => rfl) x.1 x.2).trans h) (ar33.da x)
theorem k32 : TOk Proofs.Try.prog 32 t32 := TL_ok ar32.wk fun x v h =>
   pure_ofT (l := []) (s := []) tys_ok eqts_ok follows Proofs.Try.func32 (c := Proofs.Try.f32.body.get rfl) rfl (by decide) (by kernel_rfl)  (H := H32) (N := 0) (shp := sh32)
     ((ev32 (by omega) rfl rfl rfl rfl  x).trans h) (ar32.da x)
theorem k2000 : ∀ (N : Nat), N ≤ 4611686018427387904 → TSOk Proofs.Try.prog 17 1 (t2000 N)
 | 0, _ => TLS_ok (fun x => ar2000.wk x.1) (fun x => st2000.wk x.2) fun x v s' h => by have h : none = some (v, s') := h; cases h
 | N + 1, hN => TLS_ok (fun x => ar2000.wk x.1) (fun x => st2000.wk x.2) fun x v s' h =>
   lens_ofT (l := [TE.lens 17 1 [.keep, .keep] (t2000 N) Proofs.Try.func17 (c := Proofs.Try.f17.body.get rfl) rfl (by decide) (k2000 N (by omega)), TE.inl tys eqts [TE.lent 25 (t25 N) (k25 N (by omega))] [] tys_ok eqts_ok follows 26 Proofs.Try.f26 Proofs.Try.func26 (c := Proofs.Try.f26.body.get rfl) rfl (by decide) (by kernel_rfl) H26 N, TE.inl tys eqts [] [] tys_ok eqts_ok follows 27 Proofs.Try.f27 Proofs.Try.func27 (c := Proofs.Try.f27.body.get rfl) rfl (by decide) (by kernel_rfl) H27 N, TE.inl tys eqts [TE.plain 47 (t47) k47, TE.inl tys eqts [] [] tys_ok eqts_ok follows 27 Proofs.Try.f27 Proofs.Try.func27 (c := Proofs.Try.f27.body.get rfl) rfl (by decide) (by kernel_rfl) H27 N] [] tys_ok eqts_ok follows 28 Proofs.Try.f28 Proofs.Try.func28 (c := Proofs.Try.f28.body.get rfl) rfl (by decide) (by kernel_rfl) H28 N, TE.plain 29 (t29 N) (k29 N (by omega)), TE.lens 30 1 [.keep, .keep, .keep, .keep] (t2001 N) Proofs.Try.func30 (c := Proofs.Try.f30.body.get rfl) rfl (by decide) (k2001 N (by omega)), TE.lens 31 1 [.keep, .keep, .give] (t2002 N) Proofs.Try.func31 (c := Proofs.Try.f31.body.get rfl) rfl (by decide) (k2002 N (by omega)), TE.lent 33 (t33 N) (k33 N (by omega)), TE.plain 32 (t32) k32]) (s := []) tys_ok eqts_ok follows Proofs.Try.func17 (c := Proofs.Try.f17.body.get rfl) rfl (by kernel_rfl)  (H := H2000) (N := N) (ms := [.give]) (shp := sh2000) (sho := sw2000)
     ((ev2000 (N := N) (E26 := fun n0 => mkT Proofs.Try.prog n0 tys eqts [TE.lent 25 (t25 N) (k25 N (by omega))] []) (E27 := fun n0 => mkT Proofs.Try.prog n0 tys eqts [] []) (E28 := fun n0 => mkT Proofs.Try.prog n0 tys eqts [TE.plain 47 (t47) k47, TE.inl tys eqts [] [] tys_ok eqts_ok follows 27 Proofs.Try.f27 Proofs.Try.func27 (c := Proofs.Try.f27.body.get rfl) rfl (by decide) (by kernel_rfl) H27 N] []) (by omega) (F1399 N) rfl rfl rfl rfl (fun _ _ => rfl) (fun _ _ => rfl) (fun _ _ => rfl) (fun _ _ => rfl) (fun _ _ => rfl) (fun _ _ => rfl) (fun _ _ => rfl) (fun _ _ => rfl) (fun _ _ => rfl) (fun _ => rfl) (fun _ => rfl) (fun _ => rfl) (fun _ => rfl) (fun _ _ _ => rfl) (fun _ => rfl) (fun _ => rfl) (fun _ => rfl) (fun _ => rfl) (fun _ => rfl) (fun _ => rfl) (fun _ => rfl) (fun _ => rfl) (fun _ _ _ => rfl) (fun _ _ _ => rfl) x.1.1 x.2.1.1 x.2.1.2.1).trans h) rfl (by decide)
theorem k11 (N : Nat) (hN : N ≤ 4611686018427387904) : TOk Proofs.Try.prog 11 (t11 N) := TL_ok ar11.wk fun x v h =>
   pure_ofT (l := [TE.plain 14 (t14 N) (k14 N (by omega)), TE.plain 15 (t15) k15, TE.plain 16 (t16 N) (k16 N (by omega)), TE.lens 17 1 [.keep, .keep] (t2000 N) Proofs.Try.func17 (c := Proofs.Try.f17.body.get rfl) rfl (by decide) (k2000 N (by omega)), TE.inlA ali18 [34] tys eqts [te34] [] tys_ok eqts_ok follows 18 Proofs.Try.f18 Proofs.Try.func18 (c := Proofs.Try.f18.body.get rfl) rfl (by decide) (by kernel_rfl) (growT_cons (fun _ _ _ _ h => clone_grown h) growT_nil (by decide)) H18 N]) (s := []) tys_ok eqts_ok follows Proofs.Try.func11 (c := Proofs.Try.f11.body.get rfl) rfl (by decide) (by kernel_rfl)  (H := H11) (N := N) (shp := sh11)
     ((ev11 (E18 := fun n0 => mkTA ali18 Proofs.Try.prog n0 tys eqts [te34] []) (by omega) rfl rfl rfl rfl (fun _ _ => rfl) (fun _ _ => rfl) (fun _ _ => rfl) (fun _ _ => rfl) (fun _ _ => rfl) (fun _ => rfl) (fun _ => rfl) (fun _ => rfl) (fun _ => rfl) (fun _ _ _ => rfl) x.1 x.2.1 x.2.2).trans h) (ar11.da x)
theorem k8 (N : Nat) (hN : N ≤ 4611686018427387904) : TOk Proofs.Try.prog 8 (t8 N) := TL_ok ar8.wk fun x v h =>
   pure_ofT (l := [TE.plain 11 (t11 N) (k11 N (by omega))]) (s := []) tys_ok eqts_ok follows Proofs.Try.func8 (c := Proofs.Try.f8.body.get rfl) rfl (by decide) (by kernel_rfl)  (H := H8) (N := N) (shp := sh8)
     ((ev8 (by omega) rfl rfl rfl rfl (fun _ _ => rfl) x.1 x.2).trans h) (ar8.da x)
theorem k4 (N : Nat) (hN : N ≤ 4611686018427387904) : TOk Proofs.Try.prog 4 (t4 N) := TL_ok ar4.wk fun x v h =>
   pure_ofT (l := [TE.plain 8 (t8 N) (k8 N (by omega))]) (s := []) tys_ok eqts_ok follows Proofs.Try.func4 (c := Proofs.Try.f4.body.get rfl) rfl (by decide) (by kernel_rfl)  (H := H4) (N := N) (shp := sh4)
     ((ev4 (by omega) rfl rfl rfl rfl (fun _ _ => rfl) ).trans h) (ar4.da x)
theorem k5 : ∀ (N : Nat), N ≤ 4611686018427387904 → TOk Proofs.Try.prog 5 (t5 N)
 | 0, _ => TL_ok ar5.wk fun x v h => by have h : none = some v := h; cases h
 | N + 1, hN => TL_ok ar5.wk fun x v h =>
   pure_ofT (l := [TE.plain 5 (t5 N) (k5 N (by omega))]) (s := []) tys_ok eqts_ok follows Proofs.Try.func5 (c := Proofs.Try.f5.body.get rfl) rfl (by decide) (by kernel_rfl)  (H := H5) (N := N) (shp := sh5)
     ((ev5 (by omega) (F28 N) rfl rfl rfl rfl (fun _ _ => rfl) x).trans h) (ar5.da x)
theorem k13 : TOk Proofs.Try.prog 13 t13 := TL_ok ar13.wk fun x v h =>
   pure_ofT (l := []) (s := []) tys_ok eqts_ok follows Proofs.Try.func13 (c := Proofs.Try.f13.body.get rfl) rfl (by decide) (by kernel_rfl)  (H := H13) (N := 0) (shp := sh13)
     ((ev13 (by omega) rfl rfl rfl rfl  x).trans h) (ar13.da x)
theorem k10 (N : Nat) (hN : N ≤ 4611686018427387904) : TOk Proofs.Try.prog 10 (t10 N) := TL_ok ar10.wk fun x v h =>
   pure_ofT (l := [TE.plain 13 (t13) k13]) (s := []) tys_ok eqts_ok follows Proofs.Try.func10 (c := Proofs.Try.f10.body.get rfl) rfl (by decide) (by kernel_rfl)  (H := H10) (N := N) (shp := sh10)
     ((ev10 (by omega) rfl rfl rfl rfl (fun _ _ => rfl) x).trans h) (ar10.da x)
theorem k6 (N : Nat) (hN : N ≤ 4611686018427387904) : TOk Proofs.Try.prog 6 (t6 N) := TL_ok ar6.wk fun x v h =>
   pure_ofT (l := [TE.plain 10 (t10 N) (k10 N (by omega))]) (s := []) tys_ok eqts_ok follows Proofs.Try.func6 (c := Proofs.Try.f6.body.get rfl) rfl (by decide) (by kernel_rfl)  (H := H6) (N := N) (shp := sh6)
     ((ev6 (by omega) rfl rfl rfl rfl (fun _ _ => rfl) x).trans h) (ar6.da x)
theorem k7 : ∀ (N : Nat), N ≤ 4611686018427387904 → TOk Proofs.Try.prog 7 (t7 N)
 | 0, _ => TL_ok ar7.wk fun x v h => by have h : none = some v := h; cases h
 | N + 1, hN => TL_ok ar7.wk fun x v h =>
   pure_ofT (l := [TE.plain 7 (t7 N) (k7 N (by omega))]) (s := []) tys_ok eqts_ok follows Proofs.Try.func7 (c := Proofs.Try.f7.body.get rfl) rfl (by decide) (by kernel_rfl)  (H := H7) (N := N) (shp := sh7)
     ((ev7 (by omega) (F27 N) rfl rfl rfl rfl (fun _ _ => rfl) x).trans h) (ar7.da x)
theorem k12 (N : Nat) (hN : N ≤ 4611686018427387904) : TOk Proofs.Try.prog 12 (t12 N) := TL_ok ar12.wk fun x v h =>
   pure_ofT (l := []) (s := []) tys_ok eqts_ok follows Proofs.Try.func12 (c := Proofs.Try.f12.body.get rfl) rfl (by decide) (by kernel_rfl)  (H := H12) (N := N) (shp := sh12)
     ((ev12 (by omega) rfl rfl rfl rfl  x.1 x.2).trans h) (ar12.da x)
theorem k9 (N : Nat) (hN : N ≤ 4611686018427387904) : TOk Proofs.Try.prog 9 (t9 N) := TL_ok ar9.wk fun x v h =>
   pure_ofT (l := [TE.plain 12 (t12 N) (k12 N (by omega))]) (s := []) tys_ok eqts_ok follows Proofs.Try.func9 (c := Proofs.Try.f9.body.get rfl) rfl (by decide) (by kernel_rfl)  (H := H9) (N := N) (shp := sh9)
     ((ev9 (by omega) rfl rfl rfl rfl (fun _ _ => rfl) x.1 x.2).trans h) (ar9.da x)
theorem k3 (N : Nat) (hN : N ≤ 4611686018427387904) : TOk Proofs.Try.prog 3 (t3 N) := TL_ok ar3.wk fun x v h =>
   pure_ofT (l := [TE.plain 4 (t4 N) (k4 N (by omega)), TE.plain 5 (t5 N) (k5 N (by omega)), TE.plain 6 (t6 N) (k6 N (by omega)), TE.plain 7 (t7 N) (k7 N (by omega)), TE.plain 8 (t8 N) (k8 N (by omega)), TE.plain 9 (t9 N) (k9 N (by omega))]) (s := []) tys_ok eqts_ok follows Proofs.Try.func3 (c := Proofs.Try.f3.body.get rfl) rfl (by decide) (by kernel_rfl)  (H := H3) (N := N) (shp := sh3)
     ((ev3 (by omega) rfl rfl rfl rfl (fun _ _ => rfl) (fun _ _ => rfl) (fun _ _ => rfl) (fun _ _ => rfl) (fun _ _ => rfl) (fun _ _ => rfl) x.1 x.2.1 x.2.2.1 x.2.2.2.1 x.2.2.2.2).trans h) (ar3.da x)
end Go.Abs.Try
