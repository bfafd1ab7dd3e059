import Derived.Test.YtjealnlacmfbiaaXV0
import Derived.Test.YtjealnlacmfbiaaXV1
import Derived.Test.YtjealnlacmfbiaaXV2
import Derived.Test.YtjealnlacmfbiaaXV3
import Derived.Test.YtjealnlacmfbiaaXV4
import Derived.Test.YtjealnlacmfbiaaXV5
import Derived.Test.YtjealnlacmfbiaaXCmp
set_option linter.unusedSimpArgs false
set_option linter.unusedVariables false
namespace Go.Abs.Try
open Go.RowKit
set_option maxRecDepth 100000
set_option maxHeartbeats 4000000
theorem k10 : TOk Proofs.Try.prog 10 t10 := TL_ok ar10.wk fun x v h =>
   pure_ofT (l := [TE.plain 16 (t16) k16]) (s := [se38]) tys_ok eqts_ok follows Proofs.Try.func10 (c := Proofs.Try.f10.body.get rfl) rfl (by decide) (by kernel_rfl)  (H := H10) (N := 0) (shp := sh10)
     ((ev10 (by omega) rfl rfl rfl rfl (fun _ _ => rfl) (fun _ => rfl) x).trans h) (ar10.da x)
theorem k35 : ∀ (N : Nat), N ≤ 4611686018427387904 → TOk Proofs.Try.prog 35 (t35 N)
 | 0, _ => TL_ok ar35.wk fun x v h => by have h : none = some v := h; cases h
 | N + 1, hN => TL_ok ar35.wk fun x v h =>
   pure_ofT (l := [TE.plain 35 (t35 N) (k35 N (by omega))]) (s := []) tys_ok eqts_ok follows Proofs.Try.func35 (c := Proofs.Try.f35.body.get rfl) rfl (by decide) (by kernel_rfl)  (H := H35) (N := N) (shp := sh35)
     ((ev35 (by omega) (F38 N) rfl rfl rfl rfl (fun _ _ => rfl) x).trans h) (ar35.da x)
theorem k13 (N : Nat) (hN : N ≤ 4611686018427387904) : TOk Proofs.Try.prog 13 (t13 N) := TL_ok ar13.wk fun x v h =>
   pure_ofT (l := [TE.plain 10 (t10) k10, TE.plain 35 (t35 N) (k35 N (by omega))]) (s := []) tys_ok eqts_ok follows Proofs.Try.func13 (c := Proofs.Try.f13.body.get rfl) rfl (by decide) (by kernel_rfl)  (H := H13) (N := N) (shp := sh13)
     ((ev13 (by omega) rfl rfl rfl rfl (fun _ _ => rfl) (fun _ _ => rfl) x).trans h) (ar13.da x)
theorem k63 : TOk Proofs.Try.prog 63 t63 := TL_ok ar63.wk fun x v h =>
   pure_ofT (l := []) (s := []) tys_ok eqts_ok follows Proofs.Try.func63 (c := Proofs.Try.f63.body.get rfl) rfl (by decide) (by kernel_rfl)  (H := H63) (N := 0) (shp := sh63)
     ((ev63 (by omega) rfl rfl rfl rfl  x).trans h) (ar63.da x)
theorem k64 : TOk Proofs.Try.prog 64 t64 := TL_ok ar64.wk fun x v h =>
   pure_ofT (l := []) (s := []) tys_ok eqts_ok follows Proofs.Try.func64 (c := Proofs.Try.f64.body.get rfl) rfl (by decide) (by kernel_rfl)  (H := H64) (N := 0) (shp := sh64)
     ((ev64 (by omega) rfl rfl rfl rfl  x).trans h) (ar64.da x)
theorem k54 (N : Nat) (hN : N ≤ 4611686018427387904) : TOk Proofs.Try.prog 54 (t54 N) := TL_ok ar54.wk fun x v h =>
   pure_ofT (l := [TE.plain 63 (t63) k63, TE.plain 64 (t64) k64]) (s := []) tys_ok eqts_ok follows Proofs.Try.func54 (c := Proofs.Try.f54.body.get rfl) rfl (by decide) (by kernel_rfl)  (H := H54) (N := N) (shp := sh54)
     ((ev54 (by omega) rfl rfl rfl rfl (fun _ _ => rfl) (fun _ _ => rfl) x).trans h) (ar54.da x)
theorem k40 (N : Nat) (hN : N ≤ 4611686018427387904) : TOk Proofs.Try.prog 40 (t40 N) := TL_ok ar40.wk fun x v h =>
   pure_ofT (l := [TE.plain 54 (t54 N) (k54 N (by omega))]) (s := []) tys_ok eqts_ok follows Proofs.Try.func40 (c := Proofs.Try.f40.body.get rfl) rfl (by decide) (by kernel_rfl)  (H := H40) (N := N) (shp := sh40)
     ((ev40 (by omega) rfl rfl rfl rfl (fun _ _ => rfl) x).trans h) (ar40.da x)
theorem k30 (N : Nat) (hN : N ≤ 4611686018427387904) : TOk Proofs.Try.prog 30 (t30 N) := TL_ok ar30.wk fun x v h =>
   pure_ofT (l := []) (s := []) tys_ok eqts_ok follows Proofs.Try.func30 (c := Proofs.Try.f30.body.get rfl) rfl (by decide) (by kernel_rfl)  (H := H30) (N := N) (shp := sh30)
     ((ev30 (by omega) rfl rfl rfl rfl  x).trans h) (ar30.da x)
theorem k55 : TOk Proofs.Try.prog 55 t55 := TL_ok ar55.wk fun x v h =>
   pure_ofT (l := []) (s := []) tys_ok eqts_ok follows Proofs.Try.func55 (c := Proofs.Try.f55.body.get rfl) rfl (by decide) (by kernel_rfl)  (H := H55) (N := 0) (shp := sh55)
     ((ev55 (by omega) rfl rfl rfl rfl  x).trans h) (ar55.da x)
theorem k56 (N : Nat) (hN : N ≤ 4611686018427387904) : TOk Proofs.Try.prog 56 (t56 N) := TL_ok ar56.wk fun x v h =>
   pure_ofT (l := []) (s := []) tys_ok eqts_ok follows Proofs.Try.func56 (c := Proofs.Try.f56.body.get rfl) rfl (by decide) (by kernel_rfl)  (H := H56) (N := N) (shp := sh56)
     ((ev56 (by omega) rfl rfl rfl rfl  x.1 x.2).trans h) (ar56.da x)
theorem k41 (N : Nat) (hN : N ≤ 4611686018427387904) : TOk Proofs.Try.prog 41 (t41 N) := TL_ok ar41.wk fun x v h =>
   pure_ofT (l := [TE.plain 30 (t30 N) (k30 N (by omega)), TE.plain 55 (t55) k55, TE.lent 56 (t56 N) (k56 N (by omega)), TE.inl tys eqts [] [] tys_ok eqts_ok follows 57 Proofs.Try.f57 Proofs.Try.func57 (c := Proofs.Try.f57.body.get rfl) rfl (by decide) (by kernel_rfl) H57 N]) (s := []) tys_ok eqts_ok follows Proofs.Try.func41 (c := Proofs.Try.f41.body.get rfl) rfl (by decide) (by kernel_rfl)  (H := H41) (N := N) (shp := sh41)
     ((ev41 (E57 := fun n0 => mkT Proofs.Try.prog n0 tys eqts [] []) (by omega) rfl rfl rfl rfl (fun _ _ => rfl) (fun _ _ => rfl) (fun _ _ => rfl) (fun _ _ => rfl) (fun _ => rfl) (fun _ => rfl) (fun _ => rfl) (fun _ => rfl) x).trans h) (ar41.da x)
theorem k19 (N : Nat) (hN : N ≤ 4611686018427387904) : TOk Proofs.Try.prog 19 (t19 N) := TL_ok ar19.wk fun x v h =>
   pure_ofT (l := [TE.plain 16 (t16) k16, TE.plain 40 (t40 N) (k40 N (by omega)), TE.plain 41 (t41 N) (k41 N (by omega))]) (s := [se38]) tys_ok eqts_ok follows Proofs.Try.func19 (c := Proofs.Try.f19.body.get rfl) rfl (by decide) (by kernel_rfl)  (H := H19) (N := N) (shp := sh19)
     ((ev19 (by omega) rfl rfl rfl rfl (fun _ _ => rfl) (fun _ _ => rfl) (fun _ _ => rfl) (fun _ => rfl) x).trans h) (ar19.da x)
theorem k20 : TOk Proofs.Try.prog 20 t20 := TL_ok ar20.wk fun x v h =>
   pure_ofT (l := [TE.plain 16 (t16) k16]) (s := [se38]) tys_ok eqts_ok follows Proofs.Try.func20 (c := Proofs.Try.f20.body.get rfl) rfl (by decide) (by kernel_rfl)  (H := H20) (N := 0) (shp := sh20)
     ((ev20 (by omega) rfl rfl rfl rfl (fun _ _ => rfl) (fun _ => rfl) x).trans h) (ar20.da x)
theorem k9 (N : Nat) (hN : N ≤ 4611686018427387904) : TOk Proofs.Try.prog 9 (t9 N) := TL_ok ar9.wk fun x v h =>
   pure_ofT (l := [TE.plain 13 (t13 N) (k13 N (by omega)), TE.plain 19 (t19 N) (k19 N (by omega)), TE.plain 20 (t20) k20, TE.plain 30 (t30 N) (k30 N (by omega))]) (s := []) tys_ok eqts_ok follows Proofs.Try.func9 (c := Proofs.Try.f9.body.get rfl) rfl (by decide) (by kernel_rfl)  (H := H9) (N := N) (shp := sh9)
     ((ev9 (by omega) rfl rfl rfl rfl (fun _ _ => rfl) (fun _ _ => rfl) (fun _ _ => rfl) (fun _ _ => rfl) x.1 x.2).trans h) (ar9.da x)
theorem k34 : TOk Proofs.Try.prog 34 t34 := TL_ok ar34.wk fun x v h =>
   pure_ofT (l := []) (s := []) tys_ok eqts_ok follows Proofs.Try.func34 (c := Proofs.Try.f34.body.get rfl) rfl (by decide) (by kernel_rfl)  (H := H34) (N := 0) (shp := sh34)
     ((ev34 (by omega) rfl rfl rfl rfl  x.1 x.2).trans h) (ar34.da x)
theorem k32 : TOk Proofs.Try.prog 32 t32 := TL_ok ar32.wk fun x v h =>
   pure_ofT (l := [TE.plain 33 (t33) k33, TE.plain 34 (t34) k34]) (s := []) tys_ok eqts_ok follows Proofs.Try.func32 (c := Proofs.Try.f32.body.get rfl) rfl (by decide) (by kernel_rfl)  (H := H32) (N := 0) (shp := sh32)
     ((ev32 (by omega) rfl rfl rfl rfl (fun _ _ => rfl) (fun _ _ => rfl) x.1 x.2).trans h) (ar32.da x)
theorem k11 (N : Nat) (hN : N ≤ 4611686018427387904) : TOk Proofs.Try.prog 11 (t11 N) := TL_ok ar11.wk fun x v h =>
   pure_ofT (l := [TE.plain 16 (t16) k16, TE.inl tys eqts [TE.inl tys eqts [TE.plain 32 (t32) k32] [] tys_ok eqts_ok follows 51 Proofs.Try.f51 Proofs.Try.func51 (c := Proofs.Try.f51.body.get rfl) rfl (by decide) (by kernel_rfl) H51 N, te52] [] tys_ok eqts_ok follows 31 Proofs.Try.f31 Proofs.Try.func31 (c := Proofs.Try.f31.body.get rfl) rfl (by decide) (by kernel_rfl) H31 N]) (s := [se38]) tys_ok eqts_ok follows Proofs.Try.func11 (c := Proofs.Try.f11.body.get rfl) rfl (by decide) (by kernel_rfl)  (H := H11) (N := N) (shp := sh11)
     ((ev11 (E31 := fun n0 => mkT Proofs.Try.prog n0 tys eqts [TE.inl tys eqts [TE.plain 32 (t32) k32] [] tys_ok eqts_ok follows 51 Proofs.Try.f51 Proofs.Try.func51 (c := Proofs.Try.f51.body.get rfl) rfl (by decide) (by kernel_rfl) H51 N, te52] []) (E51 := fun n0 => mkT Proofs.Try.prog n0 tys eqts [TE.plain 32 (t32) k32] []) (by omega) rfl rfl rfl rfl (fun _ _ => rfl) (fun _ _ => rfl) (fun _ => rfl) (fun _ => rfl) (fun _ => rfl) (fun _ => rfl) (fun _ => rfl) (fun _ _ _ => rfl) (fun _ _ _ => rfl) (fun _ => rfl) (fun _ => rfl) (fun _ => rfl) (fun _ => rfl) (fun _ _ _ => rfl) x).trans h) (ar11.da x)
theorem k4 (N : Nat) (hN : N ≤ 4611686018427387904) : TOk Proofs.Try.prog 4 (t4 N) := TL_ok ar4.wk fun x v h =>
   pure_ofT (l := [TE.plain 9 (t9 N) (k9 N (by omega)), TE.plain 10 (t10) k10, TE.plain 11 (t11 N) (k11 N (by omega))]) (s := []) tys_ok eqts_ok follows Proofs.Try.func4 (c := Proofs.Try.f4.body.get rfl) rfl (by decide) (by kernel_rfl)  (H := H4) (N := N) (shp := sh4)
     ((ev4 (by omega) rfl rfl rfl rfl (fun _ _ => rfl) (fun _ _ => rfl) (fun _ _ => rfl) ).trans h) (ar4.da x)
theorem k12 : ∀ (N : Nat), N ≤ 4611686018427387904 → TOk Proofs.Try.prog 12 (t12 N)
 | 0, _ => TL_ok ar12.wk fun x v h => by have h : none = some v := h; cases h
 | N + 1, hN => TL_ok ar12.wk fun x v h =>
   pure_ofT (l := [TE.plain 12 (t12 N) (k12 N (by omega))]) (s := []) tys_ok eqts_ok follows Proofs.Try.func12 (c := Proofs.Try.f12.body.get rfl) rfl (by decide) (by kernel_rfl)  (H := H12) (N := N) (shp := sh12)
     ((ev12 (by omega) (F27 N) rfl rfl rfl rfl (fun _ _ => rfl) x).trans h) (ar12.da x)
theorem k5 (N : Nat) (hN : N ≤ 4611686018427387904) : TOk Proofs.Try.prog 5 (t5 N) := TL_ok ar5.wk fun x v h =>
   pure_ofT (l := [TE.plain 12 (t12 N) (k12 N (by omega))]) (s := []) tys_ok eqts_ok follows Proofs.Try.func5 (c := Proofs.Try.f5.body.get rfl) rfl (by decide) (by kernel_rfl)  (H := H5) (N := N) (shp := sh5)
     ((ev5 (by omega) rfl rfl rfl rfl (fun _ _ => rfl) x.1 x.2).trans h) (ar5.da x)
theorem k2000 : TSOk Proofs.Try.prog 17 3 t2000 := TLS_ok (fun x => ar2000.wk x.1) (fun x => st2000.wk x.2) fun x v s' h =>
   lens_ofT (l := []) (s := []) tys_ok eqts_ok follows Proofs.Try.func17 (c := Proofs.Try.f17.body.get rfl) rfl (by kernel_rfl)  (H := H2000) (N := 0) (ms := [.give]) (shp := sh2000) (sho := sw2000)
     ((ev2000 (N := 0) (by omega) rfl rfl rfl rfl  x.1.1 x.2.2.1 x.2.2.2.1).trans h) rfl (by decide)
theorem k2001 : ∀ (N : Nat), N ≤ 4611686018427387904 → TSOk Proofs.Try.prog 18 3 (t2001 N)
 | 0, _ => TLS_ok (fun x => ar2001.wk x.1) (fun x => st2001.wk x.2) fun x v s' h => by have h : none = some (v, s') := h; cases h
 | N + 1, hN => TLS_ok (fun x => ar2001.wk x.1) (fun x => st2001.wk x.2) fun x v s' h =>
   lens_ofT (l := [TE.lens 18 3 [.keep, .keep] (t2001 N) Proofs.Try.func18 (c := Proofs.Try.f18.body.get rfl) rfl (by decide) (k2001 N (by omega)), TE.plain 30 (t30 N) (k30 N (by omega))]) (s := []) tys_ok eqts_ok follows Proofs.Try.func18 (c := Proofs.Try.f18.body.get rfl) rfl (by kernel_rfl)  (H := H2001) (N := N) (ms := [.give]) (shp := sh2001) (sho := sw2001)
     ((ev2001 (N := N) (by omega) (F1391 N) rfl rfl rfl rfl (fun _ _ => rfl) (fun _ _ => rfl) x.1.1 x.2.2.1 x.2.2.2.1).trans h) rfl (by decide)
theorem k2002 (N : Nat) (hN : N ≤ 4611686018427387904) : TSOk Proofs.Try.prog 21 3 (t2002 N) := TLS_ok (fun x => ar2002.wk x.1) (fun x => st2002.wk x.2) fun x v s' h =>
   lens_ofT (l := [TE.plain 16 (t16) k16, TE.plain 30 (t30 N) (k30 N (by omega))]) (s := [se38]) tys_ok eqts_ok follows Proofs.Try.func21 (c := Proofs.Try.f21.body.get rfl) rfl (by kernel_rfl)  (H := H2002) (N := N) (ms := [.give]) (shp := sh2002) (sho := sw2002)
     ((ev2002 (N := N) (by omega) rfl rfl rfl rfl (fun _ _ => rfl) (fun _ _ => rfl) (fun _ => rfl) x.1.1 x.2.2.1 x.2.2.2.1).trans h) rfl (by decide)
theorem k6 (N : Nat) (hN : N ≤ 4611686018427387904) : TOk Proofs.Try.prog 6 (t6 N) := TL_ok ar6.wk fun x v h =>
   pure_ofT (l := [TE.plain 13 (t13 N) (k13 N (by omega)), TE.plain 14 (t14) k14, TE.plain 15 (t15) k15, TE.plain 16 (t16) k16, TE.lens 17 3 [.keep, .keep] (t2000) Proofs.Try.func17 (c := Proofs.Try.f17.body.get rfl) rfl (by decide) k2000, TE.lens 18 3 [.keep, .keep] (t2001 N) Proofs.Try.func18 (c := Proofs.Try.f18.body.get rfl) rfl (by decide) (k2001 N (by omega)), TE.plain 19 (t19 N) (k19 N (by omega)), TE.plain 20 (t20) k20, TE.lens 21 3 [.keep, .keep] (t2002 N) Proofs.Try.func21 (c := Proofs.Try.f21.body.get rfl) rfl (by decide) (k2002 N (by omega))]) (s := [se36, se37, se38]) tys_ok eqts_ok follows Proofs.Try.func6 (c := Proofs.Try.f6.body.get rfl) rfl (by decide) (by kernel_rfl)  (H := H6) (N := N) (shp := sh6)
     ((ev6 (by omega) rfl rfl rfl rfl (fun _ _ => rfl) (fun _ _ => rfl) (fun _ _ => rfl) (fun _ _ => rfl) (fun _ _ => rfl) (fun _ _ => rfl) (fun _ _ => rfl) (fun _ _ => rfl) (fun _ _ => rfl) (fun _ => rfl) (fun _ => rfl) (fun _ => rfl) x.1 x.2.1 x.2.2).trans h) (ar6.da x)
theorem k22 : ∀ (N : Nat), N ≤ 4611686018427387904 → TOk Proofs.Try.prog 22 (t22 N)
 | 0, _ => TL_ok ar22.wk fun x v h => by have h : none = some v := h; cases h
 | N + 1, hN => TL_ok ar22.wk fun x v h =>
   pure_ofT (l := [TE.plain 22 (t22 N) (k22 N (by omega))]) (s := []) tys_ok eqts_ok follows Proofs.Try.func22 (c := Proofs.Try.f22.body.get rfl) rfl (by decide) (by kernel_rfl)  (H := H22) (N := N) (shp := sh22)
     ((ev22 (by omega) (F39 N) rfl rfl rfl rfl (fun _ _ => rfl) x).trans h) (ar22.da x)
theorem k42 (N : Nat) (hN : N ≤ 4611686018427387904) : TOk Proofs.Try.prog 42 (t42 N) := TL_ok ar42.wk fun x v h =>
   pure_ofT (l := []) (s := []) tys_ok eqts_ok follows Proofs.Try.func42 (c := Proofs.Try.f42.body.get rfl) rfl (by decide) (by kernel_rfl)  (H := H42) (N := N) (shp := sh42)
     ((ev42 (by omega) rfl rfl rfl rfl  x.1 x.2).trans h) (ar42.da x)
theorem k43 (N : Nat) (hN : N ≤ 4611686018427387904) : TOk Proofs.Try.prog 43 (t43 N) := TL_ok ar43.wk fun x v h =>
   pure_ofT (l := []) (s := []) tys_ok eqts_ok follows Proofs.Try.func43 (c := Proofs.Try.f43.body.get rfl) rfl (by decide) (by kernel_rfl)  (H := H43) (N := N) (shp := sh43)
     ((ev43 (by omega) rfl rfl rfl rfl  x.1 x.2).trans h) (ar43.da x)
theorem k23 : ∀ (N : Nat), N ≤ 4611686018427387904 → TOk Proofs.Try.prog 23 (t23 N)
 | 0, _ => TL_ok ar23.wk fun x v h => by have h : none = some v := h; cases h
 | N + 1, hN => TL_ok ar23.wk fun x v h =>
   pure_ofT (l := [TE.plain 42 (t42 N) (k42 N (by omega)), TE.plain 43 (t43 N) (k43 N (by omega)), TE.plain 23 (t23 N) (k23 N (by omega))]) (s := []) tys_ok eqts_ok follows Proofs.Try.func23 (c := Proofs.Try.f23.body.get rfl) rfl (by decide) (by kernel_rfl)  (H := H23) (N := N) (shp := sh23)
     ((ev23 (by omega) (F103 N) rfl rfl rfl rfl (fun _ _ => rfl) (fun _ _ => rfl) (fun _ _ => rfl) x.1 x.2.1 x.2.2).trans h) (ar23.da x)
theorem k24 : ∀ (N : Nat), N ≤ 4611686018427387904 → TOk Proofs.Try.prog 24 (t24 N)
 | 0, _ => TL_ok ar24.wk fun x v h => by have h : none = some v := h; cases h
 | N + 1, hN => TL_ok ar24.wk fun x v h =>
   pure_ofT (l := [TE.plain 43 (t43 N) (k43 N (by omega)), TE.plain 24 (t24 N) (k24 N (by omega))]) (s := []) tys_ok eqts_ok follows Proofs.Try.func24 (c := Proofs.Try.f24.body.get rfl) rfl (by decide) (by kernel_rfl)  (H := H24) (N := N) (shp := sh24)
     ((ev24 (by omega) (F104 N) rfl rfl rfl rfl (fun _ _ => rfl) (fun _ _ => rfl) x.1 x.2).trans h) (ar24.da x)
theorem k44 : ∀ (N : Nat), N ≤ 4611686018427387904 → TOk Proofs.Try.prog 44 (t44 N)
 | 0, _ => TL_ok ar44.wk fun x v h => by have h : none = some v := h; cases h
 | N + 1, hN => TL_ok ar44.wk fun x v h =>
   pure_ofT (l := [TE.plain 44 (t44 N) (k44 N (by omega))]) (s := []) tys_ok eqts_ok follows Proofs.Try.func44 (c := Proofs.Try.f44.body.get rfl) rfl (by decide) (by kernel_rfl)  (H := H44) (N := N) (shp := sh44)
     ((ev44 (by omega) (F28 N) rfl rfl rfl rfl (fun _ _ => rfl) x).trans h) (ar44.da x)
theorem k25 : ∀ (N : Nat), N ≤ 4611686018427387904 → TOk Proofs.Try.prog 25 (t25 N)
 | 0, _ => TL_ok ar25.wk fun x v h => by have h : none = some v := h; cases h
 | N + 1, hN => TL_ok ar25.wk fun x v h =>
   pure_ofTA ali25 [] (l := [TE.plain 25 (t25 N) (k25 N (by omega)), TE.plain 42 (t42 N) (k42 N (by omega)), TE.plain 43 (t43 N) (k43 N (by omega)), TE.plain 44 (t44 N) (k44 N (by omega))]) (s := []) tys_ok eqts_ok follows Proofs.Try.func25 (c := Proofs.Try.f25.body.get rfl) rfl (by decide) (by kernel_rfl) growT_nil (H := H25) (N := N) (shp := sh25)
     ((ev25 (by omega) (F105 N) rfl rfl rfl rfl (fun _ _ => rfl) (fun _ _ => rfl) (fun _ _ => rfl) (fun _ _ => rfl) x.1 x.2.1 x.2.2).trans h) (ar25.da x)
theorem k65 : TOk Proofs.Try.prog 65 t65 := TL_ok ar65.wk fun x v h =>
   pure_ofT (l := []) (s := []) tys_ok eqts_ok follows Proofs.Try.func65 (c := Proofs.Try.f65.body.get rfl) rfl (by decide) (by kernel_rfl)  (H := H65) (N := 0) (shp := sh65)
     ((ev65 (by omega) rfl rfl rfl rfl  x).trans h) (ar65.da x)
theorem k70 : TOk Proofs.Try.prog 70 t70 := TL_ok ar70.wk fun x v h =>
   pure_ofT (l := []) (s := []) tys_ok eqts_ok follows Proofs.Try.func70 (c := Proofs.Try.f70.body.get rfl) rfl (by decide) (by kernel_rfl)  (H := H70) (N := 0) (shp := sh70)
     ((ev70 (by omega) rfl rfl rfl rfl  ).trans h) (ar70.da x)
theorem k66 (N : Nat) (hN : N ≤ 4611686018427387904) : TOk Proofs.Try.prog 66 (t66 N) := TL_ok ar66.wk fun x v h =>
   pure_ofT (l := [TE.plain 70 (t70) k70]) (s := []) tys_ok eqts_ok follows Proofs.Try.func66 (c := Proofs.Try.f66.body.get rfl) rfl (by decide) (by kernel_rfl)  (H := H66) (N := N) (shp := sh66)
     ((ev66 (by omega) rfl rfl rfl rfl (fun _ _ => rfl) x).trans h) (ar66.da x)
theorem k67 : TOk Proofs.Try.prog 67 t67 := TL_ok ar67.wk fun x v h =>
   pure_ofT (l := []) (s := []) tys_ok eqts_ok follows Proofs.Try.func67 (c := Proofs.Try.f67.body.get rfl) rfl (by decide) (by kernel_rfl)  (H := H67) (N := 0) (shp := sh67)
     ((ev67 (by omega) rfl rfl rfl rfl  x).trans h) (ar67.da x)
theorem k58 (N : Nat) (hN : N ≤ 4611686018427387904) : TOk Proofs.Try.prog 58 (t58 N) := TL_ok ar58.wk fun x v h =>
   pure_ofT (l := [TE.plain 65 (t65) k65, TE.plain 66 (t66 N) (k66 N (by omega)), TE.plain 67 (t67) k67]) (s := []) tys_ok eqts_ok follows Proofs.Try.func58 (c := Proofs.Try.f58.body.get rfl) rfl (by decide) (by kernel_rfl)  (H := H58) (N := N) (shp := sh58)
     ((ev58 (by omega) rfl rfl rfl rfl (fun _ _ => rfl) (fun _ _ => rfl) (fun _ _ => rfl) x).trans h) (ar58.da x)
theorem k45 (N : Nat) (hN : N ≤ 4611686018427387904) : TOk Proofs.Try.prog 45 (t45 N) := TL_ok ar45.wk fun x v h =>
   pure_ofT (l := [TE.plain 58 (t58 N) (k58 N (by omega))]) (s := []) tys_ok eqts_ok follows Proofs.Try.func45 (c := Proofs.Try.f45.body.get rfl) rfl (by decide) (by kernel_rfl)  (H := H45) (N := N) (shp := sh45)
     ((ev45 (by omega) rfl rfl rfl rfl (fun _ _ => rfl) x).trans h) (ar45.da x)
theorem k46 : TOk Proofs.Try.prog 46 t46 := TL_ok ar46.wk fun x v h =>
   pure_ofT (l := []) (s := []) tys_ok eqts_ok follows Proofs.Try.func46 (c := Proofs.Try.f46.body.get rfl) rfl (by decide) (by kernel_rfl)  (H := H46) (N := 0) (shp := sh46)
     ((ev46 (by omega) rfl rfl rfl rfl  x).trans h) (ar46.da x)
theorem k47 : TOk Proofs.Try.prog 47 t47 := TL_ok ar47.wk fun x v h =>
   pure_ofT (l := []) (s := []) tys_ok eqts_ok follows Proofs.Try.func47 (c := Proofs.Try.f47.body.get rfl) rfl (by decide) (by kernel_rfl)  (H := H47) (N := 0) (shp := sh47)
     ((ev47 (by omega) rfl rfl rfl rfl  x).trans h) (ar47.da x)
theorem k26 : ∀ (N : Nat), N ≤ 4611686018427387904 → TOk Proofs.Try.prog 26 (t26 N)
 | 0, _ => TL_ok ar26.wk fun x v h => by have h : none = some v := h; cases h
 | N + 1, hN => TL_ok ar26.wk fun x v h =>
   pure_ofT (l := [TE.plain 45 (t45 N) (k45 N (by omega)), TE.plain 26 (t26 N) (k26 N (by omega)), TE.plain 44 (t44 N) (k44 N (by omega)), TE.plain 46 (t46) k46, TE.plain 47 (t47) k47]) (s := []) tys_ok eqts_ok follows Proofs.Try.func26 (c := Proofs.Try.f26.body.get rfl) rfl (by decide) (by kernel_rfl)  (H := H26) (N := N) (shp := sh26)
     ((ev26 (by omega) (F72 N) rfl rfl rfl rfl (fun _ _ => rfl) (fun _ _ => rfl) (fun _ _ => rfl) (fun _ _ => rfl) (fun _ _ => rfl) x).trans h) (ar26.da x)
theorem k71 : TOk Proofs.Try.prog 71 t71 := TL_ok ar71.wk fun x v h =>
   pure_ofT (l := []) (s := []) tys_ok eqts_ok follows Proofs.Try.func71 (c := Proofs.Try.f71.body.get rfl) rfl (by decide) (by kernel_rfl)  (H := H71) (N := 0) (shp := sh71)
     ((ev71 (by omega) rfl rfl rfl rfl  x.1 x.2).trans h) (ar71.da x)
theorem k68 (N : Nat) (hN : N ≤ 4611686018427387904) : TOk Proofs.Try.prog 68 (t68 N) := TL_ok ar68.wk fun x v h =>
   pure_ofT (l := [TE.plain 71 (t71) k71]) (s := []) tys_ok eqts_ok follows Proofs.Try.func68 (c := Proofs.Try.f68.body.get rfl) rfl (by decide) (by kernel_rfl)  (H := H68) (N := N) (shp := sh68)
     ((ev68 (by omega) rfl rfl rfl rfl (fun _ _ => rfl) x.1 x.2).trans h) (ar68.da x)
theorem k59 : ∀ (N : Nat), N ≤ 4611686018427387904 → TOk Proofs.Try.prog 59 (t59 N)
 | 0, _ => TL_ok ar59.wk fun x v h => by have h : none = some v := h; cases h
 | N + 1, hN => TL_ok ar59.wk fun x v h =>
   pure_ofT (l := [TE.plain 68 (t68 N) (k68 N (by omega)), TE.plain 59 (t59 N) (k59 N (by omega))]) (s := []) tys_ok eqts_ok follows Proofs.Try.func59 (c := Proofs.Try.f59.body.get rfl) rfl (by decide) (by kernel_rfl)  (H := H59) (N := N) (shp := sh59)
     ((ev59 (by omega) (F95 N) rfl rfl rfl rfl (fun _ _ => rfl) (fun _ _ => rfl) x.1 x.2).trans h) (ar59.da x)
theorem k48 (N : Nat) (hN : N ≤ 4611686018427387904) : TOk Proofs.Try.prog 48 (t48 N) := TL_ok ar48.wk fun x v h =>
   pure_ofT (l := [TE.plain 59 (t59 N) (k59 N (by omega))]) (s := []) tys_ok eqts_ok follows Proofs.Try.func48 (c := Proofs.Try.f48.body.get rfl) rfl (by decide) (by kernel_rfl)  (H := H48) (N := N) (shp := sh48)
     ((ev48 (by omega) rfl rfl rfl rfl (fun _ _ => rfl) x).trans h) (ar48.da x)
theorem k49 : ∀ (N : Nat), N ≤ 4611686018427387904 → TOk Proofs.Try.prog 49 (t49 N)
 | 0, _ => TL_ok ar49.wk fun x v h => by have h : none = some v := h; cases h
 | N + 1, hN => TL_ok ar49.wk fun x v h =>
   pure_ofT (l := [TE.plain 49 (t49 N) (k49 N (by omega))]) (s := []) tys_ok eqts_ok follows Proofs.Try.func49 (c := Proofs.Try.f49.body.get rfl) rfl (by decide) (by kernel_rfl)  (H := H49) (N := N) (shp := sh49)
     ((ev49 (by omega) (F92 N) rfl rfl rfl rfl (fun _ _ => rfl) x.1 x.2).trans h) (ar49.da x)
theorem k27 (N : Nat) (hN : N ≤ 4611686018427387904) : TOk Proofs.Try.prog 27 (t27 N) := TL_ok ar27.wk fun x v h =>
   pure_ofT (l := [TE.plain 48 (t48 N) (k48 N (by omega)), TE.plain 49 (t49 N) (k49 N (by omega))]) (s := []) tys_ok eqts_ok follows Proofs.Try.func27 (c := Proofs.Try.f27.body.get rfl) rfl (by decide) (by kernel_rfl)  (H := H27) (N := N) (shp := sh27)
     ((ev27 (by omega) rfl rfl rfl rfl (fun _ _ => rfl) (fun _ _ => rfl) x).trans h) (ar27.da x)
theorem k28 : ∀ (N : Nat), N ≤ 4611686018427387904 → TOk Proofs.Try.prog 28 (t28 N)
 | 0, _ => TL_ok ar28.wk fun x v h => by have h : none = some v := h; cases h
 | N + 1, hN => TL_ok ar28.wk fun x v h =>
   pure_ofT (l := [TE.plain 43 (t43 N) (k43 N (by omega)), TE.plain 44 (t44 N) (k44 N (by omega)), TE.plain 28 (t28 N) (k28 N (by omega))]) (s := []) tys_ok eqts_ok follows Proofs.Try.func28 (c := Proofs.Try.f28.body.get rfl) rfl (by decide) (by kernel_rfl)  (H := H28) (N := N) (shp := sh28)
     ((ev28 (by omega) (F106 N) rfl rfl rfl rfl (fun _ _ => rfl) (fun _ _ => rfl) (fun _ _ => rfl) x.1 x.2).trans h) (ar28.da x)
theorem k7 (N : Nat) (hN : N ≤ 4611686018427387904) : TOk Proofs.Try.prog 7 (t7 N) := TL_ok ar7.wk fun x v h =>
   pure_ofT (l := [TE.plain 12 (t12 N) (k12 N (by omega)), TE.plain 22 (t22 N) (k22 N (by omega)), TE.plain 23 (t23 N) (k23 N (by omega)), TE.plain 24 (t24 N) (k24 N (by omega)), TE.plain 25 (t25 N) (k25 N (by omega)), TE.plain 26 (t26 N) (k26 N (by omega)), TE.plain 27 (t27 N) (k27 N (by omega)), TE.plain 28 (t28 N) (k28 N (by omega))]) (s := []) tys_ok eqts_ok follows Proofs.Try.func7 (c := Proofs.Try.f7.body.get rfl) rfl (by decide) (by kernel_rfl)  (H := H7) (N := N) (shp := sh7)
     ((ev7 (by omega) rfl rfl rfl rfl (fun _ _ => rfl) (fun _ _ => rfl) (fun _ _ => rfl) (fun _ _ => rfl) (fun _ _ => rfl) (fun _ _ => rfl) (fun _ _ => rfl) (fun _ _ => rfl) x.1 x.2.1 x.2.2).trans h) (ar7.da x)
theorem k50 : TOk Proofs.Try.prog 50 t50 := TL_ok ar50.wk fun x v h =>
   pure_ofT (l := []) (s := []) tys_ok eqts_ok follows Proofs.Try.func50 (c := Proofs.Try.f50.body.get rfl) rfl (by decide) (by kernel_rfl)  (H := H50) (N := 0) (shp := sh50)
     ((ev50 (by omega) rfl rfl rfl rfl  x.1 x.2).trans h) (ar50.da x)
theorem k29 : ∀ (N : Nat), N ≤ 4611686018427387904 → TOk Proofs.Try.prog 29 (t29 N)
 | 0, _ => TL_ok ar29.wk fun x v h => by have h : none = some v := h; cases h
 | N + 1, hN => TL_ok ar29.wk fun x v h =>
   pure_ofT (l := [TE.plain 50 (t50) k50, TE.plain 29 (t29 N) (k29 N (by omega))]) (s := []) tys_ok eqts_ok follows Proofs.Try.func29 (c := Proofs.Try.f29.body.get rfl) rfl (by decide) (by kernel_rfl)  (H := H29) (N := N) (shp := sh29)
     ((ev29 (by omega) (F19 N) rfl rfl rfl rfl (fun _ _ => rfl) (fun _ _ => rfl) x.1 x.2).trans h) (ar29.da x)
theorem k8 (N : Nat) (hN : N ≤ 4611686018427387904) : TOk Proofs.Try.prog 8 (t8 N) := TL_ok ar8.wk fun x v h =>
   pure_ofT (l := [TE.plain 29 (t29 N) (k29 N (by omega))]) (s := []) tys_ok eqts_ok follows Proofs.Try.func8 (c := Proofs.Try.f8.body.get rfl) rfl (by decide) (by kernel_rfl)  (H := H8) (N := N) (shp := sh8)
     ((ev8 (by omega) rfl rfl rfl rfl (fun _ _ => rfl) x.1 x.2).trans h) (ar8.da x)
theorem k3 (N : Nat) (hN : N ≤ 4611686018427387904) : TOk Proofs.Try.prog 3 (t3 N) := TL_ok ar3.wk fun x v h =>
   pure_ofT (l := [TE.plain 4 (t4 N) (k4 N (by omega)), TE.plain 5 (t5 N) (k5 N (by omega)), TE.plain 6 (t6 N) (k6 N (by omega)), TE.plain 7 (t7 N) (k7 N (by omega)), TE.plain 8 (t8 N) (k8 N (by omega)), TE.plain 9 (t9 N) (k9 N (by omega))]) (s := []) tys_ok eqts_ok follows Proofs.Try.func3 (c := Proofs.Try.f3.body.get rfl) rfl (by decide) (by kernel_rfl)  (H := H3) (N := N) (shp := sh3)
     ((ev3 (by omega) rfl rfl rfl rfl (fun _ _ => rfl) (fun _ _ => rfl) (fun _ _ => rfl) (fun _ _ => rfl) (fun _ _ => rfl) (fun _ _ => rfl) x.1 x.2.1 x.2.2).trans h) (ar3.da x)
end Go.Abs.Try
