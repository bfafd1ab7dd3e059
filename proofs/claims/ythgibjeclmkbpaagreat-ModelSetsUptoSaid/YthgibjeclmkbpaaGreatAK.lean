import Derived.Test.YthgibjeclmkbpaaGreatAVal0toAVal
import Derived.Test.YthgibjeclmkbpaaGreatAV0
import Derived.Test.YthgibjeclmkbpaaGreatAV1
import Derived.Test.YthgibjeclmkbpaaGreatAV2
import Derived.Test.YthgibjeclmkbpaaGreatAV3
import Derived.Test.YthgibjeclmkbpaaGreatAV4
import Derived.Test.YthgibjeclmkbpaaGreatAV5
set_option linter.unusedSimpArgs false
set_option linter.unusedVariables false
namespace Go.Abs.Try
open Go.RowKit
set_option maxRecDepth 100000
set_option maxHeartbeats 40000000
theorem k95 : TOk Proofs.Tryz.prog 95 t95 := TL_ok ar95.wk fun x v h =>
   pure_ofT (l := []) (s := []) tys_ok eqts_ok follows Proofs.Tryz.func95 (c := Proofs.Tryz.f95.body.get rfl) rfl (by decide) (by kernel_rfl)  (H := H95) (N := 0) (shp := sh95)
     ((ev95 (by omega) rfl rfl rfl rfl  x).trans h) (ar95.da x)
theorem k127 : TOk Proofs.Tryz.prog 127 t127 := TL_ok ar127.wk fun x v h =>
   pure_ofT (l := []) (s := []) tys_ok eqts_ok follows Proofs.Tryz.func127 (c := Proofs.Tryz.f127.body.get rfl) rfl (by decide) (by kernel_rfl)  (H := H127) (N := 0) (shp := sh127)
     ((ev127 (by omega) rfl rfl rfl rfl  x).trans h) (ar127.da x)
theorem k117 : TOk Proofs.Tryz.prog 117 t117 := TL_ok ar117.wk fun x v h =>
   pure_ofT (l := [TE.plain 127 (t127) k127]) (s := []) tys_ok eqts_ok follows Proofs.Tryz.func117 (c := Proofs.Tryz.f117.body.get rfl) rfl (by decide) (by kernel_rfl)  (H := H117) (N := 0) (shp := sh117)
     ((ev117 (by omega) rfl rfl rfl rfl (fun _ _ => rfl) x.1 x.2).trans h) (ar117.da x)
theorem k118 : TOk Proofs.Tryz.prog 118 t118 := TL_ok ar118.wk fun x v h =>
   pure_ofT (l := []) (s := []) tys_ok eqts_ok follows Proofs.Tryz.func118 (c := Proofs.Tryz.f118.body.get rfl) rfl (by decide) (by kernel_rfl)  (H := H118) (N := 0) (shp := sh118)
     ((ev118 (by omega) rfl rfl rfl rfl  x).trans h) (ar118.da x)
theorem k96 (N : Nat) (hN : N ≤ 4611686018427387904) : TOk Proofs.Tryz.prog 96 (t96 N) := TL_ok ar96.wk fun x v h =>
   pure_ofT (l := [TE.plain 117 (t117) k117, TE.plain 118 (t118) k118]) (s := []) tys_ok eqts_ok follows Proofs.Tryz.func96 (c := Proofs.Tryz.f96.body.get rfl) rfl (by decide) (by kernel_rfl)  (H := H96) (N := N) (shp := sh96)
     ((ev96 (by omega) rfl rfl rfl rfl (fun _ _ => rfl) (fun _ _ => rfl) x.1 x.2).trans h) (ar96.da x)
theorem k74 (N : Nat) (hN : N ≤ 4611686018427387904) : TOk Proofs.Tryz.prog 74 (t74 N) := TL_ok ar74.wk fun x v h =>
   pure_ofT (l := [TE.plain 96 (t96 N) (k96 N (by omega))]) (s := []) tys_ok eqts_ok follows Proofs.Tryz.func74 (c := Proofs.Tryz.f74.body.get rfl) rfl (by decide) (by kernel_rfl)  (H := H74) (N := N) (shp := sh74)
     ((ev74 (by omega) rfl rfl rfl rfl (fun _ _ => rfl) x.1 x.2).trans h) (ar74.da x)
theorem k2001 (N : Nat) (hN : N ≤ 4611686018427387904) : TSOk Proofs.Tryz.prog 75 1 (t2001 N) := TLS_ok (fun x => ar2001.wk x.1) (fun x => st2001.wk x.2) fun x v s' h =>
   lens_ofTA ali2001 [97, 98] (l := [TE.inlA ali40 [62] tys eqts [te62] [] tys_ok eqts_ok follows 40 Proofs.Tryz.f40 Proofs.Tryz.func40 (c := Proofs.Tryz.f40.body.get rfl) rfl (by decide) (by kernel_rfl) (growT_cons (fun _ _ _ _ h => clone_grown h) growT_nil (by decide)) H40 N, TE.lent 96 (t96 N) (k96 N (by omega)), te97, te98]) (s := []) tys_ok eqts_ok follows Proofs.Tryz.func75 (c := Proofs.Tryz.f75.body.get rfl) rfl (by kernel_rfl) (growT_cons (fun _ _ _ _ h => del_grown h) (growT_cons (fun _ _ _ _ h => insert_grown h) growT_nil (by decide)) (by decide)) (H := H2001) (N := N) (ms := [.give]) (shp := sh2001) (sho := sw2001)
     ((ev2001 (N := N) (E40 := fun n0 => mkTA ali40 Proofs.Tryz.prog n0 tys eqts [te62] []) (by omega) rfl rfl rfl rfl (fun _ _ => rfl) (fun _ _ => rfl) (fun _ _ => rfl) (fun _ _ => rfl) (fun _ => rfl) (fun _ => rfl) (fun _ => rfl) (fun _ => rfl) (fun _ _ _ => rfl) x.1.1 x.1.2.1 x.1.2.2.1 x.2.1.1 x.2.1.2.1).trans h) rfl (by decide)
theorem k2002 (N : Nat) (hN : N ≤ 4611686018427387904) : TSOk Proofs.Tryz.prog 76 1 (t2002 N) := TLS_ok (fun x => ar2002.wk x.1) (fun x => st2002.wk x.2) fun x v s' h =>
   lens_ofTA ali2002 [62] (l := [te62, te99, te100, TE.plain 96 (t96 N) (k96 N (by omega))]) (s := []) tys_ok eqts_ok follows Proofs.Tryz.func76 (c := Proofs.Tryz.f76.body.get rfl) rfl (by kernel_rfl) (growT_cons (fun _ _ _ _ h => clone_grown h) growT_nil (by decide)) (H := H2002) (N := N) (ms := [.give]) (shp := sh2002) (sho := sw2002)
     ((ev2002 (N := N) (by omega) rfl rfl rfl rfl (fun _ _ => rfl) (fun _ _ => rfl) (fun _ _ => rfl) (fun _ _ => rfl) x.1.1 x.1.2.1 x.2.1.1 x.2.1.2.1).trans h) rfl (by decide)
theorem k78 (N : Nat) (hN : N ≤ 4611686018427387904) : TOk Proofs.Tryz.prog 78 (t78 N) := TL_ok ar78.wk fun x v h =>
   pure_ofT (l := [TE.plain 24 (t24 N) (k24 N (by omega)), TE.plain 96 (t96 N) (k96 N (by omega)), TE.inl tys eqts [TE.inl tys eqts [TE.inl tys eqts [TE.plain 96 (t96 N) (k96 N (by omega))] [] tys_ok eqts_ok follows 102 Proofs.Tryz.f102 Proofs.Tryz.func102 (c := Proofs.Tryz.f102.body.get rfl) rfl (by decide) (by kernel_rfl) H102 N] [] tys_ok eqts_ok follows 123 Proofs.Tryz.f123 Proofs.Tryz.func123 (c := Proofs.Tryz.f123.body.get rfl) rfl (by decide) (by kernel_rfl) H123 N] [] tys_ok eqts_ok follows 101 Proofs.Tryz.f101 Proofs.Tryz.func101 (c := Proofs.Tryz.f101.body.get rfl) rfl (by decide) (by kernel_rfl) H101 N]) (s := []) tys_ok eqts_ok follows Proofs.Tryz.func78 (c := Proofs.Tryz.f78.body.get rfl) rfl (by decide) (by kernel_rfl)  (H := H78) (N := N) (shp := sh78)
     ((ev78 (E101 := fun n0 => mkT Proofs.Tryz.prog n0 tys eqts [TE.inl tys eqts [TE.inl tys eqts [TE.plain 96 (t96 N) (k96 N (by omega))] [] tys_ok eqts_ok follows 102 Proofs.Tryz.f102 Proofs.Tryz.func102 (c := Proofs.Tryz.f102.body.get rfl) rfl (by decide) (by kernel_rfl) H102 N] [] tys_ok eqts_ok follows 123 Proofs.Tryz.f123 Proofs.Tryz.func123 (c := Proofs.Tryz.f123.body.get rfl) rfl (by decide) (by kernel_rfl) H123 N] []) (E123 := fun n0 => mkT Proofs.Tryz.prog n0 tys eqts [TE.inl tys eqts [TE.plain 96 (t96 N) (k96 N (by omega))] [] tys_ok eqts_ok follows 102 Proofs.Tryz.f102 Proofs.Tryz.func102 (c := Proofs.Tryz.f102.body.get rfl) rfl (by decide) (by kernel_rfl) H102 N] []) (E102 := fun n0 => mkT Proofs.Tryz.prog n0 tys eqts [TE.plain 96 (t96 N) (k96 N (by omega))] []) (by omega) rfl rfl rfl rfl (fun _ _ => rfl) (fun _ _ => rfl) (fun _ _ => rfl) (fun _ => rfl) (fun _ => rfl) (fun _ => rfl) (fun _ => rfl) (fun _ _ _ => rfl) (fun _ => rfl) (fun _ => rfl) (fun _ => rfl) (fun _ => rfl) (fun _ _ _ => rfl) (fun _ => rfl) (fun _ => rfl) (fun _ => rfl) (fun _ => rfl) (fun _ _ _ => rfl) x.1 x.2).trans h) (ar78.da x)
theorem k77 : TOk Proofs.Tryz.prog 77 t77 := TL_ok ar77.wk fun x v h =>
   pure_ofT (l := []) (s := []) tys_ok eqts_ok follows Proofs.Tryz.func77 (c := Proofs.Tryz.f77.body.get rfl) rfl (by decide) (by kernel_rfl)  (H := H77) (N := 0) (shp := sh77)
     ((ev77 (by omega) rfl rfl rfl rfl  x).trans h) (ar77.da x)
theorem k2000 : ∀ (N : Nat), N ≤ 4611686018427387904 → TSOk Proofs.Tryz.prog 52 1 (t2000 N)
 | 0, _ => TLS_ok (fun x => ar2000.wk x.1) (fun x => st2000.wk x.2) fun x v s' h => by have h : none = some (v, s') := h; cases h
 | N + 1, hN => TLS_ok (fun x => ar2000.wk x.1) (fun x => st2000.wk x.2) fun x v s' h =>
   lens_ofT (l := [TE.lens 52 1 [.keep, .keep] (t2000 N) Proofs.Tryz.func52 (c := Proofs.Tryz.f52.body.get rfl) rfl (by decide) (k2000 N (by omega)), TE.inl tys eqts [TE.lent 41 (t41 N) (k41 N (by omega))] [] tys_ok eqts_ok follows 71 Proofs.Tryz.f71 Proofs.Tryz.func71 (c := Proofs.Tryz.f71.body.get rfl) rfl (by decide) (by kernel_rfl) H71 N, TE.inl tys eqts [] [] tys_ok eqts_ok follows 72 Proofs.Tryz.f72 Proofs.Tryz.func72 (c := Proofs.Tryz.f72.body.get rfl) rfl (by decide) (by kernel_rfl) H72 N, TE.inl tys eqts [TE.plain 95 (t95) k95, TE.inl tys eqts [] [] tys_ok eqts_ok follows 72 Proofs.Tryz.f72 Proofs.Tryz.func72 (c := Proofs.Tryz.f72.body.get rfl) rfl (by decide) (by kernel_rfl) H72 N] [] tys_ok eqts_ok follows 73 Proofs.Tryz.f73 Proofs.Tryz.func73 (c := Proofs.Tryz.f73.body.get rfl) rfl (by decide) (by kernel_rfl) H73 N, TE.plain 74 (t74 N) (k74 N (by omega)), TE.lens 75 1 [.keep, .keep, .keep, .keep] (t2001 N) Proofs.Tryz.func75 (c := Proofs.Tryz.f75.body.get rfl) rfl (by decide) (k2001 N (by omega)), TE.lens 76 1 [.keep, .keep, .give] (t2002 N) Proofs.Tryz.func76 (c := Proofs.Tryz.f76.body.get rfl) rfl (by decide) (k2002 N (by omega)), TE.lent 78 (t78 N) (k78 N (by omega)), TE.plain 77 (t77) k77]) (s := []) tys_ok eqts_ok follows Proofs.Tryz.func52 (c := Proofs.Tryz.f52.body.get rfl) rfl (by kernel_rfl)  (H := H2000) (N := N) (ms := [.give]) (shp := sh2000) (sho := sw2000)
     ((ev2000 (N := N) (E71 := fun n0 => mkT Proofs.Tryz.prog n0 tys eqts [TE.lent 41 (t41 N) (k41 N (by omega))] []) (E72 := fun n0 => mkT Proofs.Tryz.prog n0 tys eqts [] []) (E73 := fun n0 => mkT Proofs.Tryz.prog n0 tys eqts [TE.plain 95 (t95) k95, TE.inl tys eqts [] [] tys_ok eqts_ok follows 72 Proofs.Tryz.f72 Proofs.Tryz.func72 (c := Proofs.Tryz.f72.body.get rfl) rfl (by decide) (by kernel_rfl) H72 N] []) (by omega) (F1399 N) rfl rfl rfl rfl (fun _ _ => rfl) (fun _ _ => rfl) (fun _ _ => rfl) (fun _ _ => rfl) (fun _ _ => rfl) (fun _ _ => rfl) (fun _ _ => rfl) (fun _ _ => rfl) (fun _ _ => rfl) (fun _ => rfl) (fun _ => rfl) (fun _ => rfl) (fun _ => rfl) (fun _ _ _ => rfl) (fun _ => rfl) (fun _ => rfl) (fun _ => rfl) (fun _ => rfl) (fun _ => rfl) (fun _ => rfl) (fun _ => rfl) (fun _ => rfl) (fun _ _ _ => rfl) (fun _ _ _ => rfl) x.1.1 x.2.1.1 x.2.1.2.1).trans h) rfl (by decide)
theorem k30 (N : Nat) (hN : N ≤ 4611686018427387904) : TOk Proofs.Tryz.prog 30 (t30 N) := TL_ok ar30.wk fun x v h =>
   pure_ofT (l := [TE.plain 50 (t50 N) (k50 N (by omega)), TE.plain 51 (t51) k51, TE.plain 25 (t25 N) (k25 N (by omega)), TE.lens 52 1 [.keep, .keep] (t2000 N) Proofs.Tryz.func52 (c := Proofs.Tryz.f52.body.get rfl) rfl (by decide) (k2000 N (by omega)), TE.inlA ali40 [62] tys eqts [te62] [] tys_ok eqts_ok follows 40 Proofs.Tryz.f40 Proofs.Tryz.func40 (c := Proofs.Tryz.f40.body.get rfl) rfl (by decide) (by kernel_rfl) (growT_cons (fun _ _ _ _ h => clone_grown h) growT_nil (by decide)) H40 N]) (s := []) tys_ok eqts_ok follows Proofs.Tryz.func30 (c := Proofs.Tryz.f30.body.get rfl) rfl (by decide) (by kernel_rfl)  (H := H30) (N := N) (shp := sh30)
     ((ev30 (E40 := fun n0 => mkTA ali40 Proofs.Tryz.prog n0 tys eqts [te62] []) (by omega) rfl rfl rfl rfl (fun _ _ => rfl) (fun _ _ => rfl) (fun _ _ => rfl) (fun _ _ => rfl) (fun _ _ => rfl) (fun _ => rfl) (fun _ => rfl) (fun _ => rfl) (fun _ => rfl) (fun _ _ _ => rfl) x.1 x.2.1 x.2.2).trans h) (ar30.da x)
theorem k9 (N : Nat) (hN : N ≤ 4611686018427387904) : TOk Proofs.Tryz.prog 9 (t9 N) := TL_ok ar9.wk fun x v h =>
   pure_ofT (l := [TE.plain 30 (t30 N) (k30 N (by omega))]) (s := []) tys_ok eqts_ok follows Proofs.Tryz.func9 (c := Proofs.Tryz.f9.body.get rfl) rfl (by decide) (by kernel_rfl)  (H := H9) (N := N) (shp := sh9)
     ((ev9 (by omega) rfl rfl rfl rfl (fun _ _ => rfl) x.1 x.2).trans h) (ar9.da x)
theorem k6 (N : Nat) (hN : N ≤ 4611686018427387904) : TOk Proofs.Tryz.prog 6 (t6 N) := TL_ok ar6.wk fun x v h =>
   pure_ofT (l := [TE.plain 9 (t9 N) (k9 N (by omega))]) (s := []) tys_ok eqts_ok follows Proofs.Tryz.func6 (c := Proofs.Tryz.f6.body.get rfl) rfl (by decide) (by kernel_rfl)  (H := H6) (N := N) (shp := sh6)
     ((ev6 (by omega) rfl rfl rfl rfl (fun _ _ => rfl) ).trans h) (ar6.da x)
theorem k43 : TOk Proofs.Tryz.prog 43 t43 := TL_ok ar43.wk fun x v h =>
   pure_ofT (l := []) (s := []) tys_ok eqts_ok follows Proofs.Tryz.func43 (c := Proofs.Tryz.f43.body.get rfl) rfl (by decide) (by kernel_rfl)  (H := H43) (N := 0) (shp := sh43)
     ((ev43 (by omega) rfl rfl rfl rfl  x).trans h) (ar43.da x)
theorem k20 (N : Nat) (hN : N ≤ 4611686018427387904) : TOk Proofs.Tryz.prog 20 (t20 N) := TL_ok ar20.wk fun x v h =>
   pure_ofT (l := [TE.plain 43 (t43) k43]) (s := []) tys_ok eqts_ok follows Proofs.Tryz.func20 (c := Proofs.Tryz.f20.body.get rfl) rfl (by decide) (by kernel_rfl)  (H := H20) (N := N) (shp := sh20)
     ((ev20 (by omega) rfl rfl rfl rfl (fun _ _ => rfl) x).trans h) (ar20.da x)
theorem k8 (N : Nat) (hN : N ≤ 4611686018427387904) : TOk Proofs.Tryz.prog 8 (t8 N) := TL_ok ar8.wk fun x v h =>
   pure_ofT (l := [TE.plain 20 (t20 N) (k20 N (by omega))]) (s := []) tys_ok eqts_ok follows Proofs.Tryz.func8 (c := Proofs.Tryz.f8.body.get rfl) rfl (by decide) (by kernel_rfl)  (H := H8) (N := N) (shp := sh8)
     ((ev8 (by omega) rfl rfl rfl rfl (fun _ _ => rfl) x).trans h) (ar8.da x)
theorem k18 (N : Nat) (hN : N ≤ 4611686018427387904) : TOk Proofs.Tryz.prog 18 (t18 N) := TL_ok ar18.wk fun x v h =>
   pure_ofT (l := [TE.plain 25 (t25 N) (k25 N (by omega)), TE.plain 38 (t38 N) (k38 N (by omega)), TE.plain 41 (t41 N) (k41 N (by omega)), TE.inl tys eqts [TE.inlA ali40 [62] tys eqts [te62] [] tys_ok eqts_ok follows 40 Proofs.Tryz.f40 Proofs.Tryz.func40 (c := Proofs.Tryz.f40.body.get rfl) rfl (by decide) (by kernel_rfl) (growT_cons (fun _ _ _ _ h => clone_grown h) growT_nil (by decide)) H40 N] [] tys_ok eqts_ok follows 39 Proofs.Tryz.f39 Proofs.Tryz.func39 (c := Proofs.Tryz.f39.body.get rfl) rfl (by decide) (by kernel_rfl) H39 N]) (s := []) tys_ok eqts_ok follows Proofs.Tryz.func18 (c := Proofs.Tryz.f18.body.get rfl) rfl (by decide) (by kernel_rfl)  (H := H18) (N := N) (shp := sh18)
     ((ev18 (E39 := fun n0 => mkT Proofs.Tryz.prog n0 tys eqts [TE.inlA ali40 [62] tys eqts [te62] [] tys_ok eqts_ok follows 40 Proofs.Tryz.f40 Proofs.Tryz.func40 (c := Proofs.Tryz.f40.body.get rfl) rfl (by decide) (by kernel_rfl) (growT_cons (fun _ _ _ _ h => clone_grown h) growT_nil (by decide)) H40 N] []) (E40 := fun n0 => mkTA ali40 Proofs.Tryz.prog n0 tys eqts [te62] []) (by omega) rfl rfl rfl rfl (fun _ _ => rfl) (fun _ _ => rfl) (fun _ _ => rfl) (fun _ _ => rfl) (fun _ => rfl) (fun _ => rfl) (fun _ => rfl) (fun _ => rfl) (fun _ _ _ => rfl) (fun _ => rfl) (fun _ => rfl) (fun _ => rfl) (fun _ => rfl) (fun _ _ _ => rfl) x.1 x.2).trans h) (ar18.da x)
theorem k33 : TOk Proofs.Tryz.prog 33 t33 := TL_ok ar33.wk fun x v h =>
   pure_ofT (l := []) (s := []) tys_ok eqts_ok follows Proofs.Tryz.func33 (c := Proofs.Tryz.f33.body.get rfl) rfl (by decide) (by kernel_rfl)  (H := H33) (N := 0) (shp := sh33)
     ((ev33 (by omega) rfl rfl rfl rfl  x).trans h) (ar33.da x)
theorem k56 : TOk Proofs.Tryz.prog 56 t56 := TL_ok ar56.wk fun x v h =>
   pure_ofT (l := []) (s := []) tys_ok eqts_ok follows Proofs.Tryz.func56 (c := Proofs.Tryz.f56.body.get rfl) rfl (by decide) (by kernel_rfl)  (H := H56) (N := 0) (shp := sh56)
     ((ev56 (by omega) rfl rfl rfl rfl  ).trans h) (ar56.da x)
theorem k34 (N : Nat) (hN : N ≤ 4611686018427387904) : TOk Proofs.Tryz.prog 34 (t34 N) := TL_ok ar34.wk fun x v h =>
   pure_ofT (l := [TE.plain 56 (t56) k56]) (s := []) tys_ok eqts_ok follows Proofs.Tryz.func34 (c := Proofs.Tryz.f34.body.get rfl) rfl (by decide) (by kernel_rfl)  (H := H34) (N := N) (shp := sh34)
     ((ev34 (by omega) rfl rfl rfl rfl (fun _ _ => rfl) x).trans h) (ar34.da x)
theorem k35 : TOk Proofs.Tryz.prog 35 t35 := TL_ok ar35.wk fun x v h =>
   pure_ofT (l := []) (s := []) tys_ok eqts_ok follows Proofs.Tryz.func35 (c := Proofs.Tryz.f35.body.get rfl) rfl (by decide) (by kernel_rfl)  (H := H35) (N := 0) (shp := sh35)
     ((ev35 (by omega) rfl rfl rfl rfl  x).trans h) (ar35.da x)
theorem k14 (N : Nat) (hN : N ≤ 4611686018427387904) : TOk Proofs.Tryz.prog 14 (t14 N) := TL_ok ar14.wk fun x v h =>
   pure_ofT (l := [TE.plain 33 (t33) k33, TE.plain 34 (t34 N) (k34 N (by omega)), TE.plain 35 (t35) k35]) (s := []) tys_ok eqts_ok follows Proofs.Tryz.func14 (c := Proofs.Tryz.f14.body.get rfl) rfl (by decide) (by kernel_rfl)  (H := H14) (N := N) (shp := sh14)
     ((ev14 (by omega) rfl rfl rfl rfl (fun _ _ => rfl) (fun _ _ => rfl) (fun _ _ => rfl) x).trans h) (ar14.da x)
theorem k48 : TOk Proofs.Tryz.prog 48 t48 := TL_ok ar48.wk fun x v h =>
   pure_ofT (l := []) (s := []) tys_ok eqts_ok follows Proofs.Tryz.func48 (c := Proofs.Tryz.f48.body.get rfl) rfl (by decide) (by kernel_rfl)  (H := H48) (N := 0) (shp := sh48)
     ((ev48 (by omega) rfl rfl rfl rfl  x).trans h) (ar48.da x)
theorem k49 (N : Nat) (hN : N ≤ 4611686018427387904) : TOk Proofs.Tryz.prog 49 (t49 N) := TL_ok ar49.wk fun x v h =>
   pure_ofT (l := [TE.plain 48 (t48) k48]) (s := []) tys_ok eqts_ok follows Proofs.Tryz.func49 (c := Proofs.Tryz.f49.body.get rfl) rfl (by decide) (by kernel_rfl)  (H := H49) (N := N) (shp := sh49)
     ((ev49 (by omega) rfl rfl rfl rfl (fun _ _ => rfl) x).trans h) (ar49.da x)
theorem k28 (N : Nat) (hN : N ≤ 4611686018427387904) : TOk Proofs.Tryz.prog 28 (t28 N) := TL_ok ar28.wk fun x v h =>
   pure_ofT (l := [TE.plain 48 (t48) k48, TE.plain 49 (t49 N) (k49 N (by omega))]) (s := []) tys_ok eqts_ok follows Proofs.Tryz.func28 (c := Proofs.Tryz.f28.body.get rfl) rfl (by decide) (by kernel_rfl)  (H := H28) (N := N) (shp := sh28)
     ((ev28 (by omega) rfl rfl rfl rfl (fun _ _ => rfl) (fun _ _ => rfl) x).trans h) (ar28.da x)
theorem k44 (N : Nat) (hN : N ≤ 4611686018427387904) : TOk Proofs.Tryz.prog 44 (t44 N) := TL_ok ar44.wk fun x v h =>
   pure_ofT (l := [TE.plain 14 (t14 N) (k14 N (by omega)), TE.plain 28 (t28 N) (k28 N (by omega))]) (s := []) tys_ok eqts_ok follows Proofs.Tryz.func44 (c := Proofs.Tryz.f44.body.get rfl) rfl (by decide) (by kernel_rfl)  (H := H44) (N := N) (shp := sh44)
     ((ev44 (by omega) rfl rfl rfl rfl (fun _ _ => rfl) (fun _ _ => rfl) x).trans h) (ar44.da x)
theorem k32 (N : Nat) (hN : N ≤ 4611686018427387904) : TOk Proofs.Tryz.prog 32 (t32 N) := TL_ok ar32.wk fun x v h =>
   pure_ofT (l := []) (s := []) tys_ok eqts_ok follows Proofs.Tryz.func32 (c := Proofs.Tryz.f32.body.get rfl) rfl (by decide) (by kernel_rfl)  (H := H32) (N := N) (shp := sh32)
     ((ev32 (by omega) rfl rfl rfl rfl  x.1 x.2).trans h) (ar32.da x)
theorem k11 (N : Nat) (hN : N ≤ 4611686018427387904) : TOk Proofs.Tryz.prog 11 (t11 N) := TL_ok ar11.wk fun x v h =>
   pure_ofT (l := [TE.plain 32 (t32 N) (k32 N (by omega))]) (s := []) tys_ok eqts_ok follows Proofs.Tryz.func11 (c := Proofs.Tryz.f11.body.get rfl) rfl (by decide) (by kernel_rfl)  (H := H11) (N := N) (shp := sh11)
     ((ev11 (by omega) rfl rfl rfl rfl (fun _ _ => rfl) x.1 x.2).trans h) (ar11.da x)
theorem k65 (N : Nat) (hN : N ≤ 4611686018427387904) : TOk Proofs.Tryz.prog 65 (t65 N) := TL_ok ar65.wk fun x v h =>
   pure_ofT (l := [TE.plain 11 (t11 N) (k11 N (by omega))]) (s := []) tys_ok eqts_ok follows Proofs.Tryz.func65 (c := Proofs.Tryz.f65.body.get rfl) rfl (by decide) (by kernel_rfl)  (H := H65) (N := N) (shp := sh65)
     ((ev65 (by omega) rfl rfl rfl rfl (fun _ _ => rfl) x.1 x.2).trans h) (ar65.da x)
theorem k45 (N : Nat) (hN : N ≤ 4611686018427387904) : TOk Proofs.Tryz.prog 45 (t45 N) := TL_ok ar45.wk fun x v h =>
   pure_ofT (l := [TE.plain 65 (t65 N) (k65 N (by omega))]) (s := []) tys_ok eqts_ok follows Proofs.Tryz.func45 (c := Proofs.Tryz.f45.body.get rfl) rfl (by decide) (by kernel_rfl)  (H := H45) (N := N) (shp := sh45)
     ((ev45 (by omega) rfl rfl rfl rfl (fun _ _ => rfl) x.1 x.2).trans h) (ar45.da x)
theorem k26 (N : Nat) (hN : N ≤ 4611686018427387904) : TOk Proofs.Tryz.prog 26 (t26 N) := TL_ok ar26.wk fun x v h =>
   pure_ofT (l := [TE.plain 44 (t44 N) (k44 N (by omega)), TE.plain 45 (t45 N) (k45 N (by omega))]) (s := []) tys_ok eqts_ok follows Proofs.Tryz.func26 (c := Proofs.Tryz.f26.body.get rfl) rfl (by decide) (by kernel_rfl)  (H := H26) (N := N) (shp := sh26)
     ((ev26 (by omega) rfl rfl rfl rfl (fun _ _ => rfl) (fun _ _ => rfl) x).trans h) (ar26.da x)
theorem k21 (N : Nat) (hN : N ≤ 4611686018427387904) : TOk Proofs.Tryz.prog 21 (t21 N) := TL_ok ar21.wk fun x v h =>
   pure_ofT (l := [TE.plain 26 (t26 N) (k26 N (by omega)), TE.plain 44 (t44 N) (k44 N (by omega)), TE.plain 45 (t45 N) (k45 N (by omega))]) (s := []) tys_ok eqts_ok follows Proofs.Tryz.func21 (c := Proofs.Tryz.f21.body.get rfl) rfl (by decide) (by kernel_rfl)  (H := H21) (N := N) (shp := sh21)
     ((ev21 (by omega) rfl rfl rfl rfl (fun _ _ => rfl) (fun _ _ => rfl) (fun _ _ => rfl) x.1 x.2).trans h) (ar21.da x)
theorem k22 : TOk Proofs.Tryz.prog 22 t22 := TL_ok ar22.wk fun x v h =>
   pure_ofT (l := []) (s := []) tys_ok eqts_ok follows Proofs.Tryz.func22 (c := Proofs.Tryz.f22.body.get rfl) rfl (by decide) (by kernel_rfl)  (H := H22) (N := 0) (shp := sh22)
     ((ev22 (by omega) rfl rfl rfl rfl  x).trans h) (ar22.da x)
theorem k23 : TOk Proofs.Tryz.prog 23 t23 := TL_ok ar23.wk fun x v h =>
   pure_ofT (l := []) (s := []) tys_ok eqts_ok follows Proofs.Tryz.func23 (c := Proofs.Tryz.f23.body.get rfl) rfl (by decide) (by kernel_rfl)  (H := H23) (N := 0) (shp := sh23)
     ((ev23 (by omega) rfl rfl rfl rfl  x).trans h) (ar23.da x)
theorem k29 (N : Nat) (hN : N ≤ 4611686018427387904) : TOk Proofs.Tryz.prog 29 (t29 N) := TL_ok ar29.wk fun x v h =>
   pure_ofT (l := [TE.plain 45 (t45 N) (k45 N (by omega)), TE.plain 11 (t11 N) (k11 N (by omega))]) (s := []) tys_ok eqts_ok follows Proofs.Tryz.func29 (c := Proofs.Tryz.f29.body.get rfl) rfl (by decide) (by kernel_rfl)  (H := H29) (N := N) (shp := sh29)
     ((ev29 (by omega) rfl rfl rfl rfl (fun _ _ => rfl) (fun _ _ => rfl) x.1 x.2).trans h) (ar29.da x)
theorem k5 (N : Nat) (hN : N ≤ 4611686018427387904) : TOk Proofs.Tryz.prog 5 (t5 N) := TL_ok ar5.wk fun x v h =>
   pure_ofT (l := [TE.plain 6 (t6 N) (k6 N (by omega)), TE.plain 8 (t8 N) (k8 N (by omega)), TE.plain 20 (t20 N) (k20 N (by omega)), TE.plain 18 (t18 N) (k18 N (by omega)), TE.plain 21 (t21 N) (k21 N (by omega)), TE.plain 22 (t22) k22, TE.plain 23 (t23) k23, TE.plain 11 (t11 N) (k11 N (by omega)), TE.plain 24 (t24 N) (k24 N (by omega)), TE.plain 25 (t25 N) (k25 N (by omega)), TE.plain 26 (t26 N) (k26 N (by omega)), TE.plain 27 (t27 N) (k27 N (by omega)), TE.plain 28 (t28 N) (k28 N (by omega)), TE.plain 29 (t29 N) (k29 N (by omega))]) (s := []) tys_ok eqts_ok follows Proofs.Tryz.func5 (c := Proofs.Tryz.f5.body.get rfl) rfl (by decide) (by kernel_rfl)  (H := H5) (N := N) (shp := sh5)
     ((ev5 (by omega) rfl rfl rfl rfl (fun _ _ => rfl) (fun _ _ => rfl) (fun _ _ => rfl) (fun _ _ => rfl) (fun _ _ => rfl) (fun _ _ => rfl) (fun _ _ => rfl) (fun _ _ => rfl) (fun _ _ => rfl) (fun _ _ => rfl) (fun _ _ => rfl) (fun _ _ => rfl) (fun _ _ => rfl) (fun _ _ => rfl) x.1 x.2).trans h) (ar5.da x)
end Go.Abs.Try
