import Derived.Test.YthgibjeclmkbpaaGreatBVal0toBVal
import Derived.Test.YthgibjeclmkbpaaGreatBV0
import Derived.Test.YthgibjeclmkbpaaGreatBV1
import Derived.Test.YthgibjeclmkbpaaGreatBV2
import Derived.Test.YthgibjeclmkbpaaGreatBV3
import Derived.Test.YthgibjeclmkbpaaGreatBV4
import Derived.Test.YthgibjeclmkbpaaGreatBV5
import Derived.Test.YthgibjeclmkbpaaGreatBV6
import Derived.Test.YthgibjeclmkbpaaGreatBV7
set_option linter.unusedSimpArgs false
set_option linter.unusedVariables false
namespace Go.Abs.Try
open Go.RowKit
set_option maxRecDepth 100000
set_option maxHeartbeats 40000000
theorem k95 : TOk Proofs.Tryz.prog 95 t95 := TL_ok ar95.wk fun x v h =>
   pure_ofT (l := []) (s := []) tys_ok eqts_ok follows Proofs.Tryz.func95 (c := Proofs.Tryz.f95.body.get rfl) rfl (by decide) (by kernel_rfl)  (H := H95) (N := 0) (shp := sh95)
     ((ev95 (by omega) rfl rfl rfl rfl  x).trans h) (ar95.da x)
theorem k127 : TOk Proofs.Tryz.prog 127 t127 := TL_ok ar127.wk fun x v h =>
   pure_ofT (l := []) (s := []) tys_ok eqts_ok follows Proofs.Tryz.func127 (c := Proofs.Tryz.f127.body.get rfl) rfl (by decide) (by kernel_rfl)  (H := H127) (N := 0) (shp := sh127)
     ((ev127 (by omega) rfl rfl rfl rfl  x).trans h) (ar127.da x)
theorem k117 : TOk Proofs.Tryz.prog 117 t117 := TL_ok ar117.wk fun x v h =>
   pure_ofT (l := [TE.plain 127 (t127) k127]) (s := []) tys_ok eqts_ok follows Proofs.Tryz.func117 (c := Proofs.Tryz.f117.body.get rfl) rfl (by decide) (by kernel_rfl)  (H := H117) (N := 0) (shp := sh117)
     ((ev117 (by omega) rfl rfl rfl rfl (fun _ _ => rfl) x.1 x.2).trans h) (ar117.da x)
theorem k118 : TOk Proofs.Tryz.prog 118 t118 := TL_ok ar118.wk fun x v h =>
   pure_ofT (l := []) (s := []) tys_ok eqts_ok follows Proofs.Tryz.func118 (c := Proofs.Tryz.f118.body.get rfl) rfl (by decide) (by kernel_rfl)  (H := H118) (N := 0) (shp := sh118)
     ((ev118 (by omega) rfl rfl rfl rfl  x).trans h) (ar118.da x)
theorem k96 (N : Nat) (hN : N ≤ 4611686018427387904) : TOk Proofs.Tryz.prog 96 (t96 N) := TL_ok ar96.wk fun x v h =>
   pure_ofT (l := [TE.plain 117 (t117) k117, TE.plain 118 (t118) k118]) (s := []) tys_ok eqts_ok follows Proofs.Tryz.func96 (c := Proofs.Tryz.f96.body.get rfl) rfl (by decide) (by kernel_rfl)  (H := H96) (N := N) (shp := sh96)
     ((ev96 (by omega) rfl rfl rfl rfl (fun _ _ => rfl) (fun _ _ => rfl) x.1 x.2).trans h) (ar96.da x)
theorem k74 (N : Nat) (hN : N ≤ 4611686018427387904) : TOk Proofs.Tryz.prog 74 (t74 N) := TL_ok ar74.wk fun x v h =>
   pure_ofT (l := [TE.plain 96 (t96 N) (k96 N (by omega))]) (s := []) tys_ok eqts_ok follows Proofs.Tryz.func74 (c := Proofs.Tryz.f74.body.get rfl) rfl (by decide) (by kernel_rfl)  (H := H74) (N := N) (shp := sh74)
     ((ev74 (by omega) rfl rfl rfl rfl (fun _ _ => rfl) x.1 x.2).trans h) (ar74.da x)
theorem k2001 (N : Nat) (hN : N ≤ 4611686018427387904) : TSOk Proofs.Tryz.prog 75 1 (t2001 N) := TLS_ok (fun x => ar2001.wk x.1) (fun x => st2001.wk x.2) fun x v s' h =>
   lens_ofTA ali2001 [97, 98] (l := [TE.inlA ali40 [62] tys eqts [te62] [] tys_ok eqts_ok follows 40 Proofs.Tryz.f40 Proofs.Tryz.func40 (c := Proofs.Tryz.f40.body.get rfl) rfl (by decide) (by kernel_rfl) (growT_cons (fun _ _ _ _ h => clone_grown h) growT_nil (by decide)) H40 N, TE.lent 96 (t96 N) (k96 N (by omega)), te97, te98]) (s := []) tys_ok eqts_ok follows Proofs.Tryz.func75 (c := Proofs.Tryz.f75.body.get rfl) rfl (by kernel_rfl) (growT_cons (fun _ _ _ _ h => del_grown h) (growT_cons (fun _ _ _ _ h => insert_grown h) growT_nil (by decide)) (by decide)) (H := H2001) (N := N) (ms := [.give]) (shp := sh2001) (sho := sw2001)
     ((ev2001 (N := N) (E40 := fun n0 => mkTA ali40 Proofs.Tryz.prog n0 tys eqts [te62] []) (by omega) rfl rfl rfl rfl (fun _ _ => rfl) (fun _ _ => rfl) (fun _ _ => rfl) (fun _ _ => rfl) (fun _ => rfl) (fun _ => rfl) (fun _ => rfl) (fun _ => rfl) (fun _ _ _ => rfl) x.1.1 x.1.2.1 x.1.2.2.1 x.2.1.1 x.2.1.2.1).trans h) rfl (by decide)
theorem k2002 (N : Nat) (hN : N ≤ 4611686018427387904) : TSOk Proofs.Tryz.prog 76 1 (t2002 N) := TLS_ok (fun x => ar2002.wk x.1) (fun x => st2002.wk x.2) fun x v s' h =>
   lens_ofTA ali2002 [62] (l := [te62, te99, te100, TE.plain 96 (t96 N) (k96 N (by omega))]) (s := []) tys_ok eqts_ok follows Proofs.Tryz.func76 (c := Proofs.Tryz.f76.body.get rfl) rfl (by kernel_rfl) (growT_cons (fun _ _ _ _ h => clone_grown h) growT_nil (by decide)) (H := H2002) (N := N) (ms := [.give]) (shp := sh2002) (sho := sw2002)
     ((ev2002 (N := N) (by omega) rfl rfl rfl rfl (fun _ _ => rfl) (fun _ _ => rfl) (fun _ _ => rfl) (fun _ _ => rfl) x.1.1 x.1.2.1 x.2.1.1 x.2.1.2.1).trans h) rfl (by decide)
theorem k78 (N : Nat) (hN : N ≤ 4611686018427387904) : TOk Proofs.Tryz.prog 78 (t78 N) := TL_ok ar78.wk fun x v h =>
   pure_ofT (l := [TE.plain 24 (t24 N) (k24 N (by omega)), TE.plain 96 (t96 N) (k96 N (by omega)), TE.inl tys eqts [TE.inl tys eqts [TE.inl tys eqts [TE.plain 96 (t96 N) (k96 N (by omega))] [] tys_ok eqts_ok follows 102 Proofs.Tryz.f102 Proofs.Tryz.func102 (c := Proofs.Tryz.f102.body.get rfl) rfl (by decide) (by kernel_rfl) H102 N] [] tys_ok eqts_ok follows 123 Proofs.Tryz.f123 Proofs.Tryz.func123 (c := Proofs.Tryz.f123.body.get rfl) rfl (by decide) (by kernel_rfl) H123 N] [] tys_ok eqts_ok follows 101 Proofs.Tryz.f101 Proofs.Tryz.func101 (c := Proofs.Tryz.f101.body.get rfl) rfl (by decide) (by kernel_rfl) H101 N]) (s := []) tys_ok eqts_ok follows Proofs.Tryz.func78 (c := Proofs.Tryz.f78.body.get rfl) rfl (by decide) (by kernel_rfl)  (H := H78) (N := N) (shp := sh78)
     ((ev78 (E101 := fun n0 => mkT Proofs.Tryz.prog n0 tys eqts [TE.inl tys eqts [TE.inl tys eqts [TE.plain 96 (t96 N) (k96 N (by omega))] [] tys_ok eqts_ok follows 102 Proofs.Tryz.f102 Proofs.Tryz.func102 (c := Proofs.Tryz.f102.body.get rfl) rfl (by decide) (by kernel_rfl) H102 N] [] tys_ok eqts_ok follows 123 Proofs.Tryz.f123 Proofs.Tryz.func123 (c := Proofs.Tryz.f123.body.get rfl) rfl (by decide) (by kernel_rfl) H123 N] []) (E123 := fun n0 => mkT Proofs.Tryz.prog n0 tys eqts [TE.inl tys eqts [TE.plain 96 (t96 N) (k96 N (by omega))] [] tys_ok eqts_ok follows 102 Proofs.Tryz.f102 Proofs.Tryz.func102 (c := Proofs.Tryz.f102.body.get rfl) rfl (by decide) (by kernel_rfl) H102 N] []) (E102 := fun n0 => mkT Proofs.Tryz.prog n0 tys eqts [TE.plain 96 (t96 N) (k96 N (by omega))] []) (by omega) rfl rfl rfl rfl (fun _ _ => rfl) (fun _ _ => rfl) (fun _ _ => rfl) (fun _ => rfl) (fun _ => rfl) (fun _ => rfl) (fun _ => rfl) (fun _ _ _ => rfl) (fun _ => rfl) (fun _ => rfl) (fun _ => rfl) (fun _ => rfl) (fun _ _ _ => rfl) (fun _ => rfl) (fun _ => rfl) (fun _ => rfl) (fun _ => rfl) (fun _ _ _ => rfl) x.1 x.2).trans h) (ar78.da x)
theorem k77 : TOk Proofs.Tryz.prog 77 t77 := TL_ok ar77.wk fun x v h =>
   pure_ofT (l := []) (s := []) tys_ok eqts_ok follows Proofs.Tryz.func77 (c := Proofs.Tryz.f77.body.get rfl) rfl (by decide) (by kernel_rfl)  (H := H77) (N := 0) (shp := sh77)
     ((ev77 (by omega) rfl rfl rfl rfl  x).trans h) (ar77.da x)
theorem k2000 : ∀ (N : Nat), N ≤ 4611686018427387904 → TSOk Proofs.Tryz.prog 52 1 (t2000 N)
 | 0, _ => TLS_ok (fun x => ar2000.wk x.1) (fun x => st2000.wk x.2) fun x v s' h => by have h : none = some (v, s') := h; cases h
 | N + 1, hN => TLS_ok (fun x => ar2000.wk x.1) (fun x => st2000.wk x.2) fun x v s' h =>
   lens_ofT (l := [TE.lens 52 1 [.keep, .keep] (t2000 N) Proofs.Tryz.func52 (c := Proofs.Tryz.f52.body.get rfl) rfl (by decide) (k2000 N (by omega)), TE.inl tys eqts [TE.lent 41 (t41 N) (k41 N (by omega))] [] tys_ok eqts_ok follows 71 Proofs.Tryz.f71 Proofs.Tryz.func71 (c := Proofs.Tryz.f71.body.get rfl) rfl (by decide) (by kernel_rfl) H71 N, TE.inl tys eqts [] [] tys_ok eqts_ok follows 72 Proofs.Tryz.f72 Proofs.Tryz.func72 (c := Proofs.Tryz.f72.body.get rfl) rfl (by decide) (by kernel_rfl) H72 N, TE.inl tys eqts [TE.plain 95 (t95) k95, TE.inl tys eqts [] [] tys_ok eqts_ok follows 72 Proofs.Tryz.f72 Proofs.Tryz.func72 (c := Proofs.Tryz.f72.body.get rfl) rfl (by decide) (by kernel_rfl) H72 N] [] tys_ok eqts_ok follows 73 Proofs.Tryz.f73 Proofs.Tryz.func73 (c := Proofs.Tryz.f73.body.get rfl) rfl (by decide) (by kernel_rfl) H73 N, TE.plain 74 (t74 N) (k74 N (by omega)), TE.lens 75 1 [.keep, .keep, .keep, .keep] (t2001 N) Proofs.Tryz.func75 (c := Proofs.Tryz.f75.body.get rfl) rfl (by decide) (k2001 N (by omega)), TE.lens 76 1 [.keep, .keep, .give] (t2002 N) Proofs.Tryz.func76 (c := Proofs.Tryz.f76.body.get rfl) rfl (by decide) (k2002 N (by omega)), TE.lent 78 (t78 N) (k78 N (by omega)), TE.plain 77 (t77) k77]) (s := []) tys_ok eqts_ok follows Proofs.Tryz.func52 (c := Proofs.Tryz.f52.body.get rfl) rfl (by kernel_rfl)  (H := H2000) (N := N) (ms := [.give]) (shp := sh2000) (sho := sw2000)
     ((ev2000 (N := N) (E71 := fun n0 => mkT Proofs.Tryz.prog n0 tys eqts [TE.lent 41 (t41 N) (k41 N (by omega))] []) (E72 := fun n0 => mkT Proofs.Tryz.prog n0 tys eqts [] []) (E73 := fun n0 => mkT Proofs.Tryz.prog n0 tys eqts [TE.plain 95 (t95) k95, TE.inl tys eqts [] [] tys_ok eqts_ok follows 72 Proofs.Tryz.f72 Proofs.Tryz.func72 (c := Proofs.Tryz.f72.body.get rfl) rfl (by decide) (by kernel_rfl) H72 N] []) (by omega) (F1399 N) rfl rfl rfl rfl (fun _ _ => rfl) (fun _ _ => rfl) (fun _ _ => rfl) (fun _ _ => rfl) (fun _ _ => rfl) (fun _ _ => rfl) (fun _ _ => rfl) (fun _ _ => rfl) (fun _ _ => rfl) (fun _ => rfl) (fun _ => rfl) (fun _ => rfl) (fun _ => rfl) (fun _ _ _ => rfl) (fun _ => rfl) (fun _ => rfl) (fun _ => rfl) (fun _ => rfl) (fun _ => rfl) (fun _ => rfl) (fun _ => rfl) (fun _ => rfl) (fun _ _ _ => rfl) (fun _ _ _ => rfl) x.1.1 x.2.1.1 x.2.1.2.1).trans h) rfl (by decide)
theorem k30 (N : Nat) (hN : N ≤ 4611686018427387904) : TOk Proofs.Tryz.prog 30 (t30 N) := TL_ok ar30.wk fun x v h =>
   pure_ofT (l := [TE.plain 50 (t50 N) (k50 N (by omega)), TE.plain 51 (t51) k51, TE.plain 25 (t25 N) (k25 N (by omega)), TE.lens 52 1 [.keep, .keep] (t2000 N) Proofs.Tryz.func52 (c := Proofs.Tryz.f52.body.get rfl) rfl (by decide) (k2000 N (by omega)), TE.inlA ali40 [62] tys eqts [te62] [] tys_ok eqts_ok follows 40 Proofs.Tryz.f40 Proofs.Tryz.func40 (c := Proofs.Tryz.f40.body.get rfl) rfl (by decide) (by kernel_rfl) (growT_cons (fun _ _ _ _ h => clone_grown h) growT_nil (by decide)) H40 N]) (s := []) tys_ok eqts_ok follows Proofs.Tryz.func30 (c := Proofs.Tryz.f30.body.get rfl) rfl (by decide) (by kernel_rfl)  (H := H30) (N := N) (shp := sh30)
     ((ev30 (E40 := fun n0 => mkTA ali40 Proofs.Tryz.prog n0 tys eqts [te62] []) (by omega) rfl rfl rfl rfl (fun _ _ => rfl) (fun _ _ => rfl) (fun _ _ => rfl) (fun _ _ => rfl) (fun _ _ => rfl) (fun _ => rfl) (fun _ => rfl) (fun _ => rfl) (fun _ => rfl) (fun _ _ _ => rfl) x.1 x.2.1 x.2.2).trans h) (ar30.da x)
theorem k9 (N : Nat) (hN : N ≤ 4611686018427387904) : TOk Proofs.Tryz.prog 9 (t9 N) := TL_ok ar9.wk fun x v h =>
   pure_ofT (l := [TE.plain 30 (t30 N) (k30 N (by omega))]) (s := []) tys_ok eqts_ok follows Proofs.Tryz.func9 (c := Proofs.Tryz.f9.body.get rfl) rfl (by decide) (by kernel_rfl)  (H := H9) (N := N) (shp := sh9)
     ((ev9 (by omega) rfl rfl rfl rfl (fun _ _ => rfl) x.1 x.2).trans h) (ar9.da x)
theorem k6 (N : Nat) (hN : N ≤ 4611686018427387904) : TOk Proofs.Tryz.prog 6 (t6 N) := TL_ok ar6.wk fun x v h =>
   pure_ofT (l := [TE.plain 9 (t9 N) (k9 N (by omega))]) (s := []) tys_ok eqts_ok follows Proofs.Tryz.func6 (c := Proofs.Tryz.f6.body.get rfl) rfl (by decide) (by kernel_rfl)  (H := H6) (N := N) (shp := sh6)
     ((ev6 (by omega) rfl rfl rfl rfl (fun _ _ => rfl) ).trans h) (ar6.da x)
theorem k7 : ∀ (N : Nat), N ≤ 4611686018427387904 → TOk Proofs.Tryz.prog 7 (t7 N)
 | 0, _ => TL_ok ar7.wk fun x v h => by have h : none = some v := h; cases h
 | N + 1, hN => TL_ok ar7.wk fun x v h =>
   pure_ofT (l := [TE.plain 7 (t7 N) (k7 N (by omega))]) (s := []) tys_ok eqts_ok follows Proofs.Tryz.func7 (c := Proofs.Tryz.f7.body.get rfl) rfl (by decide) (by kernel_rfl)  (H := H7) (N := N) (shp := sh7)
     ((ev7 (by omega) (F27 N) rfl rfl rfl rfl (fun _ _ => rfl) x).trans h) (ar7.da x)
theorem k43 : TOk Proofs.Tryz.prog 43 t43 := TL_ok ar43.wk fun x v h =>
   pure_ofT (l := []) (s := []) tys_ok eqts_ok follows Proofs.Tryz.func43 (c := Proofs.Tryz.f43.body.get rfl) rfl (by decide) (by kernel_rfl)  (H := H43) (N := 0) (shp := sh43)
     ((ev43 (by omega) rfl rfl rfl rfl  x).trans h) (ar43.da x)
theorem k20 (N : Nat) (hN : N ≤ 4611686018427387904) : TOk Proofs.Tryz.prog 20 (t20 N) := TL_ok ar20.wk fun x v h =>
   pure_ofT (l := [TE.plain 43 (t43) k43]) (s := []) tys_ok eqts_ok follows Proofs.Tryz.func20 (c := Proofs.Tryz.f20.body.get rfl) rfl (by decide) (by kernel_rfl)  (H := H20) (N := N) (shp := sh20)
     ((ev20 (by omega) rfl rfl rfl rfl (fun _ _ => rfl) x).trans h) (ar20.da x)
theorem k8 (N : Nat) (hN : N ≤ 4611686018427387904) : TOk Proofs.Tryz.prog 8 (t8 N) := TL_ok ar8.wk fun x v h =>
   pure_ofT (l := [TE.plain 20 (t20 N) (k20 N (by omega))]) (s := []) tys_ok eqts_ok follows Proofs.Tryz.func8 (c := Proofs.Tryz.f8.body.get rfl) rfl (by decide) (by kernel_rfl)  (H := H8) (N := N) (shp := sh8)
     ((ev8 (by omega) rfl rfl rfl rfl (fun _ _ => rfl) x).trans h) (ar8.da x)
theorem k79 : ∀ (N : Nat), N ≤ 4611686018427387904 → TOk Proofs.Tryz.prog 79 (t79 N)
 | 0, _ => TL_ok ar79.wk fun x v h => by have h : none = some v := h; cases h
 | N + 1, hN => TL_ok ar79.wk fun x v h =>
   pure_ofT (l := [TE.plain 79 (t79 N) (k79 N (by omega))]) (s := []) tys_ok eqts_ok follows Proofs.Tryz.func79 (c := Proofs.Tryz.f79.body.get rfl) rfl (by decide) (by kernel_rfl)  (H := H79) (N := N) (shp := sh79)
     ((ev79 (by omega) (F39 N) rfl rfl rfl rfl (fun _ _ => rfl) x).trans h) (ar79.da x)
theorem k33 : TOk Proofs.Tryz.prog 33 t33 := TL_ok ar33.wk fun x v h =>
   pure_ofT (l := []) (s := []) tys_ok eqts_ok follows Proofs.Tryz.func33 (c := Proofs.Tryz.f33.body.get rfl) rfl (by decide) (by kernel_rfl)  (H := H33) (N := 0) (shp := sh33)
     ((ev33 (by omega) rfl rfl rfl rfl  x).trans h) (ar33.da x)
theorem k56 : TOk Proofs.Tryz.prog 56 t56 := TL_ok ar56.wk fun x v h =>
   pure_ofT (l := []) (s := []) tys_ok eqts_ok follows Proofs.Tryz.func56 (c := Proofs.Tryz.f56.body.get rfl) rfl (by decide) (by kernel_rfl)  (H := H56) (N := 0) (shp := sh56)
     ((ev56 (by omega) rfl rfl rfl rfl  ).trans h) (ar56.da x)
theorem k34 (N : Nat) (hN : N ≤ 4611686018427387904) : TOk Proofs.Tryz.prog 34 (t34 N) := TL_ok ar34.wk fun x v h =>
   pure_ofT (l := [TE.plain 56 (t56) k56]) (s := []) tys_ok eqts_ok follows Proofs.Tryz.func34 (c := Proofs.Tryz.f34.body.get rfl) rfl (by decide) (by kernel_rfl)  (H := H34) (N := N) (shp := sh34)
     ((ev34 (by omega) rfl rfl rfl rfl (fun _ _ => rfl) x).trans h) (ar34.da x)
theorem k35 : TOk Proofs.Tryz.prog 35 t35 := TL_ok ar35.wk fun x v h =>
   pure_ofT (l := []) (s := []) tys_ok eqts_ok follows Proofs.Tryz.func35 (c := Proofs.Tryz.f35.body.get rfl) rfl (by decide) (by kernel_rfl)  (H := H35) (N := 0) (shp := sh35)
     ((ev35 (by omega) rfl rfl rfl rfl  x).trans h) (ar35.da x)
theorem k14 (N : Nat) (hN : N ≤ 4611686018427387904) : TOk Proofs.Tryz.prog 14 (t14 N) := TL_ok ar14.wk fun x v h =>
   pure_ofT (l := [TE.plain 33 (t33) k33, TE.plain 34 (t34 N) (k34 N (by omega)), TE.plain 35 (t35) k35]) (s := []) tys_ok eqts_ok follows Proofs.Tryz.func14 (c := Proofs.Tryz.f14.body.get rfl) rfl (by decide) (by kernel_rfl)  (H := H14) (N := N) (shp := sh14)
     ((ev14 (by omega) rfl rfl rfl rfl (fun _ _ => rfl) (fun _ _ => rfl) (fun _ _ => rfl) x).trans h) (ar14.da x)
theorem k103 (N : Nat) (hN : N ≤ 4611686018427387904) : TOk Proofs.Tryz.prog 103 (t103 N) := TL_ok ar103.wk fun x v h =>
   pure_ofT (l := [TE.plain 14 (t14 N) (k14 N (by omega))]) (s := []) tys_ok eqts_ok follows Proofs.Tryz.func103 (c := Proofs.Tryz.f103.body.get rfl) rfl (by decide) (by kernel_rfl)  (H := H103) (N := N) (shp := sh103)
     ((ev103 (by omega) rfl rfl rfl rfl (fun _ _ => rfl) x).trans h) (ar103.da x)
theorem k16 : ∀ (N : Nat), N ≤ 4611686018427387904 → TOk Proofs.Tryz.prog 16 (t16 N)
 | 0, _ => TL_ok ar16.wk fun x v h => by have h : none = some v := h; cases h
 | N + 1, hN => TL_ok ar16.wk fun x v h =>
   pure_ofT (l := [TE.plain 16 (t16 N) (k16 N (by omega))]) (s := []) tys_ok eqts_ok follows Proofs.Tryz.func16 (c := Proofs.Tryz.f16.body.get rfl) rfl (by decide) (by kernel_rfl)  (H := H16) (N := N) (shp := sh16)
     ((ev16 (by omega) (F28 N) rfl rfl rfl rfl (fun _ _ => rfl) x).trans h) (ar16.da x)
theorem k104 : TOk Proofs.Tryz.prog 104 t104 := TL_ok ar104.wk fun x v h =>
   pure_ofT (l := []) (s := []) tys_ok eqts_ok follows Proofs.Tryz.func104 (c := Proofs.Tryz.f104.body.get rfl) rfl (by decide) (by kernel_rfl)  (H := H104) (N := 0) (shp := sh104)
     ((ev104 (by omega) rfl rfl rfl rfl  x).trans h) (ar104.da x)
theorem k105 : TOk Proofs.Tryz.prog 105 t105 := TL_ok ar105.wk fun x v h =>
   pure_ofT (l := []) (s := []) tys_ok eqts_ok follows Proofs.Tryz.func105 (c := Proofs.Tryz.f105.body.get rfl) rfl (by decide) (by kernel_rfl)  (H := H105) (N := 0) (shp := sh105)
     ((ev105 (by omega) rfl rfl rfl rfl  x).trans h) (ar105.da x)
theorem k80 : ∀ (N : Nat), N ≤ 4611686018427387904 → TOk Proofs.Tryz.prog 80 (t80 N)
 | 0, _ => TL_ok ar80.wk fun x v h => by have h : none = some v := h; cases h
 | N + 1, hN => TL_ok ar80.wk fun x v h =>
   pure_ofT (l := [TE.plain 103 (t103 N) (k103 N (by omega)), TE.plain 80 (t80 N) (k80 N (by omega)), TE.plain 16 (t16 N) (k16 N (by omega)), TE.plain 104 (t104) k104, TE.plain 105 (t105) k105]) (s := []) tys_ok eqts_ok follows Proofs.Tryz.func80 (c := Proofs.Tryz.f80.body.get rfl) rfl (by decide) (by kernel_rfl)  (H := H80) (N := N) (shp := sh80)
     ((ev80 (by omega) (F72 N) rfl rfl rfl rfl (fun _ _ => rfl) (fun _ _ => rfl) (fun _ _ => rfl) (fun _ _ => rfl) (fun _ _ => rfl) x).trans h) (ar80.da x)
theorem k84 : TOk Proofs.Tryz.prog 84 t84 := TL_ok ar84.wk fun x v h =>
   pure_ofT (l := []) (s := []) tys_ok eqts_ok follows Proofs.Tryz.func84 (c := Proofs.Tryz.f84.body.get rfl) rfl (by decide) (by kernel_rfl)  (H := H84) (N := 0) (shp := sh84)
     ((ev84 (by omega) rfl rfl rfl rfl  x.1 x.2).trans h) (ar84.da x)
theorem k57 (N : Nat) (hN : N ≤ 4611686018427387904) : TOk Proofs.Tryz.prog 57 (t57 N) := TL_ok ar57.wk fun x v h =>
   pure_ofT (l := [TE.plain 84 (t84) k84]) (s := []) tys_ok eqts_ok follows Proofs.Tryz.func57 (c := Proofs.Tryz.f57.body.get rfl) rfl (by decide) (by kernel_rfl)  (H := H57) (N := N) (shp := sh57)
     ((ev57 (by omega) rfl rfl rfl rfl (fun _ _ => rfl) x.1 x.2).trans h) (ar57.da x)
theorem k36 : ∀ (N : Nat), N ≤ 4611686018427387904 → TOk Proofs.Tryz.prog 36 (t36 N)
 | 0, _ => TL_ok ar36.wk fun x v h => by have h : none = some v := h; cases h
 | N + 1, hN => TL_ok ar36.wk fun x v h =>
   pure_ofT (l := [TE.plain 57 (t57 N) (k57 N (by omega)), TE.plain 36 (t36 N) (k36 N (by omega))]) (s := []) tys_ok eqts_ok follows Proofs.Tryz.func36 (c := Proofs.Tryz.f36.body.get rfl) rfl (by decide) (by kernel_rfl)  (H := H36) (N := N) (shp := sh36)
     ((ev36 (by omega) (F95 N) rfl rfl rfl rfl (fun _ _ => rfl) (fun _ _ => rfl) x.1 x.2).trans h) (ar36.da x)
theorem k15 (N : Nat) (hN : N ≤ 4611686018427387904) : TOk Proofs.Tryz.prog 15 (t15 N) := TL_ok ar15.wk fun x v h =>
   pure_ofT (l := [TE.plain 36 (t36 N) (k36 N (by omega))]) (s := []) tys_ok eqts_ok follows Proofs.Tryz.func15 (c := Proofs.Tryz.f15.body.get rfl) rfl (by decide) (by kernel_rfl)  (H := H15) (N := N) (shp := sh15)
     ((ev15 (by omega) rfl rfl rfl rfl (fun _ _ => rfl) x).trans h) (ar15.da x)
theorem k106 : ∀ (N : Nat), N ≤ 4611686018427387904 → TOk Proofs.Tryz.prog 106 (t106 N)
 | 0, _ => TL_ok ar106.wk fun x v h => by have h : none = some v := h; cases h
 | N + 1, hN => TL_ok ar106.wk fun x v h =>
   pure_ofT (l := [TE.plain 106 (t106 N) (k106 N (by omega))]) (s := []) tys_ok eqts_ok follows Proofs.Tryz.func106 (c := Proofs.Tryz.f106.body.get rfl) rfl (by decide) (by kernel_rfl)  (H := H106) (N := N) (shp := sh106)
     ((ev106 (by omega) (F92 N) rfl rfl rfl rfl (fun _ _ => rfl) x.1 x.2).trans h) (ar106.da x)
theorem k81 (N : Nat) (hN : N ≤ 4611686018427387904) : TOk Proofs.Tryz.prog 81 (t81 N) := TL_ok ar81.wk fun x v h =>
   pure_ofT (l := [TE.plain 15 (t15 N) (k15 N (by omega)), TE.plain 106 (t106 N) (k106 N (by omega))]) (s := []) tys_ok eqts_ok follows Proofs.Tryz.func81 (c := Proofs.Tryz.f81.body.get rfl) rfl (by decide) (by kernel_rfl)  (H := H81) (N := N) (shp := sh81)
     ((ev81 (by omega) rfl rfl rfl rfl (fun _ _ => rfl) (fun _ _ => rfl) x).trans h) (ar81.da x)
theorem k53 (N : Nat) (hN : N ≤ 4611686018427387904) : TOk Proofs.Tryz.prog 53 (t53 N) := TL_ok ar53.wk fun x v h =>
   pure_ofT (l := [TE.plain 7 (t7 N) (k7 N (by omega)), TE.plain 79 (t79 N) (k79 N (by omega)), TE.plain 80 (t80 N) (k80 N (by omega)), TE.plain 81 (t81 N) (k81 N (by omega)), TE.plain 16 (t16 N) (k16 N (by omega))]) (s := []) tys_ok eqts_ok follows Proofs.Tryz.func53 (c := Proofs.Tryz.f53.body.get rfl) rfl (by decide) (by kernel_rfl)  (H := H53) (N := N) (shp := sh53)
     ((ev53 (by omega) rfl rfl rfl rfl (fun _ _ => rfl) (fun _ _ => rfl) (fun _ _ => rfl) (fun _ _ => rfl) (fun _ _ => rfl) x.1 x.2).trans h) (ar53.da x)
theorem k54 : ∀ (N : Nat), N ≤ 4611686018427387904 → TOk Proofs.Tryz.prog 54 (t54 N)
 | 0, _ => TL_ok ar54.wk fun x v h => by have h : none = some v := h; cases h
 | N + 1, hN => TL_ok ar54.wk fun x v h =>
   pure_ofT (l := [TE.plain 54 (t54 N) (k54 N (by omega))]) (s := []) tys_ok eqts_ok follows Proofs.Tryz.func54 (c := Proofs.Tryz.f54.body.get rfl) rfl (by decide) (by kernel_rfl)  (H := H54) (N := N) (shp := sh54)
     ((ev54 (by omega) (F43 N) rfl rfl rfl rfl (fun _ _ => rfl) x).trans h) (ar54.da x)
theorem k48 : TOk Proofs.Tryz.prog 48 t48 := TL_ok ar48.wk fun x v h =>
   pure_ofT (l := []) (s := []) tys_ok eqts_ok follows Proofs.Tryz.func48 (c := Proofs.Tryz.f48.body.get rfl) rfl (by decide) (by kernel_rfl)  (H := H48) (N := 0) (shp := sh48)
     ((ev48 (by omega) rfl rfl rfl rfl  x).trans h) (ar48.da x)
theorem k49 (N : Nat) (hN : N ≤ 4611686018427387904) : TOk Proofs.Tryz.prog 49 (t49 N) := TL_ok ar49.wk fun x v h =>
   pure_ofT (l := [TE.plain 48 (t48) k48]) (s := []) tys_ok eqts_ok follows Proofs.Tryz.func49 (c := Proofs.Tryz.f49.body.get rfl) rfl (by decide) (by kernel_rfl)  (H := H49) (N := N) (shp := sh49)
     ((ev49 (by omega) rfl rfl rfl rfl (fun _ _ => rfl) x).trans h) (ar49.da x)
theorem k28 (N : Nat) (hN : N ≤ 4611686018427387904) : TOk Proofs.Tryz.prog 28 (t28 N) := TL_ok ar28.wk fun x v h =>
   pure_ofT (l := [TE.plain 48 (t48) k48, TE.plain 49 (t49 N) (k49 N (by omega))]) (s := []) tys_ok eqts_ok follows Proofs.Tryz.func28 (c := Proofs.Tryz.f28.body.get rfl) rfl (by decide) (by kernel_rfl)  (H := H28) (N := N) (shp := sh28)
     ((ev28 (by omega) rfl rfl rfl rfl (fun _ _ => rfl) (fun _ _ => rfl) x).trans h) (ar28.da x)
theorem k44 (N : Nat) (hN : N ≤ 4611686018427387904) : TOk Proofs.Tryz.prog 44 (t44 N) := TL_ok ar44.wk fun x v h =>
   pure_ofT (l := [TE.plain 14 (t14 N) (k14 N (by omega)), TE.plain 28 (t28 N) (k28 N (by omega))]) (s := []) tys_ok eqts_ok follows Proofs.Tryz.func44 (c := Proofs.Tryz.f44.body.get rfl) rfl (by decide) (by kernel_rfl)  (H := H44) (N := N) (shp := sh44)
     ((ev44 (by omega) rfl rfl rfl rfl (fun _ _ => rfl) (fun _ _ => rfl) x).trans h) (ar44.da x)
theorem k32 (N : Nat) (hN : N ≤ 4611686018427387904) : TOk Proofs.Tryz.prog 32 (t32 N) := TL_ok ar32.wk fun x v h =>
   pure_ofT (l := []) (s := []) tys_ok eqts_ok follows Proofs.Tryz.func32 (c := Proofs.Tryz.f32.body.get rfl) rfl (by decide) (by kernel_rfl)  (H := H32) (N := N) (shp := sh32)
     ((ev32 (by omega) rfl rfl rfl rfl  x.1 x.2).trans h) (ar32.da x)
theorem k11 (N : Nat) (hN : N ≤ 4611686018427387904) : TOk Proofs.Tryz.prog 11 (t11 N) := TL_ok ar11.wk fun x v h =>
   pure_ofT (l := [TE.plain 32 (t32 N) (k32 N (by omega))]) (s := []) tys_ok eqts_ok follows Proofs.Tryz.func11 (c := Proofs.Tryz.f11.body.get rfl) rfl (by decide) (by kernel_rfl)  (H := H11) (N := N) (shp := sh11)
     ((ev11 (by omega) rfl rfl rfl rfl (fun _ _ => rfl) x.1 x.2).trans h) (ar11.da x)
theorem k65 (N : Nat) (hN : N ≤ 4611686018427387904) : TOk Proofs.Tryz.prog 65 (t65 N) := TL_ok ar65.wk fun x v h =>
   pure_ofT (l := [TE.plain 11 (t11 N) (k11 N (by omega))]) (s := []) tys_ok eqts_ok follows Proofs.Tryz.func65 (c := Proofs.Tryz.f65.body.get rfl) rfl (by decide) (by kernel_rfl)  (H := H65) (N := N) (shp := sh65)
     ((ev65 (by omega) rfl rfl rfl rfl (fun _ _ => rfl) x.1 x.2).trans h) (ar65.da x)
theorem k45 (N : Nat) (hN : N ≤ 4611686018427387904) : TOk Proofs.Tryz.prog 45 (t45 N) := TL_ok ar45.wk fun x v h =>
   pure_ofT (l := [TE.plain 65 (t65 N) (k65 N (by omega))]) (s := []) tys_ok eqts_ok follows Proofs.Tryz.func45 (c := Proofs.Tryz.f45.body.get rfl) rfl (by decide) (by kernel_rfl)  (H := H45) (N := N) (shp := sh45)
     ((ev45 (by omega) rfl rfl rfl rfl (fun _ _ => rfl) x.1 x.2).trans h) (ar45.da x)
theorem k26 (N : Nat) (hN : N ≤ 4611686018427387904) : TOk Proofs.Tryz.prog 26 (t26 N) := TL_ok ar26.wk fun x v h =>
   pure_ofT (l := [TE.plain 44 (t44 N) (k44 N (by omega)), TE.plain 45 (t45 N) (k45 N (by omega))]) (s := []) tys_ok eqts_ok follows Proofs.Tryz.func26 (c := Proofs.Tryz.f26.body.get rfl) rfl (by decide) (by kernel_rfl)  (H := H26) (N := N) (shp := sh26)
     ((ev26 (by omega) rfl rfl rfl rfl (fun _ _ => rfl) (fun _ _ => rfl) x).trans h) (ar26.da x)
theorem k82 (N : Nat) (hN : N ≤ 4611686018427387904) : TOk Proofs.Tryz.prog 82 (t82 N) := TL_ok ar82.wk fun x v h =>
   pure_ofT (l := [TE.plain 65 (t65 N) (k65 N (by omega))]) (s := []) tys_ok eqts_ok follows Proofs.Tryz.func82 (c := Proofs.Tryz.f82.body.get rfl) rfl (by decide) (by kernel_rfl)  (H := H82) (N := N) (shp := sh82)
     ((ev82 (by omega) rfl rfl rfl rfl (fun _ _ => rfl) x.1 x.2.1 x.2.2.1 x.2.2.2).trans h) (ar82.da x)
theorem k107 : TOk Proofs.Tryz.prog 107 t107 := TL_ok ar107.wk fun x v h =>
   pure_ofT (l := [TE.plain 48 (t48) k48]) (s := []) tys_ok eqts_ok follows Proofs.Tryz.func107 (c := Proofs.Tryz.f107.body.get rfl) rfl (by decide) (by kernel_rfl)  (H := H107) (N := 0) (shp := sh107)
     ((ev107 (by omega) rfl rfl rfl rfl (fun _ _ => rfl) x).trans h) (ar107.da x)
theorem k108 : TOk Proofs.Tryz.prog 108 t108 := TL_ok ar108.wk fun x v h =>
   pure_ofT (l := [TE.plain 107 (t107) k107]) (s := []) tys_ok eqts_ok follows Proofs.Tryz.func108 (c := Proofs.Tryz.f108.body.get rfl) rfl (by decide) (by kernel_rfl)  (H := H108) (N := 0) (shp := sh108)
     ((ev108 (by omega) rfl rfl rfl rfl (fun _ _ => rfl) x.1 x.2).trans h) (ar108.da x)
theorem k124 (N : Nat) (hN : N ≤ 4611686018427387904) : TOk Proofs.Tryz.prog 124 (t124 N) := TL_ok ar124.wk fun x v h =>
   pure_ofT (l := []) (s := []) tys_ok eqts_ok follows Proofs.Tryz.func124 (c := Proofs.Tryz.f124.body.get rfl) rfl (by decide) (by kernel_rfl)  (H := H124) (N := N) (shp := sh124)
     ((ev124 (by omega) rfl rfl rfl rfl  x.1 x.2).trans h) (ar124.da x)
theorem k125 (N : Nat) (hN : N ≤ 4611686018427387904) : TOk Proofs.Tryz.prog 125 (t125 N) := TL_ok ar125.wk fun x v h =>
   pure_ofT (l := [TE.plain 124 (t124 N) (k124 N (by omega))]) (s := []) tys_ok eqts_ok follows Proofs.Tryz.func125 (c := Proofs.Tryz.f125.body.get rfl) rfl (by decide) (by kernel_rfl)  (H := H125) (N := N) (shp := sh125)
     ((ev125 (by omega) rfl rfl rfl rfl (fun _ _ => rfl) x.1 x.2).trans h) (ar125.da x)
theorem k109 (N : Nat) (hN : N ≤ 4611686018427387904) : TOk Proofs.Tryz.prog 109 (t109 N) := TL_ok ar109.wk fun x v h =>
   pure_ofT (l := [TE.plain 124 (t124 N) (k124 N (by omega)), TE.given 125 (t125 N) (k125 N (by omega))]) (s := []) tys_ok eqts_ok follows Proofs.Tryz.func109 (c := Proofs.Tryz.f109.body.get rfl) rfl (by decide) (by kernel_rfl)  (H := H109) (N := N) (shp := sh109)
     ((ev109 (by omega) rfl rfl rfl rfl (fun _ _ => rfl) (fun _ _ => rfl) x.1 x.2.1 x.2.2).trans h) (ar109.da x)
theorem k110 (N : Nat) (hN : N ≤ 4611686018427387904) : TOk Proofs.Tryz.prog 110 (t110 N) := TL_ok ar110.wk fun x v h =>
   pure_ofT (l := []) (s := []) tys_ok eqts_ok follows Proofs.Tryz.func110 (c := Proofs.Tryz.f110.body.get rfl) rfl (by decide) (by kernel_rfl)  (H := H110) (N := N) (shp := sh110)
     ((ev110 (by omega) rfl rfl rfl rfl  x.1 x.2).trans h) (ar110.da x)
theorem k111 (N : Nat) (hN : N ≤ 4611686018427387904) : TOk Proofs.Tryz.prog 111 (t111 N) := TL_ok ar111.wk fun x v h =>
   pure_ofT (l := [TE.plain 125 (t125 N) (k125 N (by omega)), TE.plain 110 (t110 N) (k110 N (by omega))]) (s := []) tys_ok eqts_ok follows Proofs.Tryz.func111 (c := Proofs.Tryz.f111.body.get rfl) rfl (by decide) (by kernel_rfl)  (H := H111) (N := N) (shp := sh111)
     ((ev111 (by omega) rfl rfl rfl rfl (fun _ _ => rfl) (fun _ _ => rfl) x.1 x.2.1 x.2.2).trans h) (ar111.da x)
theorem k126 : TOk Proofs.Tryz.prog 126 t126 := TL_ok ar126.wk fun x v h =>
   pure_ofT (l := []) (s := []) tys_ok eqts_ok follows Proofs.Tryz.func126 (c := Proofs.Tryz.f126.body.get rfl) rfl (by decide) (by kernel_rfl)  (H := H126) (N := 0) (shp := sh126)
     ((ev126 (by omega) rfl rfl rfl rfl  x).trans h) (ar126.da x)
theorem k112 (N : Nat) (hN : N ≤ 4611686018427387904) : TOk Proofs.Tryz.prog 112 (t112 N) := TL_ok ar112.wk fun x v h =>
   pure_ofT (l := [TE.plain 126 (t126) k126, TE.plain 11 (t11 N) (k11 N (by omega)), TE.plain 124 (t124 N) (k124 N (by omega))]) (s := []) tys_ok eqts_ok follows Proofs.Tryz.func112 (c := Proofs.Tryz.f112.body.get rfl) rfl (by decide) (by kernel_rfl)  (H := H112) (N := N) (shp := sh112)
     ((ev112 (by omega) rfl rfl rfl rfl (fun _ _ => rfl) (fun _ _ => rfl) (fun _ _ => rfl) x.1 x.2).trans h) (ar112.da x)
theorem k83 (N : Nat) (hN : N ≤ 4611686018427387904) : TOk Proofs.Tryz.prog 83 (t83 N) := TL_ok ar83.wk fun x v h =>
   pure_ofTA ali83 [] (l := [TE.plain 107 (t107) k107, TE.plain 108 (t108) k108, TE.plain 109 (t109 N) (k109 N (by omega)), TE.plain 110 (t110 N) (k110 N (by omega)), TE.plain 111 (t111 N) (k111 N (by omega)), TE.plain 112 (t112 N) (k112 N (by omega))]) (s := []) tys_ok eqts_ok follows Proofs.Tryz.func83 (c := Proofs.Tryz.f83.body.get rfl) rfl (by decide) (by kernel_rfl) growT_nil (H := H83) (N := N) (shp := sh83)
     ((ev83 (by omega) rfl rfl rfl rfl (fun _ _ => rfl) (fun _ _ => rfl) (fun _ _ => rfl) (fun _ _ => rfl) (fun _ _ => rfl) (fun _ _ => rfl) x.1 x.2).trans h) (ar83.da x)
theorem k55 : ∀ (N : Nat), N ≤ 4611686018427387904 → TOk Proofs.Tryz.prog 55 (t55 N)
 | 0, _ => TL_ok ar55.wk fun x v h => by have h : none = some v := h; cases h
 | N + 1, hN => TL_ok ar55.wk fun x v h =>
   pure_ofT (l := [TE.plain 55 (t55 N) (k55 N (by omega)), TE.plain 16 (t16 N) (k16 N (by omega)), TE.given 82 (t82 N) (k82 N (by omega)), TE.given 83 (t83 N) (k83 N (by omega))]) (s := []) tys_ok eqts_ok follows Proofs.Tryz.func55 (c := Proofs.Tryz.f55.body.get rfl) rfl (by decide) (by kernel_rfl)  (H := H55) (N := N) (shp := sh55)
     ((ev55 (by omega) (F127 N) rfl rfl rfl rfl (fun _ _ => rfl) (fun _ _ => rfl) (fun _ _ => rfl) (fun _ _ => rfl) x.1 x.2).trans h) (ar55.da x)
theorem k31 (N : Nat) (hN : N ≤ 4611686018427387904) : TOk Proofs.Tryz.prog 31 (t31 N) := TL_ok ar31.wk fun x v h =>
   pure_ofT (l := [TE.plain 53 (t53 N) (k53 N (by omega)), TE.plain 54 (t54 N) (k54 N (by omega)), TE.plain 26 (t26 N) (k26 N (by omega)), TE.plain 55 (t55 N) (k55 N (by omega))]) (s := []) tys_ok eqts_ok follows Proofs.Tryz.func31 (c := Proofs.Tryz.f31.body.get rfl) rfl (by decide) (by kernel_rfl)  (H := H31) (N := N) (shp := sh31)
     ((ev31 (by omega) rfl rfl rfl rfl (fun _ _ => rfl) (fun _ _ => rfl) (fun _ _ => rfl) (fun _ _ => rfl) x.1 x.2.1 x.2.2).trans h) (ar31.da x)
theorem k10 (N : Nat) (hN : N ≤ 4611686018427387904) : TOk Proofs.Tryz.prog 10 (t10 N) := TL_ok ar10.wk fun x v h =>
   pure_ofT (l := [TE.plain 31 (t31 N) (k31 N (by omega))]) (s := []) tys_ok eqts_ok follows Proofs.Tryz.func10 (c := Proofs.Tryz.f10.body.get rfl) rfl (by decide) (by kernel_rfl)  (H := H10) (N := N) (shp := sh10)
     ((ev10 (by omega) rfl rfl rfl rfl (fun _ _ => rfl) x.1 x.2).trans h) (ar10.da x)
theorem k12 (N : Nat) (hN : N ≤ 4611686018427387904) : TOk Proofs.Tryz.prog 12 (t12 N) := TL_ok ar12.wk fun x v h =>
   pure_ofT (l := [TE.plain 30 (t30 N) (k30 N (by omega))]) (s := []) tys_ok eqts_ok follows Proofs.Tryz.func12 (c := Proofs.Tryz.f12.body.get rfl) rfl (by decide) (by kernel_rfl)  (H := H12) (N := N) (shp := sh12)
     ((ev12 (by omega) rfl rfl rfl rfl (fun _ _ => rfl) x.1 x.2).trans h) (ar12.da x)
theorem k13 (N : Nat) (hN : N ≤ 4611686018427387904) : TOk Proofs.Tryz.prog 13 (t13 N) := TL_ok ar13.wk fun x v h =>
   pure_ofT (l := [TE.plain 31 (t31 N) (k31 N (by omega))]) (s := []) tys_ok eqts_ok follows Proofs.Tryz.func13 (c := Proofs.Tryz.f13.body.get rfl) rfl (by decide) (by kernel_rfl)  (H := H13) (N := N) (shp := sh13)
     ((ev13 (by omega) rfl rfl rfl rfl (fun _ _ => rfl) x.1 x.2).trans h) (ar13.da x)
theorem k3 (N : Nat) (hN : N ≤ 4611686018427387904) : TOk Proofs.Tryz.prog 3 (t3 N) := TL_ok ar3.wk fun x v h =>
   pure_ofT (l := [TE.plain 6 (t6 N) (k6 N (by omega)), TE.plain 7 (t7 N) (k7 N (by omega)), TE.plain 8 (t8 N) (k8 N (by omega)), TE.plain 9 (t9 N) (k9 N (by omega)), TE.plain 10 (t10 N) (k10 N (by omega)), TE.plain 11 (t11 N) (k11 N (by omega)), TE.plain 12 (t12 N) (k12 N (by omega)), TE.plain 13 (t13 N) (k13 N (by omega))]) (s := []) tys_ok eqts_ok follows Proofs.Tryz.func3 (c := Proofs.Tryz.f3.body.get rfl) rfl (by decide) (by kernel_rfl)  (H := H3) (N := N) (shp := sh3)
     ((ev3 (by omega) rfl rfl rfl rfl (fun _ _ => rfl) (fun _ _ => rfl) (fun _ _ => rfl) (fun _ _ => rfl) (fun _ _ => rfl) (fun _ _ => rfl) (fun _ _ => rfl) (fun _ _ => rfl) x.1 x.2).trans h) (ar3.da x)
end Go.Abs.Try
