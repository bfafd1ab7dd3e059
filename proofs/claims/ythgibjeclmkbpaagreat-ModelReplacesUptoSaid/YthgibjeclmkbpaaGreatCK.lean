import Derived.Test.YthgibjeclmkbpaaGreatCVal0toCVal
import Derived.Test.YthgibjeclmkbpaaGreatCV0
import Derived.Test.YthgibjeclmkbpaaGreatCV1
import Derived.Test.YthgibjeclmkbpaaGreatCV2
import Derived.Test.YthgibjeclmkbpaaGreatCV3
import Derived.Test.YthgibjeclmkbpaaGreatCV4
import Derived.Test.YthgibjeclmkbpaaGreatCV5
set_option linter.unusedSimpArgs false
set_option linter.unusedVariables false
namespace Go.Abs.Try
open Go.RowKit
set_option maxRecDepth 100000
set_option maxHeartbeats 40000000
theorem k95 : TOk Proofs.Tryz.prog 95 t95 := TL_ok ar95.wk fun x v h =>
   pure_ofT (l := []) (s := []) tys_ok eqts_ok follows Proofs.Tryz.func95 (c := Proofs.Tryz.f95.body.get rfl) rfl (by decide) (by kernel_rfl)  (H := H95) (N := 0) (shp := sh95)
     ((ev95 (by omega) rfl rfl rfl rfl  x).trans h) (ar95.da x)
theorem k127 : TOk Proofs.Tryz.prog 127 t127 := TL_ok ar127.wk fun x v h =>
   pure_ofT (l := []) (s := []) tys_ok eqts_ok follows Proofs.Tryz.func127 (c := Proofs.Tryz.f127.body.get rfl) rfl (by decide) (by kernel_rfl)  (H := H127) (N := 0) (shp := sh127)
     ((ev127 (by omega) rfl rfl rfl rfl  x).trans h) (ar127.da x)
theorem k117 : TOk Proofs.Tryz.prog 117 t117 := TL_ok ar117.wk fun x v h =>
   pure_ofT (l := [TE.plain 127 (t127) k127]) (s := []) tys_ok eqts_ok follows Proofs.Tryz.func117 (c := Proofs.Tryz.f117.body.get rfl) rfl (by decide) (by kernel_rfl)  (H := H117) (N := 0) (shp := sh117)
     ((ev117 (by omega) rfl rfl rfl rfl (fun _ _ => rfl) x.1 x.2).trans h) (ar117.da x)
theorem k118 : TOk Proofs.Tryz.prog 118 t118 := TL_ok ar118.wk fun x v h =>
   pure_ofT (l := []) (s := []) tys_ok eqts_ok follows Proofs.Tryz.func118 (c := Proofs.Tryz.f118.body.get rfl) rfl (by decide) (by kernel_rfl)  (H := H118) (N := 0) (shp := sh118)
     ((ev118 (by omega) rfl rfl rfl rfl  x).trans h) (ar118.da x)
theorem k96 (N : Nat) (hN : N ≤ 4611686018427387904) : TOk Proofs.Tryz.prog 96 (t96 N) := TL_ok ar96.wk fun x v h =>
   pure_ofT (l := [TE.plain 117 (t117) k117,TE.plain 118 (t118) k118]) (s := []) tys_ok eqts_ok follows Proofs.Tryz.func96 (c := Proofs.Tryz.f96.body.get rfl) rfl (by decide) (by kernel_rfl)  (H := H96) (N := N) (shp := sh96)
     ((ev96 (by omega) rfl rfl rfl rfl (fun _ _ => rfl) (fun _ _ => rfl) x.1 x.2).trans h) (ar96.da x)
theorem k74 (N : Nat) (hN : N ≤ 4611686018427387904) : TOk Proofs.Tryz.prog 74 (t74 N) := TL_ok ar74.wk fun x v h =>
   pure_ofT (l := [TE.plain 96 (t96 N) (k96 N (by omega))]) (s := []) tys_ok eqts_ok follows Proofs.Tryz.func74 (c := Proofs.Tryz.f74.body.get rfl) rfl (by decide) (by kernel_rfl)  (H := H74) (N := N) (shp := sh74)
     ((ev74 (by omega) rfl rfl rfl rfl (fun _ _ => rfl) x.1 x.2).trans h) (ar74.da x)
theorem k2001 (N : Nat) (hN : N ≤ 4611686018427387904) : TSOk Proofs.Tryz.prog 75 1 (t2001 N) := TLS_ok (fun x => ar2001.wk x.1) (fun x => st2001.wk x.2) fun x v s' h =>
   lens_ofTA ali2001 [97,98] (l := [TE.inlA ali40 [62] tys eqts [te62] [] tys_ok eqts_ok follows 40 Proofs.Tryz.f40 Proofs.Tryz.func40 (c := Proofs.Tryz.f40.body.get rfl) rfl (by decide) (by kernel_rfl) (growT_cons (fun _ _ _ _ h => clone_grown h) growT_nil (by decide)) H40 N,TE.lent 96 (t96 N) (k96 N (by omega)),te97,te98]) (s := []) tys_ok eqts_ok follows Proofs.Tryz.func75 (c := Proofs.Tryz.f75.body.get rfl) rfl (by kernel_rfl) (growT_cons (fun _ _ _ _ h => del_grown h) (growT_cons (fun _ _ _ _ h => insert_grown h) growT_nil (by decide)) (by decide)) (H := H2001) (N := N) (ms := [.give]) (shp := sh2001) (sho := sw2001)
     ((ev2001 (N := N) (E40 := fun n0 => mkTA ali40 Proofs.Tryz.prog n0 tys eqts [te62] []) (by omega) rfl rfl rfl rfl (fun _ _ => rfl) (fun _ _ => rfl) (fun _ _ => rfl) (fun _ _ => rfl) (fun _ => rfl) (fun _ => rfl) (fun _ => rfl) (fun _ => rfl) (fun _ _ _ => rfl) x.1.1 x.1.2.1 x.1.2.2.1 x.2.1.1 x.2.1.2.1).trans h) rfl (by decide)
theorem k2002 (N : Nat) (hN : N ≤ 4611686018427387904) : TSOk Proofs.Tryz.prog 76 1 (t2002 N) := TLS_ok (fun x => ar2002.wk x.1) (fun x => st2002.wk x.2) fun x v s' h =>
   lens_ofTA ali2002 [62] (l := [te62,te99,te100,TE.plain 96 (t96 N) (k96 N (by omega))]) (s := []) tys_ok eqts_ok follows Proofs.Tryz.func76 (c := Proofs.Tryz.f76.body.get rfl) rfl (by kernel_rfl) (growT_cons (fun _ _ _ _ h => clone_grown h) growT_nil (by decide)) (H := H2002) (N := N) (ms := [.give]) (shp := sh2002) (sho := sw2002)
     ((ev2002 (N := N) (by omega) rfl rfl rfl rfl (fun _ _ => rfl) (fun _ _ => rfl) (fun _ _ => rfl) (fun _ _ => rfl) x.1.1 x.1.2.1 x.2.1.1 x.2.1.2.1).trans h) rfl (by decide)
theorem k78 (N : Nat) (hN : N ≤ 4611686018427387904) : TOk Proofs.Tryz.prog 78 (t78 N) := TL_ok ar78.wk fun x v h =>
   pure_ofT (l := [TE.plain 24 (t24 N) (k24 N (by omega)),TE.plain 96 (t96 N) (k96 N (by omega)),TE.inl tys eqts [TE.inl tys eqts [TE.inl tys eqts [TE.plain 96 (t96 N) (k96 N (by omega))] [] tys_ok eqts_ok follows 102 Proofs.Tryz.f102 Proofs.Tryz.func102 (c := Proofs.Tryz.f102.body.get rfl) rfl (by decide) (by kernel_rfl) H102 N] [] tys_ok eqts_ok follows 123 Proofs.Tryz.f123 Proofs.Tryz.func123 (c := Proofs.Tryz.f123.body.get rfl) rfl (by decide) (by kernel_rfl) H123 N] [] tys_ok eqts_ok follows 101 Proofs.Tryz.f101 Proofs.Tryz.func101 (c := Proofs.Tryz.f101.body.get rfl) rfl (by decide) (by kernel_rfl) H101 N]) (s := []) tys_ok eqts_ok follows Proofs.Tryz.func78 (c := Proofs.Tryz.f78.body.get rfl) rfl (by decide) (by kernel_rfl)  (H := H78) (N := N) (shp := sh78)
     ((ev78 (E101 := fun n0 => mkT Proofs.Tryz.prog n0 tys eqts [TE.inl tys eqts [TE.inl tys eqts [TE.plain 96 (t96 N) (k96 N (by omega))] [] tys_ok eqts_ok follows 102 Proofs.Tryz.f102 Proofs.Tryz.func102 (c := Proofs.Tryz.f102.body.get rfl) rfl (by decide) (by kernel_rfl) H102 N] [] tys_ok eqts_ok follows 123 Proofs.Tryz.f123 Proofs.Tryz.func123 (c := Proofs.Tryz.f123.body.get rfl) rfl (by decide) (by kernel_rfl) H123 N] []) (E123 := fun n0 => mkT Proofs.Tryz.prog n0 tys eqts [TE.inl tys eqts [TE.plain 96 (t96 N) (k96 N (by omega))] [] tys_ok eqts_ok follows 102 Proofs.Tryz.f102 Proofs.Tryz.func102 (c := Proofs.Tryz.f102.body.get rfl) rfl (by decide) (by kernel_rfl) H102 N] []) (E102 := fun n0 => mkT Proofs.Tryz.prog n0 tys eqts [TE.plain 96 (t96 N) (k96 N (by omega))] []) (by omega) rfl rfl rfl rfl (fun _ _ => rfl) (fun _ _ => rfl) (fun _ _ => rfl) (fun _ => rfl) (fun _ => rfl) (fun _ => rfl) (fun _ => rfl) (fun _ _ _ => rfl) (fun _ => rfl) (fun _ => rfl) (fun _ => rfl) (fun _ => rfl) (fun _ _ _ => rfl) (fun _ => rfl) (fun _ => rfl) (fun _ => rfl) (fun _ => rfl) (fun _ _ _ => rfl) x.1 x.2).trans h) (ar78.da x)
theorem k77 : TOk Proofs.Tryz.prog 77 t77 := TL_ok ar77.wk fun x v h =>
   pure_ofT (l := []) (s := []) tys_ok eqts_ok follows Proofs.Tryz.func77 (c := Proofs.Tryz.f77.body.get rfl) rfl (by decide) (by kernel_rfl)  (H := H77) (N := 0) (shp := sh77)
     ((ev77 (by omega) rfl rfl rfl rfl  x).trans h) (ar77.da x)
theorem k2000 : ∀ (N : Nat),N ≤ 4611686018427387904 → TSOk Proofs.Tryz.prog 52 1 (t2000 N)
 | 0,_ => TLS_ok (fun x => ar2000.wk x.1) (fun x => st2000.wk x.2) fun x v s' h => by have h : none = some (v,s') := h; cases h
 | N + 1,hN => TLS_ok (fun x => ar2000.wk x.1) (fun x => st2000.wk x.2) fun x v s' h =>
   lens_ofT (l := [TE.lens 52 1 [.keep,.keep] (t2000 N) Proofs.Tryz.func52 (c := Proofs.Tryz.f52.body.get rfl) rfl (by decide) (k2000 N (by omega)),TE.inl tys eqts [TE.lent 41 (t41 N) (k41 N (by omega))] [] tys_ok eqts_ok follows 71 Proofs.Tryz.f71 Proofs.Tryz.func71 (c := Proofs.Tryz.f71.body.get rfl) rfl (by decide) (by kernel_rfl) H71 N,TE.inl tys eqts [] [] tys_ok eqts_ok follows 72 Proofs.Tryz.f72 Proofs.Tryz.func72 (c := Proofs.Tryz.f72.body.get rfl) rfl (by decide) (by kernel_rfl) H72 N,TE.inl tys eqts [TE.plain 95 (t95) k95,TE.inl tys eqts [] [] tys_ok eqts_ok follows 72 Proofs.Tryz.f72 Proofs.Tryz.func72 (c := Proofs.Tryz.f72.body.get rfl) rfl (by decide) (by kernel_rfl) H72 N] [] tys_ok eqts_ok follows 73 Proofs.Tryz.f73 Proofs.Tryz.func73 (c := Proofs.Tryz.f73.body.get rfl) rfl (by decide) (by kernel_rfl) H73 N,TE.plain 74 (t74 N) (k74 N (by omega)),TE.lens 75 1 [.keep,.keep,.keep,.keep] (t2001 N) Proofs.Tryz.func75 (c := Proofs.Tryz.f75.body.get rfl) rfl (by decide) (k2001 N (by omega)),TE.lens 76 1 [.keep,.keep,.give] (t2002 N) Proofs.Tryz.func76 (c := Proofs.Tryz.f76.body.get rfl) rfl (by decide) (k2002 N (by omega)),TE.lent 78 (t78 N) (k78 N (by omega)),TE.plain 77 (t77) k77]) (s := []) tys_ok eqts_ok follows Proofs.Tryz.func52 (c := Proofs.Tryz.f52.body.get rfl) rfl (by kernel_rfl)  (H := H2000) (N := N) (ms := [.give]) (shp := sh2000) (sho := sw2000)
     ((ev2000 (N := N) (E71 := fun n0 => mkT Proofs.Tryz.prog n0 tys eqts [TE.lent 41 (t41 N) (k41 N (by omega))] []) (E72 := fun n0 => mkT Proofs.Tryz.prog n0 tys eqts [] []) (E73 := fun n0 => mkT Proofs.Tryz.prog n0 tys eqts [TE.plain 95 (t95) k95,TE.inl tys eqts [] [] tys_ok eqts_ok follows 72 Proofs.Tryz.f72 Proofs.Tryz.func72 (c := Proofs.Tryz.f72.body.get rfl) rfl (by decide) (by kernel_rfl) H72 N] []) (by omega) (F1399 N) rfl rfl rfl rfl (fun _ _ => rfl) (fun _ _ => rfl) (fun _ _ => rfl) (fun _ _ => rfl) (fun _ _ => rfl) (fun _ _ => rfl) (fun _ _ => rfl) (fun _ _ => rfl) (fun _ _ => rfl) (fun _ => rfl) (fun _ => rfl) (fun _ => rfl) (fun _ => rfl) (fun _ _ _ => rfl) (fun _ => rfl) (fun _ => rfl) (fun _ => rfl) (fun _ => rfl) (fun _ => rfl) (fun _ => rfl) (fun _ => rfl) (fun _ => rfl) (fun _ _ _ => rfl) (fun _ _ _ => rfl) x.1.1 x.2.1.1 x.2.1.2.1).trans h) rfl (by decide)
theorem k30 (N : Nat) (hN : N ≤ 4611686018427387904) : TOk Proofs.Tryz.prog 30 (t30 N) := TL_ok ar30.wk fun x v h =>
   pure_ofT (l := [TE.plain 50 (t50 N) (k50 N (by omega)),TE.plain 51 (t51) k51,TE.plain 25 (t25 N) (k25 N (by omega)),TE.lens 52 1 [.keep,.keep] (t2000 N) Proofs.Tryz.func52 (c := Proofs.Tryz.f52.body.get rfl) rfl (by decide) (k2000 N (by omega)),TE.inlA ali40 [62] tys eqts [te62] [] tys_ok eqts_ok follows 40 Proofs.Tryz.f40 Proofs.Tryz.func40 (c := Proofs.Tryz.f40.body.get rfl) rfl (by decide) (by kernel_rfl) (growT_cons (fun _ _ _ _ h => clone_grown h) growT_nil (by decide)) H40 N]) (s := []) tys_ok eqts_ok follows Proofs.Tryz.func30 (c := Proofs.Tryz.f30.body.get rfl) rfl (by decide) (by kernel_rfl)  (H := H30) (N := N) (shp := sh30)
     ((ev30 (E40 := fun n0 => mkTA ali40 Proofs.Tryz.prog n0 tys eqts [te62] []) (by omega) rfl rfl rfl rfl (fun _ _ => rfl) (fun _ _ => rfl) (fun _ _ => rfl) (fun _ _ => rfl) (fun _ _ => rfl) (fun _ => rfl) (fun _ => rfl) (fun _ => rfl) (fun _ => rfl) (fun _ _ _ => rfl) x.1 x.2.1 x.2.2).trans h) (ar30.da x)
theorem k9 (N : Nat) (hN : N ≤ 4611686018427387904) : TOk Proofs.Tryz.prog 9 (t9 N) := TL_ok ar9.wk fun x v h =>
   pure_ofT (l := [TE.plain 30 (t30 N) (k30 N (by omega))]) (s := []) tys_ok eqts_ok follows Proofs.Tryz.func9 (c := Proofs.Tryz.f9.body.get rfl) rfl (by decide) (by kernel_rfl)  (H := H9) (N := N) (shp := sh9)
     ((ev9 (by omega) rfl rfl rfl rfl (fun _ _ => rfl) x.1 x.2).trans h) (ar9.da x)
theorem k6 (N : Nat) (hN : N ≤ 4611686018427387904) : TOk Proofs.Tryz.prog 6 (t6 N) := TL_ok ar6.wk fun x v h =>
   pure_ofT (l := [TE.plain 9 (t9 N) (k9 N (by omega))]) (s := []) tys_ok eqts_ok follows Proofs.Tryz.func6 (c := Proofs.Tryz.f6.body.get rfl) rfl (by decide) (by kernel_rfl)  (H := H6) (N := N) (shp := sh6)
     ((ev6 (by omega) rfl rfl rfl rfl (fun _ _ => rfl) ).trans h) (ar6.da x)
theorem k7 : ∀ (N : Nat),N ≤ 4611686018427387904 → TOk Proofs.Tryz.prog 7 (t7 N)
 | 0,_ => TL_ok ar7.wk fun x v h => by have h : none = some v := h; cases h
 | N + 1,hN => TL_ok ar7.wk fun x v h =>
   pure_ofT (l := [TE.plain 7 (t7 N) (k7 N (by omega))]) (s := []) tys_ok eqts_ok follows Proofs.Tryz.func7 (c := Proofs.Tryz.f7.body.get rfl) rfl (by decide) (by kernel_rfl)  (H := H7) (N := N) (shp := sh7)
     ((ev7 (by omega) (F27 N) rfl rfl rfl rfl (fun _ _ => rfl) x).trans h) (ar7.da x)
theorem k43 : TOk Proofs.Tryz.prog 43 t43 := TL_ok ar43.wk fun x v h =>
   pure_ofT (l := []) (s := []) tys_ok eqts_ok follows Proofs.Tryz.func43 (c := Proofs.Tryz.f43.body.get rfl) rfl (by decide) (by kernel_rfl)  (H := H43) (N := 0) (shp := sh43)
     ((ev43 (by omega) rfl rfl rfl rfl  x).trans h) (ar43.da x)
theorem k20 (N : Nat) (hN : N ≤ 4611686018427387904) : TOk Proofs.Tryz.prog 20 (t20 N) := TL_ok ar20.wk fun x v h =>
   pure_ofT (l := [TE.plain 43 (t43) k43]) (s := []) tys_ok eqts_ok follows Proofs.Tryz.func20 (c := Proofs.Tryz.f20.body.get rfl) rfl (by decide) (by kernel_rfl)  (H := H20) (N := N) (shp := sh20)
     ((ev20 (by omega) rfl rfl rfl rfl (fun _ _ => rfl) x).trans h) (ar20.da x)
theorem k8 (N : Nat) (hN : N ≤ 4611686018427387904) : TOk Proofs.Tryz.prog 8 (t8 N) := TL_ok ar8.wk fun x v h =>
   pure_ofT (l := [TE.plain 20 (t20 N) (k20 N (by omega))]) (s := []) tys_ok eqts_ok follows Proofs.Tryz.func8 (c := Proofs.Tryz.f8.body.get rfl) rfl (by decide) (by kernel_rfl)  (H := H8) (N := N) (shp := sh8)
     ((ev8 (by omega) rfl rfl rfl rfl (fun _ _ => rfl) x).trans h) (ar8.da x)
theorem k33 : TOk Proofs.Tryz.prog 33 t33 := TL_ok ar33.wk fun x v h =>
   pure_ofT (l := []) (s := []) tys_ok eqts_ok follows Proofs.Tryz.func33 (c := Proofs.Tryz.f33.body.get rfl) rfl (by decide) (by kernel_rfl)  (H := H33) (N := 0) (shp := sh33)
     ((ev33 (by omega) rfl rfl rfl rfl  x).trans h) (ar33.da x)
theorem k56 : TOk Proofs.Tryz.prog 56 t56 := TL_ok ar56.wk fun x v h =>
   pure_ofT (l := []) (s := []) tys_ok eqts_ok follows Proofs.Tryz.func56 (c := Proofs.Tryz.f56.body.get rfl) rfl (by decide) (by kernel_rfl)  (H := H56) (N := 0) (shp := sh56)
     ((ev56 (by omega) rfl rfl rfl rfl  ).trans h) (ar56.da x)
theorem k34 (N : Nat) (hN : N ≤ 4611686018427387904) : TOk Proofs.Tryz.prog 34 (t34 N) := TL_ok ar34.wk fun x v h =>
   pure_ofT (l := [TE.plain 56 (t56) k56]) (s := []) tys_ok eqts_ok follows Proofs.Tryz.func34 (c := Proofs.Tryz.f34.body.get rfl) rfl (by decide) (by kernel_rfl)  (H := H34) (N := N) (shp := sh34)
     ((ev34 (by omega) rfl rfl rfl rfl (fun _ _ => rfl) x).trans h) (ar34.da x)
theorem k35 : TOk Proofs.Tryz.prog 35 t35 := TL_ok ar35.wk fun x v h =>
   pure_ofT (l := []) (s := []) tys_ok eqts_ok follows Proofs.Tryz.func35 (c := Proofs.Tryz.f35.body.get rfl) rfl (by decide) (by kernel_rfl)  (H := H35) (N := 0) (shp := sh35)
     ((ev35 (by omega) rfl rfl rfl rfl  x).trans h) (ar35.da x)
theorem k14 (N : Nat) (hN : N ≤ 4611686018427387904) : TOk Proofs.Tryz.prog 14 (t14 N) := TL_ok ar14.wk fun x v h =>
   pure_ofT (l := [TE.plain 33 (t33) k33,TE.plain 34 (t34 N) (k34 N (by omega)),TE.plain 35 (t35) k35]) (s := []) tys_ok eqts_ok follows Proofs.Tryz.func14 (c := Proofs.Tryz.f14.body.get rfl) rfl (by decide) (by kernel_rfl)  (H := H14) (N := N) (shp := sh14)
     ((ev14 (by omega) rfl rfl rfl rfl (fun _ _ => rfl) (fun _ _ => rfl) (fun _ _ => rfl) x).trans h) (ar14.da x)
theorem k84 : TOk Proofs.Tryz.prog 84 t84 := TL_ok ar84.wk fun x v h =>
   pure_ofT (l := []) (s := []) tys_ok eqts_ok follows Proofs.Tryz.func84 (c := Proofs.Tryz.f84.body.get rfl) rfl (by decide) (by kernel_rfl)  (H := H84) (N := 0) (shp := sh84)
     ((ev84 (by omega) rfl rfl rfl rfl  x.1 x.2).trans h) (ar84.da x)
theorem k57 (N : Nat) (hN : N ≤ 4611686018427387904) : TOk Proofs.Tryz.prog 57 (t57 N) := TL_ok ar57.wk fun x v h =>
   pure_ofT (l := [TE.plain 84 (t84) k84]) (s := []) tys_ok eqts_ok follows Proofs.Tryz.func57 (c := Proofs.Tryz.f57.body.get rfl) rfl (by decide) (by kernel_rfl)  (H := H57) (N := N) (shp := sh57)
     ((ev57 (by omega) rfl rfl rfl rfl (fun _ _ => rfl) x.1 x.2).trans h) (ar57.da x)
theorem k36 : ∀ (N : Nat),N ≤ 4611686018427387904 → TOk Proofs.Tryz.prog 36 (t36 N)
 | 0,_ => TL_ok ar36.wk fun x v h => by have h : none = some v := h; cases h
 | N + 1,hN => TL_ok ar36.wk fun x v h =>
   pure_ofT (l := [TE.plain 57 (t57 N) (k57 N (by omega)),TE.plain 36 (t36 N) (k36 N (by omega))]) (s := []) tys_ok eqts_ok follows Proofs.Tryz.func36 (c := Proofs.Tryz.f36.body.get rfl) rfl (by decide) (by kernel_rfl)  (H := H36) (N := N) (shp := sh36)
     ((ev36 (by omega) (F95 N) rfl rfl rfl rfl (fun _ _ => rfl) (fun _ _ => rfl) x.1 x.2).trans h) (ar36.da x)
theorem k15 (N : Nat) (hN : N ≤ 4611686018427387904) : TOk Proofs.Tryz.prog 15 (t15 N) := TL_ok ar15.wk fun x v h =>
   pure_ofT (l := [TE.plain 36 (t36 N) (k36 N (by omega))]) (s := []) tys_ok eqts_ok follows Proofs.Tryz.func15 (c := Proofs.Tryz.f15.body.get rfl) rfl (by decide) (by kernel_rfl)  (H := H15) (N := N) (shp := sh15)
     ((ev15 (by omega) rfl rfl rfl rfl (fun _ _ => rfl) x).trans h) (ar15.da x)
theorem k16 : ∀ (N : Nat),N ≤ 4611686018427387904 → TOk Proofs.Tryz.prog 16 (t16 N)
 | 0,_ => TL_ok ar16.wk fun x v h => by have h : none = some v := h; cases h
 | N + 1,hN => TL_ok ar16.wk fun x v h =>
   pure_ofT (l := [TE.plain 16 (t16 N) (k16 N (by omega))]) (s := []) tys_ok eqts_ok follows Proofs.Tryz.func16 (c := Proofs.Tryz.f16.body.get rfl) rfl (by decide) (by kernel_rfl)  (H := H16) (N := N) (shp := sh16)
     ((ev16 (by omega) (F28 N) rfl rfl rfl rfl (fun _ _ => rfl) x).trans h) (ar16.da x)
theorem k58 : ∀ (N : Nat),N ≤ 4611686018427387904 → TOk Proofs.Tryz.prog 58 (t58 N)
 | 0,_ => TL_ok ar58.wk fun x v h => by have h : none = some v := h; cases h
 | N + 1,hN => TL_ok ar58.wk fun x v h =>
   pure_ofT (l := [TE.plain 58 (t58 N) (k58 N (by omega))]) (s := []) tys_ok eqts_ok follows Proofs.Tryz.func58 (c := Proofs.Tryz.f58.body.get rfl) rfl (by decide) (by kernel_rfl)  (H := H58) (N := N) (shp := sh58)
     ((ev58 (by omega) (F83 N) rfl rfl rfl rfl (fun _ _ => rfl) x).trans h) (ar58.da x)
theorem k37 : ∀ (N : Nat),N ≤ 4611686018427387904 → TOk Proofs.Tryz.prog 37 (t37 N)
 | 0,_ => TL_ok ar37.wk fun x v h => by have h : none = some v := h; cases h
 | N + 1,hN => TL_ok ar37.wk fun x v h =>
   pure_ofT (l := [TE.plain 58 (t58 N) (k58 N (by omega)),TE.plain 37 (t37 N) (k37 N (by omega))]) (s := []) tys_ok eqts_ok follows Proofs.Tryz.func37 (c := Proofs.Tryz.f37.body.get rfl) rfl (by decide) (by kernel_rfl)  (H := H37) (N := N) (shp := sh37)
     ((ev37 (by omega) (F23 N) rfl rfl rfl rfl (fun _ _ => rfl) (fun _ _ => rfl) x.1 x.2.1 x.2.2).trans h) (ar37.da x)
theorem k17 (N : Nat) (hN : N ≤ 4611686018427387904) : TOk Proofs.Tryz.prog 17 (t17 N) := TL_ok ar17.wk fun x v h =>
   pure_ofT (l := [TE.plain 37 (t37 N) (k37 N (by omega))]) (s := []) tys_ok eqts_ok follows Proofs.Tryz.func17 (c := Proofs.Tryz.f17.body.get rfl) rfl (by decide) (by kernel_rfl)  (H := H17) (N := N) (shp := sh17)
     ((ev17 (by omega) rfl rfl rfl rfl (fun _ _ => rfl) x.1 x.2.1 x.2.2).trans h) (ar17.da x)
theorem k18 (N : Nat) (hN : N ≤ 4611686018427387904) : TOk Proofs.Tryz.prog 18 (t18 N) := TL_ok ar18.wk fun x v h =>
   pure_ofT (l := [TE.plain 25 (t25 N) (k25 N (by omega)),TE.plain 38 (t38 N) (k38 N (by omega)),TE.plain 41 (t41 N) (k41 N (by omega)),TE.inl tys eqts [TE.inlA ali40 [62] tys eqts [te62] [] tys_ok eqts_ok follows 40 Proofs.Tryz.f40 Proofs.Tryz.func40 (c := Proofs.Tryz.f40.body.get rfl) rfl (by decide) (by kernel_rfl) (growT_cons (fun _ _ _ _ h => clone_grown h) growT_nil (by decide)) H40 N] [] tys_ok eqts_ok follows 39 Proofs.Tryz.f39 Proofs.Tryz.func39 (c := Proofs.Tryz.f39.body.get rfl) rfl (by decide) (by kernel_rfl) H39 N]) (s := []) tys_ok eqts_ok follows Proofs.Tryz.func18 (c := Proofs.Tryz.f18.body.get rfl) rfl (by decide) (by kernel_rfl)  (H := H18) (N := N) (shp := sh18)
     ((ev18 (E39 := fun n0 => mkT Proofs.Tryz.prog n0 tys eqts [TE.inlA ali40 [62] tys eqts [te62] [] tys_ok eqts_ok follows 40 Proofs.Tryz.f40 Proofs.Tryz.func40 (c := Proofs.Tryz.f40.body.get rfl) rfl (by decide) (by kernel_rfl) (growT_cons (fun _ _ _ _ h => clone_grown h) growT_nil (by decide)) H40 N] []) (E40 := fun n0 => mkTA ali40 Proofs.Tryz.prog n0 tys eqts [te62] []) (by omega) rfl rfl rfl rfl (fun _ _ => rfl) (fun _ _ => rfl) (fun _ _ => rfl) (fun _ _ => rfl) (fun _ => rfl) (fun _ => rfl) (fun _ => rfl) (fun _ => rfl) (fun _ _ _ => rfl) (fun _ => rfl) (fun _ => rfl) (fun _ => rfl) (fun _ => rfl) (fun _ _ _ => rfl) x.1 x.2).trans h) (ar18.da x)
theorem k113 : TOk Proofs.Tryz.prog 113 t113 := TL_ok ar113.wk fun x v h =>
   pure_ofT (l := []) (s := []) tys_ok eqts_ok follows Proofs.Tryz.func113 (c := Proofs.Tryz.f113.body.get rfl) rfl (by decide) (by kernel_rfl)  (H := H113) (N := 0) (shp := sh113)
     ((ev113 (by omega) rfl rfl rfl rfl  x.1 x.2).trans h) (ar113.da x)
theorem k88 : ∀ (N : Nat),N ≤ 4611686018427387904 → TOk Proofs.Tryz.prog 88 (t88 N)
 | 0,_ => TL_ok ar88.wk fun x v h => by have h : none = some v := h; cases h
 | N + 1,hN => TL_ok ar88.wk fun x v h =>
   pure_ofT (l := [TE.plain 113 (t113) k113,TE.plain 88 (t88 N) (k88 N (by omega))]) (s := []) tys_ok eqts_ok follows Proofs.Tryz.func88 (c := Proofs.Tryz.f88.body.get rfl) rfl (by decide) (by kernel_rfl)  (H := H88) (N := N) (shp := sh88)
     ((ev88 (by omega) (F19 N) rfl rfl rfl rfl (fun _ _ => rfl) (fun _ _ => rfl) x.1 x.2).trans h) (ar88.da x)
theorem k64 (N : Nat) (hN : N ≤ 4611686018427387904) : TOk Proofs.Tryz.prog 64 (t64 N) := TL_ok ar64.wk fun x v h =>
   pure_ofT (l := [TE.plain 88 (t88 N) (k88 N (by omega))]) (s := []) tys_ok eqts_ok follows Proofs.Tryz.func64 (c := Proofs.Tryz.f64.body.get rfl) rfl (by decide) (by kernel_rfl)  (H := H64) (N := N) (shp := sh64)
     ((ev64 (by omega) rfl rfl rfl rfl (fun _ _ => rfl) x.1 x.2).trans h) (ar64.da x)
theorem k42 : ∀ (N : Nat),N ≤ 4611686018427387904 → TOk Proofs.Tryz.prog 42 (t42 N)
 | 0,_ => TL_ok ar42.wk fun x v h => by have h : none = some v := h; cases h
 | N + 1,hN => TL_ok ar42.wk fun x v h =>
   pure_ofT (l := [TE.plain 64 (t64 N) (k64 N (by omega)),TE.plain 42 (t42 N) (k42 N (by omega))]) (s := []) tys_ok eqts_ok follows Proofs.Tryz.func42 (c := Proofs.Tryz.f42.body.get rfl) rfl (by decide) (by kernel_rfl)  (H := H42) (N := N) (shp := sh42)
     ((ev42 (by omega) (F97 N) rfl rfl rfl rfl (fun _ _ => rfl) (fun _ _ => rfl) x.1 x.2).trans h) (ar42.da x)
theorem k19 (N : Nat) (hN : N ≤ 4611686018427387904) : TOk Proofs.Tryz.prog 19 (t19 N) := TL_ok ar19.wk fun x v h =>
   pure_ofT (l := [TE.plain 42 (t42 N) (k42 N (by omega))]) (s := []) tys_ok eqts_ok follows Proofs.Tryz.func19 (c := Proofs.Tryz.f19.body.get rfl) rfl (by decide) (by kernel_rfl)  (H := H19) (N := N) (shp := sh19)
     ((ev19 (by omega) rfl rfl rfl rfl (fun _ _ => rfl) x).trans h) (ar19.da x)
theorem k32 (N : Nat) (hN : N ≤ 4611686018427387904) : TOk Proofs.Tryz.prog 32 (t32 N) := TL_ok ar32.wk fun x v h =>
   pure_ofT (l := []) (s := []) tys_ok eqts_ok follows Proofs.Tryz.func32 (c := Proofs.Tryz.f32.body.get rfl) rfl (by decide) (by kernel_rfl)  (H := H32) (N := N) (shp := sh32)
     ((ev32 (by omega) rfl rfl rfl rfl  x.1 x.2).trans h) (ar32.da x)
theorem k11 (N : Nat) (hN : N ≤ 4611686018427387904) : TOk Proofs.Tryz.prog 11 (t11 N) := TL_ok ar11.wk fun x v h =>
   pure_ofT (l := [TE.plain 32 (t32 N) (k32 N (by omega))]) (s := []) tys_ok eqts_ok follows Proofs.Tryz.func11 (c := Proofs.Tryz.f11.body.get rfl) rfl (by decide) (by kernel_rfl)  (H := H11) (N := N) (shp := sh11)
     ((ev11 (by omega) rfl rfl rfl rfl (fun _ _ => rfl) x.1 x.2).trans h) (ar11.da x)
theorem k4 (N : Nat) (hN : N ≤ 4611686018427387904) : TOk Proofs.Tryz.prog 4 (t4 N) := TL_ok ar4.wk fun x v h =>
   pure_ofT (l := [TE.plain 6 (t6 N) (k6 N (by omega)),TE.plain 7 (t7 N) (k7 N (by omega)),TE.plain 8 (t8 N) (k8 N (by omega)),TE.plain 14 (t14 N) (k14 N (by omega)),TE.plain 15 (t15 N) (k15 N (by omega)),TE.plain 16 (t16 N) (k16 N (by omega)),TE.plain 9 (t9 N) (k9 N (by omega)),TE.plain 17 (t17 N) (k17 N (by omega)),TE.plain 18 (t18 N) (k18 N (by omega)),TE.plain 19 (t19 N) (k19 N (by omega)),TE.plain 11 (t11 N) (k11 N (by omega))]) (s := []) tys_ok eqts_ok follows Proofs.Tryz.func4 (c := Proofs.Tryz.f4.body.get rfl) rfl (by decide) (by kernel_rfl)  (H := H4) (N := N) (shp := sh4)
     ((ev4 (by omega) rfl rfl rfl rfl (fun _ _ => rfl) (fun _ _ => rfl) (fun _ _ => rfl) (fun _ _ => rfl) (fun _ _ => rfl) (fun _ _ => rfl) (fun _ _ => rfl) (fun _ _ => rfl) (fun _ _ => rfl) (fun _ _ => rfl) (fun _ _ => rfl) x.1 x.2.1 x.2.2.1 x.2.2.2).trans h) (ar4.da x)
end Go.Abs.Try
