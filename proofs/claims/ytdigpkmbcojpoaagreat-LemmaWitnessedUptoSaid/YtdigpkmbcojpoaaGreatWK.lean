import Derived.Test.YtdigpkmbcojpoaaGreatWV0
import Derived.Test.YtdigpkmbcojpoaaGreatWV1
import Derived.Test.YtdigpkmbcojpoaaGreatWV2
import Derived.Test.YtdigpkmbcojpoaaGreatWV3
import Derived.Test.YtdigpkmbcojpoaaGreatWV4
import Derived.Test.YtdigpkmbcojpoaaGreatWV5
import Derived.Test.YtdigpkmbcojpoaaGreatWV6
import Derived.Test.YtdigpkmbcojpoaaGreatWV7
import Derived.Test.YtdigpkmbcojpoaaGreatWV8
import Derived.Test.YtdigpkmbcojpoaaGreatWV9
import Derived.Test.YtdigpkmbcojpoaaGreatWCmp
set_option linter.unusedSimpArgs false
set_option linter.unusedVariables false
namespace Go.Abs.Try
open Go.RowKit
set_option maxRecDepth 100000
set_option maxHeartbeats 4000000
theorem k19 : TOk Proofs.Tryz.prog 19 t19 := TL_ok ar19.wk fun x v h =>
   pure_ofT (l := []) (s := []) tys_ok eqts_ok follows Proofs.Tryz.func19 (c := Proofs.Tryz.f19.body.get rfl) rfl (by decide) (by kernel_rfl)  (H := H19) (N := 0) (shp := sh19)
     ((ev19 (by omega) rfl rfl rfl rfl  x.1 x.2.1 x.2.2).trans h) (ar19.da x)
theorem k18 : TOk Proofs.Tryz.prog 18 t18 := TL_ok ar18.wk fun x v h =>
   pure_ofT (l := []) (s := []) tys_ok eqts_ok follows Proofs.Tryz.func18 (c := Proofs.Tryz.f18.body.get rfl) rfl (by decide) (by kernel_rfl)  (H := H18) (N := 0) (shp := sh18)
     ((ev18 (by omega) rfl rfl rfl rfl  x.1 x.2).trans h) (ar18.da x)
theorem k107 : TOk Proofs.Tryz.prog 107 t107 := TL_ok ar107.wk fun x v h =>
   pure_ofT (l := [TE.plain 54 (t54) k54]) (s := [se111]) tys_ok eqts_ok follows Proofs.Tryz.func107 (c := Proofs.Tryz.f107.body.get rfl) rfl (by decide) (by kernel_rfl)  (H := H107) (N := 0) (shp := sh107)
     ((ev107 (by omega) rfl rfl rfl rfl (fun _ _ => rfl) (fun _ => rfl) x).trans h) (ar107.da x)
theorem k108 : ∀ (N : Nat),N ≤ 4611686018427387904 → TOk Proofs.Tryz.prog 108 (t108 N)
 | 0,_ => TL_ok ar108.wk fun x v h => by have h : none = some v := h; cases h
 | N + 1,hN => TL_ok ar108.wk fun x v h =>
   pure_ofT (l := [TE.plain 108 (t108 N) (k108 N (by omega))]) (s := []) tys_ok eqts_ok follows Proofs.Tryz.func108 (c := Proofs.Tryz.f108.body.get rfl) rfl (by decide) (by kernel_rfl)  (H := H108) (N := N) (shp := sh108)
     ((ev108 (by omega) (F38 N) rfl rfl rfl rfl (fun _ _ => rfl) x).trans h) (ar108.da x)
theorem k50 (N : Nat) (hN : N ≤ 4611686018427387904) : TOk Proofs.Tryz.prog 50 (t50 N) := TL_ok ar50.wk fun x v h =>
   pure_ofT (l := [TE.plain 107 (t107) k107,TE.plain 108 (t108 N) (k108 N (by omega))]) (s := []) tys_ok eqts_ok follows Proofs.Tryz.func50 (c := Proofs.Tryz.f50.body.get rfl) rfl (by decide) (by kernel_rfl)  (H := H50) (N := N) (shp := sh50)
     ((ev50 (by omega) rfl rfl rfl rfl (fun _ _ => rfl) (fun _ _ => rfl) x).trans h) (ar50.da x)
theorem k163 : TOk Proofs.Tryz.prog 163 t163 := TL_ok ar163.wk fun x v h =>
   pure_ofT (l := []) (s := []) tys_ok eqts_ok follows Proofs.Tryz.func163 (c := Proofs.Tryz.f163.body.get rfl) rfl (by decide) (by kernel_rfl)  (H := H163) (N := 0) (shp := sh163)
     ((ev163 (by omega) rfl rfl rfl rfl  x).trans h) (ar163.da x)
theorem k164 : TOk Proofs.Tryz.prog 164 t164 := TL_ok ar164.wk fun x v h =>
   pure_ofT (l := []) (s := []) tys_ok eqts_ok follows Proofs.Tryz.func164 (c := Proofs.Tryz.f164.body.get rfl) rfl (by decide) (by kernel_rfl)  (H := H164) (N := 0) (shp := sh164)
     ((ev164 (by omega) rfl rfl rfl rfl  x).trans h) (ar164.da x)
theorem k145 (N : Nat) (hN : N ≤ 4611686018427387904) : TOk Proofs.Tryz.prog 145 (t145 N) := TL_ok ar145.wk fun x v h =>
   pure_ofT (l := [TE.plain 163 (t163) k163,TE.plain 164 (t164) k164]) (s := []) tys_ok eqts_ok follows Proofs.Tryz.func145 (c := Proofs.Tryz.f145.body.get rfl) rfl (by decide) (by kernel_rfl)  (H := H145) (N := N) (shp := sh145)
     ((ev145 (by omega) rfl rfl rfl rfl (fun _ _ => rfl) (fun _ _ => rfl) x).trans h) (ar145.da x)
theorem k109 (N : Nat) (hN : N ≤ 4611686018427387904) : TOk Proofs.Tryz.prog 109 (t109 N) := TL_ok ar109.wk fun x v h =>
   pure_ofT (l := [TE.plain 145 (t145 N) (k145 N (by omega))]) (s := []) tys_ok eqts_ok follows Proofs.Tryz.func109 (c := Proofs.Tryz.f109.body.get rfl) rfl (by decide) (by kernel_rfl)  (H := H109) (N := N) (shp := sh109)
     ((ev109 (by omega) rfl rfl rfl rfl (fun _ _ => rfl) x).trans h) (ar109.da x)
theorem k53 (N : Nat) (hN : N ≤ 4611686018427387904) : TOk Proofs.Tryz.prog 53 (t53 N) := TL_ok ar53.wk fun x v h =>
   pure_ofT (l := []) (s := []) tys_ok eqts_ok follows Proofs.Tryz.func53 (c := Proofs.Tryz.f53.body.get rfl) rfl (by decide) (by kernel_rfl)  (H := H53) (N := N) (shp := sh53)
     ((ev53 (by omega) rfl rfl rfl rfl  x).trans h) (ar53.da x)
theorem k146 : TOk Proofs.Tryz.prog 146 t146 := TL_ok ar146.wk fun x v h =>
   pure_ofT (l := []) (s := []) tys_ok eqts_ok follows Proofs.Tryz.func146 (c := Proofs.Tryz.f146.body.get rfl) rfl (by decide) (by kernel_rfl)  (H := H146) (N := 0) (shp := sh146)
     ((ev146 (by omega) rfl rfl rfl rfl  x).trans h) (ar146.da x)
theorem k147 (N : Nat) (hN : N ≤ 4611686018427387904) : TOk Proofs.Tryz.prog 147 (t147 N) := TL_ok ar147.wk fun x v h =>
   pure_ofT (l := []) (s := []) tys_ok eqts_ok follows Proofs.Tryz.func147 (c := Proofs.Tryz.f147.body.get rfl) rfl (by decide) (by kernel_rfl)  (H := H147) (N := N) (shp := sh147)
     ((ev147 (by omega) rfl rfl rfl rfl  x.1 x.2).trans h) (ar147.da x)
theorem k110 (N : Nat) (hN : N ≤ 4611686018427387904) : TOk Proofs.Tryz.prog 110 (t110 N) := TL_ok ar110.wk fun x v h =>
   pure_ofT (l := [TE.plain 53 (t53 N) (k53 N (by omega)),TE.plain 146 (t146) k146,TE.lent 147 (t147 N) (k147 N (by omega)),TE.inl tys eqts [] [] tys_ok eqts_ok follows 148 Proofs.Tryz.f148 Proofs.Tryz.func148 (c := Proofs.Tryz.f148.body.get rfl) rfl (by decide) (by kernel_rfl) H148 N]) (s := []) tys_ok eqts_ok follows Proofs.Tryz.func110 (c := Proofs.Tryz.f110.body.get rfl) rfl (by decide) (by kernel_rfl)  (H := H110) (N := N) (shp := sh110)
     ((ev110 (E148 := fun n0 => mkT Proofs.Tryz.prog n0 tys eqts [] []) (by omega) rfl rfl rfl rfl (fun _ _ => rfl) (fun _ _ => rfl) (fun _ _ => rfl) (fun _ _ => rfl) (fun _ => rfl) (fun _ => rfl) (fun _ => rfl) (fun _ => rfl) x).trans h) (ar110.da x)
theorem k51 (N : Nat) (hN : N ≤ 4611686018427387904) : TOk Proofs.Tryz.prog 51 (t51 N) := TL_ok ar51.wk fun x v h =>
   pure_ofT (l := [TE.plain 54 (t54) k54,TE.plain 109 (t109 N) (k109 N (by omega)),TE.plain 110 (t110 N) (k110 N (by omega))]) (s := [se111]) tys_ok eqts_ok follows Proofs.Tryz.func51 (c := Proofs.Tryz.f51.body.get rfl) rfl (by decide) (by kernel_rfl)  (H := H51) (N := N) (shp := sh51)
     ((ev51 (by omega) rfl rfl rfl rfl (fun _ _ => rfl) (fun _ _ => rfl) (fun _ _ => rfl) (fun _ => rfl) x).trans h) (ar51.da x)
theorem k52 : TOk Proofs.Tryz.prog 52 t52 := TL_ok ar52.wk fun x v h =>
   pure_ofT (l := [TE.plain 54 (t54) k54]) (s := [se111]) tys_ok eqts_ok follows Proofs.Tryz.func52 (c := Proofs.Tryz.f52.body.get rfl) rfl (by decide) (by kernel_rfl)  (H := H52) (N := 0) (shp := sh52)
     ((ev52 (by omega) rfl rfl rfl rfl (fun _ _ => rfl) (fun _ => rfl) x).trans h) (ar52.da x)
theorem k20 (N : Nat) (hN : N ≤ 4611686018427387904) : TOk Proofs.Tryz.prog 20 (t20 N) := TL_ok ar20.wk fun x v h =>
   pure_ofT (l := [TE.plain 50 (t50 N) (k50 N (by omega)),TE.plain 51 (t51 N) (k51 N (by omega)),TE.plain 52 (t52) k52,TE.plain 53 (t53 N) (k53 N (by omega))]) (s := []) tys_ok eqts_ok follows Proofs.Tryz.func20 (c := Proofs.Tryz.f20.body.get rfl) rfl (by decide) (by kernel_rfl)  (H := H20) (N := N) (shp := sh20)
     ((ev20 (by omega) rfl rfl rfl rfl (fun _ _ => rfl) (fun _ _ => rfl) (fun _ _ => rfl) (fun _ _ => rfl) x.1 x.2).trans h) (ar20.da x)
theorem k21 : TOk Proofs.Tryz.prog 21 t21 := TL_ok ar21.wk fun x v h =>
   pure_ofT (l := [TE.plain 54 (t54) k54]) (s := [se111]) tys_ok eqts_ok follows Proofs.Tryz.func21 (c := Proofs.Tryz.f21.body.get rfl) rfl (by decide) (by kernel_rfl)  (H := H21) (N := 0) (shp := sh21)
     ((ev21 (by omega) rfl rfl rfl rfl (fun _ _ => rfl) (fun _ => rfl) x).trans h) (ar21.da x)
theorem k55 (N : Nat) (hN : N ≤ 4611686018427387904) : TOk Proofs.Tryz.prog 55 (t55 N) := TL_ok ar55.wk fun x v h =>
   pure_ofT (l := [TE.plain 53 (t53 N) (k53 N (by omega))]) (s := []) tys_ok eqts_ok follows Proofs.Tryz.func55 (c := Proofs.Tryz.f55.body.get rfl) rfl (by decide) (by kernel_rfl)  (H := H55) (N := N) (shp := sh55)
     ((ev55 (by omega) rfl rfl rfl rfl (fun _ _ => rfl) x).trans h) (ar55.da x)
theorem k57 (N : Nat) (hN : N ≤ 4611686018427387904) : TOk Proofs.Tryz.prog 57 (t57 N) := TL_ok ar57.wk fun x v h =>
   pure_ofT (l := [TE.plain 53 (t53 N) (k53 N (by omega))]) (s := []) tys_ok eqts_ok follows Proofs.Tryz.func57 (c := Proofs.Tryz.f57.body.get rfl) rfl (by decide) (by kernel_rfl)  (H := H57) (N := N) (shp := sh57)
     ((ev57 (by omega) rfl rfl rfl rfl (fun _ _ => rfl) x.1 x.2).trans h) (ar57.da x)
theorem k113 : TOk Proofs.Tryz.prog 113 t113 := TL_ok ar113.wk fun x v h =>
   pure_ofT (l := []) (s := []) tys_ok eqts_ok follows Proofs.Tryz.func113 (c := Proofs.Tryz.f113.body.get rfl) rfl (by decide) (by kernel_rfl)  (H := H113) (N := 0) (shp := sh113)
     ((ev113 (by omega) rfl rfl rfl rfl  x.1 x.2.1 x.2.2).trans h) (ar113.da x)
theorem k91 (N : Nat) (hN : N ≤ 4611686018427387904) : TOk Proofs.Tryz.prog 91 (t91 N) := TL_ok ar91.wk fun x v h =>
   pure_ofT (l := [TE.plain 53 (t53 N) (k53 N (by omega)),TE.plain 113 (t113) k113]) (s := []) tys_ok eqts_ok follows Proofs.Tryz.func91 (c := Proofs.Tryz.f91.body.get rfl) rfl (by decide) (by kernel_rfl)  (H := H91) (N := N) (shp := sh91)
     ((ev91 (by omega) rfl rfl rfl rfl (fun _ _ => rfl) (fun _ _ => rfl) x.1 x.2).trans h) (ar91.da x)
theorem k119 : ∀ (N : Nat),N ≤ 4611686018427387904 → TOk Proofs.Tryz.prog 119 (t119 N)
 | 0,_ => TL_ok ar119.wk fun x v h => by have h : none = some v := h; cases h
 | N + 1,hN => TL_ok ar119.wk fun x v h =>
   pure_ofT (l := [te149,TE.plain 119 (t119 N) (k119 N (by omega))]) (s := []) tys_ok eqts_ok follows Proofs.Tryz.func119 (c := Proofs.Tryz.f119.body.get rfl) rfl (by decide) (by kernel_rfl)  (H := H119) (N := N) (shp := sh119)
     ((ev119 (by omega) (F82 N) rfl rfl rfl rfl (fun _ _ => rfl) (fun _ _ => rfl) x).trans h) (ar119.da x)
theorem k90 (N : Nat) (hN : N ≤ 4611686018427387904) : TOk Proofs.Tryz.prog 90 (t90 N) := TL_ok ar90.wk fun x v h =>
   pure_ofT (l := [TE.plain 119 (t119 N) (k119 N (by omega))]) (s := []) tys_ok eqts_ok follows Proofs.Tryz.func90 (c := Proofs.Tryz.f90.body.get rfl) rfl (by decide) (by kernel_rfl)  (H := H90) (N := N) (shp := sh90)
     ((ev90 (by omega) rfl rfl rfl rfl (fun _ _ => rfl) x).trans h) (ar90.da x)
theorem k58 (N : Nat) (hN : N ≤ 4611686018427387904) : TOk Proofs.Tryz.prog 58 (t58 N) := TL_ok ar58.wk fun x v h =>
   pure_ofTA ali58 [90] (l := [TE.plain 91 (t91 N) (k91 N (by omega)),TE.given 90 (t90 N) (k90 N (by omega)),TE.plain 113 (t113) k113]) (s := []) tys_ok eqts_ok follows Proofs.Tryz.func58 (c := Proofs.Tryz.f58.body.get rfl) rfl (by decide) (by kernel_rfl) (growT_cons (fun _ _ _ _ h => given_grown h) growT_nil (by decide)) (H := H58) (N := N) (shp := sh58)
     ((ev58 (by omega) rfl rfl rfl rfl (fun _ _ => rfl) (fun _ _ => rfl) (fun _ _ => rfl) x.1 x.2).trans h) (ar58.da x)
theorem k2001 (N : Nat) (hN : N ≤ 4611686018427387904) : TSOk Proofs.Tryz.prog 56 1 (t2001 N) := TLX_ok (fun x => ar2001.wk x.1) (fun x => st2001.wk x.2) fun x v s' h =>
   lens_ofT (l := []) (s := []) tys_ok eqts_ok follows Proofs.Tryz.func56 (c := Proofs.Tryz.f56.body.get rfl) rfl (by kernel_rfl)  (H := H2001) (N := N) (ms := [.give]) (shp := sh2001) (sho := sw2001)
     ((ev2001 (N := N) (by omega) rfl rfl rfl rfl  x.1.1 x.2.1.1).trans h) rfl (by decide)
theorem k115 : TOk Proofs.Tryz.prog 115 t115 := TL_ok ar115.wk fun x v h =>
   pure_ofT (l := []) (s := []) tys_ok eqts_ok follows Proofs.Tryz.func115 (c := Proofs.Tryz.f115.body.get rfl) rfl (by decide) (by kernel_rfl)  (H := H115) (N := 0) (shp := sh115)
     ((ev115 (by omega) rfl rfl rfl rfl  x.1 x.2).trans h) (ar115.da x)
theorem k2002 : TSOk Proofs.Tryz.prog 114 2 t2002 := TLX_ok (fun x => ar2002.wk x.1) (fun x => st2002.wk x.2) fun x v s' h =>
   lens_ofT (l := [TE.plain 113 (t113) k113]) (s := []) tys_ok eqts_ok follows Proofs.Tryz.func114 (c := Proofs.Tryz.f114.body.get rfl) rfl (by kernel_rfl)  (H := H2002) (N := 0) (ms := [.give]) (shp := sh2002) (sho := sw2002)
     ((ev2002 (N := 0) (by omega) rfl rfl rfl rfl (fun _ _ => rfl) x.1.1 x.2.1.1 x.2.1.2.1 x.2.1.2.2.1 x.2.1.2.2.2.1 x.2.1.2.2.2.2.1 x.2.2.1.1 x.2.2.1.2.1 x.2.2.1.2.2.1 x.2.2.1.2.2.2.1 x.2.2.1.2.2.2.2.1).trans h) rfl (by decide)
theorem k59 : TOk Proofs.Tryz.prog 59 t59 := TL_ok ar59.wk fun x v h =>
   pure_ofTA ali59 [1000000] (l := [TE.plain 113 (t113) k113,TE.plain 115 (t115) k115,TE.lens 114 2 [.keep,.keep,.keep] (t2002) Proofs.Tryz.func114 (c := Proofs.Tryz.f114.body.get rfl) rfl (by decide) k2002]) (s := []) tys_ok eqts_ok follows Proofs.Tryz.func59 (c := Proofs.Tryz.f59.body.get rfl) rfl (by decide) (by kernel_rfl) (growT_all (growAll_cons (same_grown rfl) (growAll_cons (same_grown rfl) (growAll_cons (fun _ _ _ _ h => ro_grown (ro2002 _ _ _ _ h)) growAll_nil)))) (H := H59) (N := 0) (shp := sh59)
     ((ev59 (by omega) rfl rfl rfl rfl (fun _ _ => rfl) (fun _ _ => rfl) (fun _ _ => rfl) x.1 x.2).trans h) (ar59.da x)
theorem k60 : TOk Proofs.Tryz.prog 60 t60 := TL_ok ar60.wk fun x v h =>
   pure_ofT (l := [TE.plain 113 (t113) k113]) (s := []) tys_ok eqts_ok follows Proofs.Tryz.func60 (c := Proofs.Tryz.f60.body.get rfl) rfl (by decide) (by kernel_rfl)  (H := H60) (N := 0) (shp := sh60)
     ((ev60 (by omega) rfl rfl rfl rfl (fun _ _ => rfl) x.1 x.2.1 x.2.2).trans h) (ar60.da x)
theorem k2003 : TSOk Proofs.Tryz.prog 116 1 t2003 := TLX_ok (fun x => ar2003.wk x.1) (fun x => st2003.wk x.2) fun x v s' h =>
   lens_ofT (l := [TE.plain 113 (t113) k113]) (s := []) tys_ok eqts_ok follows Proofs.Tryz.func116 (c := Proofs.Tryz.f116.body.get rfl) rfl (by kernel_rfl)  (H := H2003) (N := 0) (ms := [.give]) (shp := sh2003) (sho := sw2003)
     ((ev2003 (N := 0) (by omega) rfl rfl rfl rfl (fun _ _ => rfl) x.1.1 x.2.1.1 x.2.1.2.1 x.2.1.2.2.1 x.2.1.2.2.2.1 x.2.1.2.2.2.2.1).trans h) rfl (by decide)
theorem k61 : TOk Proofs.Tryz.prog 61 t61 := TL_ok ar61.wk fun x v h =>
   pure_ofTA ali61 [1000000] (l := [TE.plain 113 (t113) k113,TE.lens 116 1 [.keep,.keep] (t2003) Proofs.Tryz.func116 (c := Proofs.Tryz.f116.body.get rfl) rfl (by decide) k2003]) (s := []) tys_ok eqts_ok follows Proofs.Tryz.func61 (c := Proofs.Tryz.f61.body.get rfl) rfl (by decide) (by kernel_rfl) (growT_all (growAll_cons (same_grown rfl) (growAll_cons (fun _ _ _ _ h => ro_grown (ro2003 _ _ _ _ h)) growAll_nil))) (H := H61) (N := 0) (shp := sh61)
     ((ev61 (by omega) rfl rfl rfl rfl (fun _ _ => rfl) (fun _ _ => rfl) x.1 x.2.1 x.2.2.1 x.2.2.2).trans h) (ar61.da x)
theorem k62 : TOk Proofs.Tryz.prog 62 t62 := TL_ok ar62.wk fun x v h =>
   pure_ofT (l := []) (s := []) tys_ok eqts_ok follows Proofs.Tryz.func62 (c := Proofs.Tryz.f62.body.get rfl) rfl (by decide) (by kernel_rfl)  (H := H62) (N := 0) (shp := sh62)
     ((ev62 (by omega) rfl rfl rfl rfl  x.1 x.2).trans h) (ar62.da x)
theorem k117 : TOk Proofs.Tryz.prog 117 t117 := TL_ok ar117.wk fun x v h =>
   pure_ofT (l := [TE.plain 113 (t113) k113]) (s := []) tys_ok eqts_ok follows Proofs.Tryz.func117 (c := Proofs.Tryz.f117.body.get rfl) rfl (by decide) (by kernel_rfl)  (H := H117) (N := 0) (shp := sh117)
     ((ev117 (by omega) rfl rfl rfl rfl (fun _ _ => rfl) x.1 x.2).trans h) (ar117.da x)
theorem k118 : TOk Proofs.Tryz.prog 118 t118 := TL_ok ar118.wk fun x v h =>
   pure_ofT (l := [TE.plain 115 (t115) k115]) (s := []) tys_ok eqts_ok follows Proofs.Tryz.func118 (c := Proofs.Tryz.f118.body.get rfl) rfl (by decide) (by kernel_rfl)  (H := H118) (N := 0) (shp := sh118)
     ((ev118 (by omega) rfl rfl rfl rfl (fun _ _ => rfl) x).trans h) (ar118.da x)
theorem k63 : TOk Proofs.Tryz.prog 63 t63 := TL_ok ar63.wk fun x v h =>
   pure_ofTA ali63 [] (l := [TE.plain 113 (t113) k113,TE.plain 117 (t117) k117,TE.plain 118 (t118) k118]) (s := []) tys_ok eqts_ok follows Proofs.Tryz.func63 (c := Proofs.Tryz.f63.body.get rfl) rfl (by decide) (by kernel_rfl) growT_nil (H := H63) (N := 0) (shp := sh63)
     ((ev63 (by omega) rfl rfl rfl rfl (fun _ _ => rfl) (fun _ _ => rfl) (fun _ _ => rfl) x.1 x.2).trans h) (ar63.da x)
theorem k64 : TOk Proofs.Tryz.prog 64 t64 := TL_ok ar64.wk fun x v h =>
   pure_ofT (l := [TE.plain 113 (t113) k113,TE.plain 117 (t117) k117]) (s := []) tys_ok eqts_ok follows Proofs.Tryz.func64 (c := Proofs.Tryz.f64.body.get rfl) rfl (by decide) (by kernel_rfl)  (H := H64) (N := 0) (shp := sh64)
     ((ev64 (by omega) rfl rfl rfl rfl (fun _ _ => rfl) (fun _ _ => rfl) x.1 x.2.1 x.2.2).trans h) (ar64.da x)
theorem k65 : TOk Proofs.Tryz.prog 65 t65 := TL_ok ar65.wk fun x v h =>
   pure_ofT (l := [TE.plain 118 (t118) k118,TE.plain 113 (t113) k113]) (s := []) tys_ok eqts_ok follows Proofs.Tryz.func65 (c := Proofs.Tryz.f65.body.get rfl) rfl (by decide) (by kernel_rfl)  (H := H65) (N := 0) (shp := sh65)
     ((ev65 (by omega) rfl rfl rfl rfl (fun _ _ => rfl) (fun _ _ => rfl) x).trans h) (ar65.da x)
theorem k66 : TOk Proofs.Tryz.prog 66 t66 := TL_ok ar66.wk fun x v h =>
   pure_ofT (l := [TE.plain 113 (t113) k113,TE.plain 118 (t118) k118,TE.plain 117 (t117) k117]) (s := []) tys_ok eqts_ok follows Proofs.Tryz.func66 (c := Proofs.Tryz.f66.body.get rfl) rfl (by decide) (by kernel_rfl)  (H := H66) (N := 0) (shp := sh66)
     ((ev66 (by omega) rfl rfl rfl rfl (fun _ _ => rfl) (fun _ _ => rfl) (fun _ _ => rfl) x.1 x.2.1 x.2.2).trans h) (ar66.da x)
theorem k67 : TOk Proofs.Tryz.prog 67 t67 := TL_ok ar67.wk fun x v h =>
   pure_ofTA ali67 [] (l := [TE.plain 113 (t113) k113]) (s := []) tys_ok eqts_ok follows Proofs.Tryz.func67 (c := Proofs.Tryz.f67.body.get rfl) rfl (by decide) (by kernel_rfl) growT_nil (H := H67) (N := 0) (shp := sh67)
     ((ev67 (by omega) rfl rfl rfl rfl (fun _ _ => rfl) x).trans h) (ar67.da x)
theorem k22 (N : Nat) (hN : N ≤ 4611686018427387904) : TOk Proofs.Tryz.prog 22 (t22 N) := TL_ok ar22.wk fun x v h =>
   pure_ofT (l := [TE.plain 55 (t55 N) (k55 N (by omega)),TE.plain 57 (t57 N) (k57 N (by omega)),TE.plain 58 (t58 N) (k58 N (by omega)),TE.lens 56 1 [.keep,.keep] (t2001 N) Proofs.Tryz.func56 (c := Proofs.Tryz.f56.body.get rfl) rfl (by decide) (k2001 N (by omega)),TE.plain 59 (t59) k59,TE.plain 60 (t60) k60,TE.plain 61 (t61) k61,TE.plain 62 (t62) k62,TE.plain 63 (t63) k63,TE.plain 64 (t64) k64,TE.plain 65 (t65) k65,TE.plain 66 (t66) k66,TE.plain 67 (t67) k67]) (s := []) tys_ok eqts_ok follows Proofs.Tryz.func22 (c := Proofs.Tryz.f22.body.get rfl) rfl (by decide) (by kernel_rfl)  (H := H22) (N := N) (shp := sh22)
     ((ev22 (by omega) rfl rfl rfl rfl (fun _ _ => rfl) (fun _ _ => rfl) (fun _ _ => rfl) (fun _ _ => rfl) (fun _ _ => rfl) (fun _ _ => rfl) (fun _ _ => rfl) (fun _ _ => rfl) (fun _ _ => rfl) (fun _ _ => rfl) (fun _ _ => rfl) (fun _ _ => rfl) (fun _ _ => rfl) x.1 x.2).trans h) (ar22.da x)
theorem k23 (N : Nat) (hN : N ≤ 4611686018427387904) : TOk Proofs.Tryz.prog 23 (t23 N) := TL_ok ar23.wk fun x v h =>
   pure_ofT (l := [TE.plain 20 (t20 N) (k20 N (by omega)),TE.plain 21 (t21) k21]) (s := []) tys_ok eqts_ok follows Proofs.Tryz.func23 (c := Proofs.Tryz.f23.body.get rfl) rfl (by decide) (by kernel_rfl)  (H := H23) (N := N) (shp := sh23)
     ((ev23 (by omega) rfl rfl rfl rfl (fun _ _ => rfl) (fun _ _ => rfl) x).trans h) (ar23.da x)
theorem k68 : ∀ (N : Nat),N ≤ 4611686018427387904 → TOk Proofs.Tryz.prog 68 (t68 N)
 | 0,_ => TL_ok ar68.wk fun x v h => by have h : none = some v := h; cases h
 | N + 1,hN => TL_ok ar68.wk fun x v h =>
   pure_ofT (l := [TE.plain 119 (t119 N) (k119 N (by omega)),TE.plain 68 (t68 N) (k68 N (by omega))]) (s := []) tys_ok eqts_ok follows Proofs.Tryz.func68 (c := Proofs.Tryz.f68.body.get rfl) rfl (by decide) (by kernel_rfl)  (H := H68) (N := N) (shp := sh68)
     ((ev68 (by omega) (F22 N) rfl rfl rfl rfl (fun _ _ => rfl) (fun _ _ => rfl) x.1 x.2.1 x.2.2).trans h) (ar68.da x)
theorem k24 (N : Nat) (hN : N ≤ 4611686018427387904) : TOk Proofs.Tryz.prog 24 (t24 N) := TL_ok ar24.wk fun x v h =>
   pure_ofT (l := [TE.plain 68 (t68 N) (k68 N (by omega))]) (s := []) tys_ok eqts_ok follows Proofs.Tryz.func24 (c := Proofs.Tryz.f24.body.get rfl) rfl (by decide) (by kernel_rfl)  (H := H24) (N := N) (shp := sh24)
     ((ev24 (by omega) rfl rfl rfl rfl (fun _ _ => rfl) x.1 x.2.1 x.2.2).trans h) (ar24.da x)
theorem k8 (N : Nat) (hN : N ≤ 4611686018427387904) : TOk Proofs.Tryz.prog 8 (t8 N) := TL_ok ar8.wk fun x v h =>
   pure_ofT (l := [TE.plain 20 (t20 N) (k20 N (by omega)),TE.plain 21 (t21) k21,TE.plain 22 (t22 N) (k22 N (by omega)),TE.plain 23 (t23 N) (k23 N (by omega)),TE.plain 24 (t24 N) (k24 N (by omega))]) (s := []) tys_ok eqts_ok follows Proofs.Tryz.func8 (c := Proofs.Tryz.f8.body.get rfl) rfl (by decide) (by kernel_rfl)  (H := H8) (N := N) (shp := sh8)
     ((ev8 (by omega) rfl rfl rfl rfl (fun _ _ => rfl) (fun _ _ => rfl) (fun _ _ => rfl) (fun _ _ => rfl) (fun _ _ => rfl) x.1 x.2).trans h) (ar8.da x)
theorem k2004 : ∀ (N : Nat),N ≤ 4611686018427387904 → TSOk Proofs.Tryz.prog 88 0 (t2004 N)
 | 0,_ => TLS_ok (fun x => ar2004.wk x.1) (fun x => st2004.wk x.2) fun x v s' h => by have h : none = some (v,s') := h; cases h
 | N + 1,hN => TLS_ok (fun x => ar2004.wk x.1) (fun x => st2004.wk x.2) fun x v s' h =>
   lens_ofTA ali2004 [88] (l := [TE.lens 88 0 [.keep] (t2004 N) Proofs.Tryz.func88 (c := Proofs.Tryz.f88.body.get rfl) rfl (by decide) (k2004 N (by omega))]) (s := []) tys_ok eqts_ok follows Proofs.Tryz.func88 (c := Proofs.Tryz.f88.body.get rfl) rfl (by kernel_rfl) (growT_cons (fun _ _ _ _ h => gr2004 N _ _ _ _ h) growT_nil (by decide)) (H := H2004) (N := N) (ms := [.app 5]) (shp := sh2004) (sho := sw2004)
     ((ev2004 (N := N) (by omega) (F1386 N) rfl rfl rfl rfl (fun _ _ => rfl) x.1.1).trans h) rfl (by decide)
theorem k151 : TOk Proofs.Tryz.prog 151 t151 := TL_ok ar151.wk fun x v h =>
   pure_ofT (l := []) (s := []) tys_ok eqts_ok follows Proofs.Tryz.func151 (c := Proofs.Tryz.f151.body.get rfl) rfl (by decide) (by kernel_rfl)  (H := H151) (N := 0) (shp := sh151)
     ((ev151 (by omega) rfl rfl rfl rfl  x.1 x.2).trans h) (ar151.da x)
theorem k153 : TOk Proofs.Tryz.prog 153 t153 := TL_ok ar153.wk fun x v h =>
   pure_ofT (l := []) (s := []) tys_ok eqts_ok follows Proofs.Tryz.func153 (c := Proofs.Tryz.f153.body.get rfl) rfl (by decide) (by kernel_rfl)  (H := H153) (N := 0) (shp := sh153)
     ((ev153 (by omega) rfl rfl rfl rfl  x.1 x.2).trans h) (ar153.da x)
theorem k132 : ∀ (N : Nat),N ≤ 4611686018427387904 → TOk Proofs.Tryz.prog 132 (t132 N)
 | 0,_ => TL_ok ar132.wk fun x v h => by have h : none = some v := h; cases h
 | N + 1,hN => TL_ok ar132.wk fun x v h =>
   pure_ofT (l := [TE.plain 151 (t151) k151,TE.plain 152 (t152) k152,TE.plain 153 (t153) k153,TE.plain 132 (t132 N) (k132 N (by omega))]) (s := []) tys_ok eqts_ok follows Proofs.Tryz.func132 (c := Proofs.Tryz.f132.body.get rfl) rfl (by decide) (by kernel_rfl)  (H := H132) (N := N) (shp := sh132)
     ((ev132 (by omega) (F18 N) rfl rfl rfl rfl (fun _ _ => rfl) (fun _ _ => rfl) (fun _ _ => rfl) (fun _ _ => rfl) x.1 x.2).trans h) (ar132.da x)
theorem k89 (N : Nat) (hN : N ≤ 4611686018427387904) : TOk Proofs.Tryz.prog 89 (t89 N) := TL_ok ar89.wk fun x v h =>
   pure_ofT (l := [TE.plain 132 (t132 N) (k132 N (by omega))]) (s := []) tys_ok eqts_ok follows Proofs.Tryz.func89 (c := Proofs.Tryz.f89.body.get rfl) rfl (by decide) (by kernel_rfl)  (H := H89) (N := N) (shp := sh89)
     ((ev89 (by omega) rfl rfl rfl rfl (fun _ _ => rfl) x.1 x.2).trans h) (ar89.da x)
theorem k30 (N : Nat) (hN : N ≤ 4611686018427387904) : TOk Proofs.Tryz.prog 30 (t30 N) := TL_ok ar30.wk fun x v h =>
   pure_ofTA ali30 [90] (l := [TE.plain 57 (t57 N) (k57 N (by omega)),TE.lens 88 0 [.keep] (t2004 N) Proofs.Tryz.func88 (c := Proofs.Tryz.f88.body.get rfl) rfl (by decide) (k2004 N (by omega)),TE.given 90 (t90 N) (k90 N (by omega)),TE.plain 89 (t89 N) (k89 N (by omega)),TE.plain 91 (t91 N) (k91 N (by omega))]) (s := []) tys_ok eqts_ok follows Proofs.Tryz.func30 (c := Proofs.Tryz.f30.body.get rfl) rfl (by decide) (by kernel_rfl) (growT_cons (fun _ _ _ _ h => given_grown h) growT_nil (by decide)) (H := H30) (N := N) (shp := sh30)
     ((ev30 (by omega) rfl rfl rfl rfl (fun _ _ => rfl) (fun _ _ => rfl) (fun _ _ => rfl) (fun _ _ => rfl) (fun _ _ => rfl) x).trans h) (ar30.da x)
theorem k31 (N : Nat) (hN : N ≤ 4611686018427387904) : TOk Proofs.Tryz.prog 31 (t31 N) := TL_ok ar31.wk fun x v h =>
   pure_ofT (l := [TE.plain 59 (t59) k59,TE.plain 89 (t89 N) (k89 N (by omega))]) (s := []) tys_ok eqts_ok follows Proofs.Tryz.func31 (c := Proofs.Tryz.f31.body.get rfl) rfl (by decide) (by kernel_rfl)  (H := H31) (N := N) (shp := sh31)
     ((ev31 (by omega) rfl rfl rfl rfl (fun _ _ => rfl) (fun _ _ => rfl) x).trans h) (ar31.da x)
theorem k92 (N : Nat) (hN : N ≤ 4611686018427387904) : TOk Proofs.Tryz.prog 92 (t92 N) := TL_ok ar92.wk fun x v h =>
   pure_ofT (l := [TE.plain 53 (t53 N) (k53 N (by omega))]) (s := []) tys_ok eqts_ok follows Proofs.Tryz.func92 (c := Proofs.Tryz.f92.body.get rfl) rfl (by decide) (by kernel_rfl)  (H := H92) (N := N) (shp := sh92)
     ((ev92 (by omega) rfl rfl rfl rfl (fun _ _ => rfl) x.1 x.2).trans h) (ar92.da x)
theorem k32 (N : Nat) (hN : N ≤ 4611686018427387904) : TOk Proofs.Tryz.prog 32 (t32 N) := TL_ok ar32.wk fun x v h =>
   pure_ofTA ali32 [] (l := [TE.plain 92 (t92 N) (k92 N (by omega)),TE.plain 60 (t60) k60,TE.plain 89 (t89 N) (k89 N (by omega))]) (s := []) tys_ok eqts_ok follows Proofs.Tryz.func32 (c := Proofs.Tryz.f32.body.get rfl) rfl (by decide) (by kernel_rfl) growT_nil (H := H32) (N := N) (shp := sh32)
     ((ev32 (by omega) rfl rfl rfl rfl (fun _ _ => rfl) (fun _ _ => rfl) (fun _ _ => rfl) x).trans h) (ar32.da x)
theorem k39 (N : Nat) (hN : N ≤ 4611686018427387904) : TOk Proofs.Tryz.prog 39 (t39 N) := TL_ok ar39.wk fun x v h =>
   pure_ofT (l := []) (s := []) tys_ok eqts_ok follows Proofs.Tryz.func39 (c := Proofs.Tryz.f39.body.get rfl) rfl (by decide) (by kernel_rfl)  (H := H39) (N := N) (shp := sh39)
     ((ev39 (by omega) rfl rfl rfl rfl  x).trans h) (ar39.da x)
theorem k134 : ∀ (N : Nat),N ≤ 4611686018427387904 → TOk Proofs.Tryz.prog 134 (t134 N)
 | 0,_ => TL_ok ar134.wk fun x v h => by have h : none = some v := h; cases h
 | N + 1,hN => TL_ok ar134.wk fun x v h =>
   pure_ofT (l := [TE.plain 134 (t134 N) (k134 N (by omega))]) (s := []) tys_ok eqts_ok follows Proofs.Tryz.func134 (c := Proofs.Tryz.f134.body.get rfl) rfl (by decide) (by kernel_rfl)  (H := H134) (N := N) (shp := sh134)
     ((ev134 (by omega) (F1296 N) rfl rfl rfl rfl (fun _ _ => rfl) x.1 x.2).trans h) (ar134.da x)
theorem k94 (N : Nat) (hN : N ≤ 4611686018427387904) : TOk Proofs.Tryz.prog 94 (t94 N) := TL_ok ar94.wk fun x v h =>
   pure_ofT (l := [TE.plain 134 (t134 N) (k134 N (by omega))]) (s := []) tys_ok eqts_ok follows Proofs.Tryz.func94 (c := Proofs.Tryz.f94.body.get rfl) rfl (by decide) (by kernel_rfl)  (H := H94) (N := N) (shp := sh94)
     ((ev94 (by omega) rfl rfl rfl rfl (fun _ _ => rfl) x.1 x.2).trans h) (ar94.da x)
theorem k2005 : TSOk Proofs.Tryz.prog 154 1 t2005 := TLX_ok (fun x => ar2005.wk x.1) (fun x => st2005.wk x.2) fun x v s' h =>
   lens_ofT (l := [TE.plain 113 (t113) k113]) (s := []) tys_ok eqts_ok follows Proofs.Tryz.func154 (c := Proofs.Tryz.f154.body.get rfl) rfl (by kernel_rfl)  (H := H2005) (N := 0) (ms := [.give]) (shp := sh2005) (sho := sw2005)
     ((ev2005 (N := 0) (by omega) rfl rfl rfl rfl (fun _ _ => rfl) x.1.1 x.2.1.1 x.2.1.2.1 x.2.1.2.2.1 x.2.1.2.2.2.1 x.2.1.2.2.2.2.1).trans h) rfl (by decide)
theorem k133 : TOk Proofs.Tryz.prog 133 t133 := TL_ok ar133.wk fun x v h =>
   pure_ofTA ali133 [1000000] (l := [TE.plain 113 (t113) k113,TE.lens 154 1 [.keep,.keep] (t2005) Proofs.Tryz.func154 (c := Proofs.Tryz.f154.body.get rfl) rfl (by decide) k2005,TE.plain 115 (t115) k115]) (s := []) tys_ok eqts_ok follows Proofs.Tryz.func133 (c := Proofs.Tryz.f133.body.get rfl) rfl (by decide) (by kernel_rfl) (growT_all (growAll_cons (same_grown rfl) (growAll_cons (fun _ _ _ _ h => ro_grown (ro2005 _ _ _ _ h)) (growAll_cons (same_grown rfl) growAll_nil)))) (H := H133) (N := 0) (shp := sh133)
     ((ev133 (by omega) rfl rfl rfl rfl (fun _ _ => rfl) (fun _ _ => rfl) (fun _ _ => rfl) x.1 x.2.1 x.2.2.1 x.2.2.2).trans h) (ar133.da x)
theorem k93 (N : Nat) (hN : N ≤ 4611686018427387904) : TOk Proofs.Tryz.prog 93 (t93 N) := TL_ok ar93.wk fun x v h =>
   pure_ofT (l := [TE.plain 92 (t92 N) (k92 N (by omega)),TE.plain 39 (t39 N) (k39 N (by omega)),TE.plain 94 (t94 N) (k94 N (by omega)),TE.plain 133 (t133) k133,TE.plain 89 (t89 N) (k89 N (by omega)),TE.plain 61 (t61) k61]) (s := []) tys_ok eqts_ok follows Proofs.Tryz.func93 (c := Proofs.Tryz.f93.body.get rfl) rfl (by decide) (by kernel_rfl)  (H := H93) (N := N) (shp := sh93)
     ((ev93 (by omega) rfl rfl rfl rfl (fun _ _ => rfl) (fun _ _ => rfl) (fun _ _ => rfl) (fun _ _ => rfl) (fun _ _ => rfl) (fun _ _ => rfl) x.1 x.2).trans h) (ar93.da x)
theorem k33 (N : Nat) (hN : N ≤ 4611686018427387904) : TOk Proofs.Tryz.prog 33 (t33 N) := TL_ok ar33.wk fun x v h =>
   pure_ofT (l := [TE.plain 93 (t93 N) (k93 N (by omega))]) (s := []) tys_ok eqts_ok follows Proofs.Tryz.func33 (c := Proofs.Tryz.f33.body.get rfl) rfl (by decide) (by kernel_rfl)  (H := H33) (N := N) (shp := sh33)
     ((ev33 (by omega) rfl rfl rfl rfl (fun _ _ => rfl) x).trans h) (ar33.da x)
theorem k34 (N : Nat) (hN : N ≤ 4611686018427387904) : TOk Proofs.Tryz.prog 34 (t34 N) := TL_ok ar34.wk fun x v h =>
   pure_ofT (l := [TE.plain 93 (t93 N) (k93 N (by omega))]) (s := []) tys_ok eqts_ok follows Proofs.Tryz.func34 (c := Proofs.Tryz.f34.body.get rfl) rfl (by decide) (by kernel_rfl)  (H := H34) (N := N) (shp := sh34)
     ((ev34 (by omega) rfl rfl rfl rfl (fun _ _ => rfl) x).trans h) (ar34.da x)
theorem k35 (N : Nat) (hN : N ≤ 4611686018427387904) : TOk Proofs.Tryz.prog 35 (t35 N) := TL_ok ar35.wk fun x v h =>
   pure_ofTA ali35 [] (l := [TE.plain 65 (t65) k65,TE.plain 89 (t89 N) (k89 N (by omega)),TE.plain 63 (t63) k63,TE.plain 92 (t92 N) (k92 N (by omega)),TE.plain 64 (t64) k64]) (s := []) tys_ok eqts_ok follows Proofs.Tryz.func35 (c := Proofs.Tryz.f35.body.get rfl) rfl (by decide) (by kernel_rfl) growT_nil (H := H35) (N := N) (shp := sh35)
     ((ev35 (by omega) rfl rfl rfl rfl (fun _ _ => rfl) (fun _ _ => rfl) (fun _ _ => rfl) (fun _ _ => rfl) (fun _ _ => rfl) x).trans h) (ar35.da x)
theorem k38 : TOk Proofs.Tryz.prog 38 t38 := TL_ok ar38.wk fun x v h =>
   pure_ofT (l := []) (s := []) tys_ok eqts_ok follows Proofs.Tryz.func38 (c := Proofs.Tryz.f38.body.get rfl) rfl (by decide) (by kernel_rfl)  (H := H38) (N := 0) (shp := sh38)
     ((ev38 (by omega) rfl rfl rfl rfl  x).trans h) (ar38.da x)
theorem k95 : TOk Proofs.Tryz.prog 95 t95 := TL_ok ar95.wk fun x v h =>
   pure_ofT (l := [TE.plain 113 (t113) k113,TE.plain 118 (t118) k118,TE.plain 115 (t115) k115,TE.plain 117 (t117) k117]) (s := []) tys_ok eqts_ok follows Proofs.Tryz.func95 (c := Proofs.Tryz.f95.body.get rfl) rfl (by decide) (by kernel_rfl)  (H := H95) (N := 0) (shp := sh95)
     ((ev95 (by omega) rfl rfl rfl rfl (fun _ _ => rfl) (fun _ _ => rfl) (fun _ _ => rfl) (fun _ _ => rfl) x.1 x.2.1 x.2.2).trans h) (ar95.da x)
theorem k36 (N : Nat) (hN : N ≤ 4611686018427387904) : TOk Proofs.Tryz.prog 36 (t36 N) := TL_ok ar36.wk fun x v h =>
   pure_ofTA ali36 [] (l := [TE.plain 92 (t92 N) (k92 N (by omega)),TE.plain 38 (t38) k38,TE.plain 94 (t94 N) (k94 N (by omega)),TE.plain 95 (t95) k95,TE.plain 89 (t89 N) (k89 N (by omega)),TE.plain 66 (t66) k66]) (s := []) tys_ok eqts_ok follows Proofs.Tryz.func36 (c := Proofs.Tryz.f36.body.get rfl) rfl (by decide) (by kernel_rfl) growT_nil (H := H36) (N := N) (shp := sh36)
     ((ev36 (by omega) rfl rfl rfl rfl (fun _ _ => rfl) (fun _ _ => rfl) (fun _ _ => rfl) (fun _ _ => rfl) (fun _ _ => rfl) (fun _ _ => rfl) x).trans h) (ar36.da x)
theorem k37 (N : Nat) (hN : N ≤ 4611686018427387904) : TOk Proofs.Tryz.prog 37 (t37 N) := TL_ok ar37.wk fun x v h =>
   pure_ofT (l := [TE.plain 67 (t67) k67,TE.plain 89 (t89 N) (k89 N (by omega))]) (s := []) tys_ok eqts_ok follows Proofs.Tryz.func37 (c := Proofs.Tryz.f37.body.get rfl) rfl (by decide) (by kernel_rfl)  (H := H37) (N := N) (shp := sh37)
     ((ev37 (by omega) rfl rfl rfl rfl (fun _ _ => rfl) (fun _ _ => rfl) x).trans h) (ar37.da x)
theorem k11 (N : Nat) (hN : N ≤ 4611686018427387904) : TOk Proofs.Tryz.prog 11 (t11 N) := TL_ok ar11.wk fun x v h =>
   pure_ofT (l := [TE.plain 23 (t23 N) (k23 N (by omega)),TE.plain 30 (t30 N) (k30 N (by omega)),TE.plain 31 (t31 N) (k31 N (by omega)),TE.plain 32 (t32 N) (k32 N (by omega)),TE.plain 33 (t33 N) (k33 N (by omega)),TE.plain 34 (t34 N) (k34 N (by omega)),TE.plain 35 (t35 N) (k35 N (by omega)),TE.plain 36 (t36 N) (k36 N (by omega)),TE.plain 37 (t37 N) (k37 N (by omega))]) (s := []) tys_ok eqts_ok follows Proofs.Tryz.func11 (c := Proofs.Tryz.f11.body.get rfl) rfl (by decide) (by kernel_rfl)  (H := H11) (N := N) (shp := sh11)
     ((ev11 (unroll_le h) (by omega) rfl rfl rfl rfl (fun _ _ => rfl) (fun _ _ => rfl) (fun _ _ => rfl) (fun _ _ => rfl) (fun _ _ => rfl) (fun _ _ => rfl) (fun _ _ => rfl) (fun _ _ => rfl) (fun _ _ => rfl) x).trans h) (ar11.da x)
theorem k87 : TOk Proofs.Tryz.prog 87 t87 := TL_ok ar87.wk fun x v h =>
   pure_ofT (l := []) (s := []) tys_ok eqts_ok follows Proofs.Tryz.func87 (c := Proofs.Tryz.f87.body.get rfl) rfl (by decide) (by kernel_rfl)  (H := H87) (N := 0) (shp := sh87)
     ((ev87 (by omega) rfl rfl rfl rfl  x.1 x.2).trans h) (ar87.da x)
theorem k29 : ∀ (N : Nat),N ≤ 4611686018427387904 → TOk Proofs.Tryz.prog 29 (t29 N)
 | 0,_ => TL_ok ar29.wk fun x v h => by have h : none = some v := h; cases h
 | N + 1,hN => TL_ok ar29.wk fun x v h =>
   pure_ofT (l := [TE.plain 87 (t87) k87,TE.plain 29 (t29 N) (k29 N (by omega))]) (s := []) tys_ok eqts_ok follows Proofs.Tryz.func29 (c := Proofs.Tryz.f29.body.get rfl) rfl (by decide) (by kernel_rfl)  (H := H29) (N := N) (shp := sh29)
     ((ev29 (by omega) (F19 N) rfl rfl rfl rfl (fun _ _ => rfl) (fun _ _ => rfl) x.1 x.2).trans h) (ar29.da x)
theorem k10 (N : Nat) (hN : N ≤ 4611686018427387904) : TOk Proofs.Tryz.prog 10 (t10 N) := TL_ok ar10.wk fun x v h =>
   pure_ofT (l := [TE.plain 29 (t29 N) (k29 N (by omega))]) (s := []) tys_ok eqts_ok follows Proofs.Tryz.func10 (c := Proofs.Tryz.f10.body.get rfl) rfl (by decide) (by kernel_rfl)  (H := H10) (N := N) (shp := sh10)
     ((ev10 (by omega) rfl rfl rfl rfl (fun _ _ => rfl) x.1 x.2).trans h) (ar10.da x)
theorem k6 (N : Nat) (hN : N ≤ 4611686018427387904) : TOk Proofs.Tryz.prog 6 (t6 N) := TL_ok ar6.wk fun x v h =>
   pure_ofT (l := [TE.plain 19 (t19) k19,TE.plain 18 (t18) k18,TE.plain 8 (t8 N) (k8 N (by omega)),TE.plain 11 (t11 N) (k11 N (by omega)),TE.plain 10 (t10 N) (k10 N (by omega))]) (s := []) tys_ok eqts_ok follows Proofs.Tryz.func6 (c := Proofs.Tryz.f6.body.get rfl) rfl (by decide) (by kernel_rfl)  (H := H6) (N := N) (shp := sh6)
     ((ev6 (by omega) rfl rfl rfl rfl (fun _ _ => rfl) (fun _ _ => rfl) (fun _ _ => rfl) (fun _ _ => rfl) (fun _ _ => rfl) ).trans h) (ar6.da x)
theorem k12 (N : Nat) (hN : N ≤ 4611686018427387904) : TOk Proofs.Tryz.prog 12 (t12 N) := TL_ok ar12.wk fun x v h =>
   pure_ofT (l := [TE.plain 11 (t11 N) (k11 N (by omega)),TE.plain 38 (t38) k38,TE.plain 39 (t39 N) (k39 N (by omega))]) (s := []) tys_ok eqts_ok follows Proofs.Tryz.func12 (c := Proofs.Tryz.f12.body.get rfl) rfl (by decide) (by kernel_rfl)  (H := H12) (N := N) (shp := sh12)
     ((ev12 (by omega) rfl rfl rfl rfl (fun _ _ => rfl) (fun _ _ => rfl) (fun _ _ => rfl) x).trans h) (ar12.da x)
theorem k7 : ∀ (N : Nat),N ≤ 4611686018427387904 → TOk Proofs.Tryz.prog 7 (t7 N)
 | 0,_ => TL_ok ar7.wk fun x v h => by have h : none = some v := h; cases h
 | N + 1,hN => TL_ok ar7.wk fun x v h =>
   pure_ofT (l := [TE.plain 7 (t7 N) (k7 N (by omega))]) (s := []) tys_ok eqts_ok follows Proofs.Tryz.func7 (c := Proofs.Tryz.f7.body.get rfl) rfl (by decide) (by kernel_rfl)  (H := H7) (N := N) (shp := sh7)
     ((ev7 (by omega) (F27 N) rfl rfl rfl rfl (fun _ _ => rfl) x).trans h) (ar7.da x)
theorem k83 : ∀ (N : Nat),N ≤ 4611686018427387904 → TOk Proofs.Tryz.prog 83 (t83 N)
 | 0,_ => TL_ok ar83.wk fun x v h => by have h : none = some v := h; cases h
 | N + 1,hN => TL_ok ar83.wk fun x v h =>
   pure_ofT (l := [TE.plain 83 (t83 N) (k83 N (by omega))]) (s := []) tys_ok eqts_ok follows Proofs.Tryz.func83 (c := Proofs.Tryz.f83.body.get rfl) rfl (by decide) (by kernel_rfl)  (H := H83) (N := N) (shp := sh83)
     ((ev83 (by omega) (F39 N) rfl rfl rfl rfl (fun _ _ => rfl) x).trans h) (ar83.da x)
theorem k139 : TOk Proofs.Tryz.prog 139 t139 := TL_ok ar139.wk fun x v h =>
   pure_ofT (l := []) (s := []) tys_ok eqts_ok follows Proofs.Tryz.func139 (c := Proofs.Tryz.f139.body.get rfl) rfl (by decide) (by kernel_rfl)  (H := H139) (N := 0) (shp := sh139)
     ((ev139 (by omega) rfl rfl rfl rfl  x).trans h) (ar139.da x)
theorem k161 : TOk Proofs.Tryz.prog 161 t161 := TL_ok ar161.wk fun x v h =>
   pure_ofT (l := []) (s := []) tys_ok eqts_ok follows Proofs.Tryz.func161 (c := Proofs.Tryz.f161.body.get rfl) rfl (by decide) (by kernel_rfl)  (H := H161) (N := 0) (shp := sh161)
     ((ev161 (by omega) rfl rfl rfl rfl  ).trans h) (ar161.da x)
theorem k140 (N : Nat) (hN : N ≤ 4611686018427387904) : TOk Proofs.Tryz.prog 140 (t140 N) := TL_ok ar140.wk fun x v h =>
   pure_ofT (l := [TE.plain 161 (t161) k161]) (s := []) tys_ok eqts_ok follows Proofs.Tryz.func140 (c := Proofs.Tryz.f140.body.get rfl) rfl (by decide) (by kernel_rfl)  (H := H140) (N := N) (shp := sh140)
     ((ev140 (by omega) rfl rfl rfl rfl (fun _ _ => rfl) x).trans h) (ar140.da x)
theorem k141 : TOk Proofs.Tryz.prog 141 t141 := TL_ok ar141.wk fun x v h =>
   pure_ofT (l := []) (s := []) tys_ok eqts_ok follows Proofs.Tryz.func141 (c := Proofs.Tryz.f141.body.get rfl) rfl (by decide) (by kernel_rfl)  (H := H141) (N := 0) (shp := sh141)
     ((ev141 (by omega) rfl rfl rfl rfl  x).trans h) (ar141.da x)
theorem k104 (N : Nat) (hN : N ≤ 4611686018427387904) : TOk Proofs.Tryz.prog 104 (t104 N) := TL_ok ar104.wk fun x v h =>
   pure_ofT (l := [TE.plain 139 (t139) k139,TE.plain 140 (t140 N) (k140 N (by omega)),TE.plain 141 (t141) k141]) (s := []) tys_ok eqts_ok follows Proofs.Tryz.func104 (c := Proofs.Tryz.f104.body.get rfl) rfl (by decide) (by kernel_rfl)  (H := H104) (N := N) (shp := sh104)
     ((ev104 (by omega) rfl rfl rfl rfl (fun _ _ => rfl) (fun _ _ => rfl) (fun _ _ => rfl) x).trans h) (ar104.da x)
theorem k127 (N : Nat) (hN : N ≤ 4611686018427387904) : TOk Proofs.Tryz.prog 127 (t127 N) := TL_ok ar127.wk fun x v h =>
   pure_ofT (l := [TE.plain 104 (t104 N) (k104 N (by omega))]) (s := []) tys_ok eqts_ok follows Proofs.Tryz.func127 (c := Proofs.Tryz.f127.body.get rfl) rfl (by decide) (by kernel_rfl)  (H := H127) (N := N) (shp := sh127)
     ((ev127 (by omega) rfl rfl rfl rfl (fun _ _ => rfl) x).trans h) (ar127.da x)
theorem k86 : ∀ (N : Nat),N ≤ 4611686018427387904 → TOk Proofs.Tryz.prog 86 (t86 N)
 | 0,_ => TL_ok ar86.wk fun x v h => by have h : none = some v := h; cases h
 | N + 1,hN => TL_ok ar86.wk fun x v h =>
   pure_ofT (l := [TE.plain 86 (t86 N) (k86 N (by omega))]) (s := []) tys_ok eqts_ok follows Proofs.Tryz.func86 (c := Proofs.Tryz.f86.body.get rfl) rfl (by decide) (by kernel_rfl)  (H := H86) (N := N) (shp := sh86)
     ((ev86 (by omega) (F28 N) rfl rfl rfl rfl (fun _ _ => rfl) x).trans h) (ar86.da x)
theorem k128 : TOk Proofs.Tryz.prog 128 t128 := TL_ok ar128.wk fun x v h =>
   pure_ofT (l := []) (s := []) tys_ok eqts_ok follows Proofs.Tryz.func128 (c := Proofs.Tryz.f128.body.get rfl) rfl (by decide) (by kernel_rfl)  (H := H128) (N := 0) (shp := sh128)
     ((ev128 (by omega) rfl rfl rfl rfl  x).trans h) (ar128.da x)
theorem k129 : TOk Proofs.Tryz.prog 129 t129 := TL_ok ar129.wk fun x v h =>
   pure_ofT (l := []) (s := []) tys_ok eqts_ok follows Proofs.Tryz.func129 (c := Proofs.Tryz.f129.body.get rfl) rfl (by decide) (by kernel_rfl)  (H := H129) (N := 0) (shp := sh129)
     ((ev129 (by omega) rfl rfl rfl rfl  x).trans h) (ar129.da x)
theorem k84 : ∀ (N : Nat),N ≤ 4611686018427387904 → TOk Proofs.Tryz.prog 84 (t84 N)
 | 0,_ => TL_ok ar84.wk fun x v h => by have h : none = some v := h; cases h
 | N + 1,hN => TL_ok ar84.wk fun x v h =>
   pure_ofT (l := [TE.plain 127 (t127 N) (k127 N (by omega)),TE.plain 84 (t84 N) (k84 N (by omega)),TE.plain 86 (t86 N) (k86 N (by omega)),TE.plain 128 (t128) k128,TE.plain 129 (t129) k129]) (s := []) tys_ok eqts_ok follows Proofs.Tryz.func84 (c := Proofs.Tryz.f84.body.get rfl) rfl (by decide) (by kernel_rfl)  (H := H84) (N := N) (shp := sh84)
     ((ev84 (by omega) (F72 N) rfl rfl rfl rfl (fun _ _ => rfl) (fun _ _ => rfl) (fun _ _ => rfl) (fun _ _ => rfl) (fun _ _ => rfl) x).trans h) (ar84.da x)
theorem k170 : TOk Proofs.Tryz.prog 170 t170 := TL_ok ar170.wk fun x v h =>
   pure_ofT (l := []) (s := []) tys_ok eqts_ok follows Proofs.Tryz.func170 (c := Proofs.Tryz.f170.body.get rfl) rfl (by decide) (by kernel_rfl)  (H := H170) (N := 0) (shp := sh170)
     ((ev170 (by omega) rfl rfl rfl rfl  x.1 x.2).trans h) (ar170.da x)
theorem k165 (N : Nat) (hN : N ≤ 4611686018427387904) : TOk Proofs.Tryz.prog 165 (t165 N) := TL_ok ar165.wk fun x v h =>
   pure_ofT (l := [TE.plain 170 (t170) k170]) (s := []) tys_ok eqts_ok follows Proofs.Tryz.func165 (c := Proofs.Tryz.f165.body.get rfl) rfl (by decide) (by kernel_rfl)  (H := H165) (N := N) (shp := sh165)
     ((ev165 (by omega) rfl rfl rfl rfl (fun _ _ => rfl) x.1 x.2).trans h) (ar165.da x)
theorem k150 : ∀ (N : Nat),N ≤ 4611686018427387904 → TOk Proofs.Tryz.prog 150 (t150 N)
 | 0,_ => TL_ok ar150.wk fun x v h => by have h : none = some v := h; cases h
 | N + 1,hN => TL_ok ar150.wk fun x v h =>
   pure_ofT (l := [TE.plain 165 (t165 N) (k165 N (by omega)),TE.plain 150 (t150 N) (k150 N (by omega))]) (s := []) tys_ok eqts_ok follows Proofs.Tryz.func150 (c := Proofs.Tryz.f150.body.get rfl) rfl (by decide) (by kernel_rfl)  (H := H150) (N := N) (shp := sh150)
     ((ev150 (by omega) (F95 N) rfl rfl rfl rfl (fun _ _ => rfl) (fun _ _ => rfl) x.1 x.2).trans h) (ar150.da x)
theorem k130 (N : Nat) (hN : N ≤ 4611686018427387904) : TOk Proofs.Tryz.prog 130 (t130 N) := TL_ok ar130.wk fun x v h =>
   pure_ofT (l := [TE.plain 150 (t150 N) (k150 N (by omega))]) (s := []) tys_ok eqts_ok follows Proofs.Tryz.func130 (c := Proofs.Tryz.f130.body.get rfl) rfl (by decide) (by kernel_rfl)  (H := H130) (N := N) (shp := sh130)
     ((ev130 (by omega) rfl rfl rfl rfl (fun _ _ => rfl) x).trans h) (ar130.da x)
theorem k131 : ∀ (N : Nat),N ≤ 4611686018427387904 → TOk Proofs.Tryz.prog 131 (t131 N)
 | 0,_ => TL_ok ar131.wk fun x v h => by have h : none = some v := h; cases h
 | N + 1,hN => TL_ok ar131.wk fun x v h =>
   pure_ofT (l := [TE.plain 131 (t131 N) (k131 N (by omega))]) (s := []) tys_ok eqts_ok follows Proofs.Tryz.func131 (c := Proofs.Tryz.f131.body.get rfl) rfl (by decide) (by kernel_rfl)  (H := H131) (N := N) (shp := sh131)
     ((ev131 (by omega) (F92 N) rfl rfl rfl rfl (fun _ _ => rfl) x.1 x.2).trans h) (ar131.da x)
theorem k85 (N : Nat) (hN : N ≤ 4611686018427387904) : TOk Proofs.Tryz.prog 85 (t85 N) := TL_ok ar85.wk fun x v h =>
   pure_ofT (l := [TE.plain 130 (t130 N) (k130 N (by omega)),TE.plain 131 (t131 N) (k131 N (by omega))]) (s := []) tys_ok eqts_ok follows Proofs.Tryz.func85 (c := Proofs.Tryz.f85.body.get rfl) rfl (by decide) (by kernel_rfl)  (H := H85) (N := N) (shp := sh85)
     ((ev85 (by omega) rfl rfl rfl rfl (fun _ _ => rfl) (fun _ _ => rfl) x).trans h) (ar85.da x)
theorem k27 (N : Nat) (hN : N ≤ 4611686018427387904) : TOk Proofs.Tryz.prog 27 (t27 N) := TL_ok ar27.wk fun x v h =>
   pure_ofT (l := [TE.plain 7 (t7 N) (k7 N (by omega)),TE.plain 83 (t83 N) (k83 N (by omega)),TE.plain 84 (t84 N) (k84 N (by omega)),TE.plain 85 (t85 N) (k85 N (by omega)),TE.plain 86 (t86 N) (k86 N (by omega))]) (s := []) tys_ok eqts_ok follows Proofs.Tryz.func27 (c := Proofs.Tryz.f27.body.get rfl) rfl (by decide) (by kernel_rfl)  (H := H27) (N := N) (shp := sh27)
     ((ev27 (by omega) rfl rfl rfl rfl (fun _ _ => rfl) (fun _ _ => rfl) (fun _ _ => rfl) (fun _ _ => rfl) (fun _ _ => rfl) x.1 x.2).trans h) (ar27.da x)
theorem k26 : ∀ (N : Nat),N ≤ 4611686018427387904 → TOk Proofs.Tryz.prog 26 (t26 N)
 | 0,_ => TL_ok ar26.wk fun x v h => by have h : none = some v := h; cases h
 | N + 1,hN => TL_ok ar26.wk fun x v h =>
   pure_ofT (l := [TE.plain 26 (t26 N) (k26 N (by omega))]) (s := []) tys_ok eqts_ok follows Proofs.Tryz.func26 (c := Proofs.Tryz.f26.body.get rfl) rfl (by decide) (by kernel_rfl)  (H := H26) (N := N) (shp := sh26)
     ((ev26 (by omega) (F43 N) rfl rfl rfl rfl (fun _ _ => rfl) x).trans h) (ar26.da x)
theorem k142 : TOk Proofs.Tryz.prog 142 t142 := TL_ok ar142.wk fun x v h =>
   pure_ofT (l := []) (s := []) tys_ok eqts_ok follows Proofs.Tryz.func142 (c := Proofs.Tryz.f142.body.get rfl) rfl (by decide) (by kernel_rfl)  (H := H142) (N := 0) (shp := sh142)
     ((ev142 (by omega) rfl rfl rfl rfl  x).trans h) (ar142.da x)
theorem k143 (N : Nat) (hN : N ≤ 4611686018427387904) : TOk Proofs.Tryz.prog 143 (t143 N) := TL_ok ar143.wk fun x v h =>
   pure_ofT (l := [TE.plain 142 (t142) k142]) (s := []) tys_ok eqts_ok follows Proofs.Tryz.func143 (c := Proofs.Tryz.f143.body.get rfl) rfl (by decide) (by kernel_rfl)  (H := H143) (N := N) (shp := sh143)
     ((ev143 (by omega) rfl rfl rfl rfl (fun _ _ => rfl) x).trans h) (ar143.da x)
theorem k105 (N : Nat) (hN : N ≤ 4611686018427387904) : TOk Proofs.Tryz.prog 105 (t105 N) := TL_ok ar105.wk fun x v h =>
   pure_ofT (l := [TE.plain 142 (t142) k142,TE.plain 143 (t143 N) (k143 N (by omega))]) (s := []) tys_ok eqts_ok follows Proofs.Tryz.func105 (c := Proofs.Tryz.f105.body.get rfl) rfl (by decide) (by kernel_rfl)  (H := H105) (N := N) (shp := sh105)
     ((ev105 (by omega) rfl rfl rfl rfl (fun _ _ => rfl) (fun _ _ => rfl) x).trans h) (ar105.da x)
theorem k48 (N : Nat) (hN : N ≤ 4611686018427387904) : TOk Proofs.Tryz.prog 48 (t48 N) := TL_ok ar48.wk fun x v h =>
   pure_ofT (l := [TE.plain 104 (t104 N) (k104 N (by omega)),TE.plain 105 (t105 N) (k105 N (by omega))]) (s := []) tys_ok eqts_ok follows Proofs.Tryz.func48 (c := Proofs.Tryz.f48.body.get rfl) rfl (by decide) (by kernel_rfl)  (H := H48) (N := N) (shp := sh48)
     ((ev48 (by omega) rfl rfl rfl rfl (fun _ _ => rfl) (fun _ _ => rfl) x).trans h) (ar48.da x)
theorem k162 (N : Nat) (hN : N ≤ 4611686018427387904) : TOk Proofs.Tryz.prog 162 (t162 N) := TL_ok ar162.wk fun x v h =>
   pure_ofT (l := []) (s := []) tys_ok eqts_ok follows Proofs.Tryz.func162 (c := Proofs.Tryz.f162.body.get rfl) rfl (by decide) (by kernel_rfl)  (H := H162) (N := N) (shp := sh162)
     ((ev162 (by omega) rfl rfl rfl rfl  x.1 x.2).trans h) (ar162.da x)
theorem k144 (N : Nat) (hN : N ≤ 4611686018427387904) : TOk Proofs.Tryz.prog 144 (t144 N) := TL_ok ar144.wk fun x v h =>
   pure_ofT (l := [TE.plain 162 (t162 N) (k162 N (by omega))]) (s := []) tys_ok eqts_ok follows Proofs.Tryz.func144 (c := Proofs.Tryz.f144.body.get rfl) rfl (by decide) (by kernel_rfl)  (H := H144) (N := N) (shp := sh144)
     ((ev144 (by omega) rfl rfl rfl rfl (fun _ _ => rfl) x.1 x.2).trans h) (ar144.da x)
theorem k106 (N : Nat) (hN : N ≤ 4611686018427387904) : TOk Proofs.Tryz.prog 106 (t106 N) := TL_ok ar106.wk fun x v h =>
   pure_ofT (l := [TE.plain 144 (t144 N) (k144 N (by omega))]) (s := []) tys_ok eqts_ok follows Proofs.Tryz.func106 (c := Proofs.Tryz.f106.body.get rfl) rfl (by decide) (by kernel_rfl)  (H := H106) (N := N) (shp := sh106)
     ((ev106 (by omega) rfl rfl rfl rfl (fun _ _ => rfl) x.1 x.2).trans h) (ar106.da x)
theorem k49 (N : Nat) (hN : N ≤ 4611686018427387904) : TOk Proofs.Tryz.prog 49 (t49 N) := TL_ok ar49.wk fun x v h =>
   pure_ofT (l := [TE.plain 106 (t106 N) (k106 N (by omega))]) (s := []) tys_ok eqts_ok follows Proofs.Tryz.func49 (c := Proofs.Tryz.f49.body.get rfl) rfl (by decide) (by kernel_rfl)  (H := H49) (N := N) (shp := sh49)
     ((ev49 (by omega) rfl rfl rfl rfl (fun _ _ => rfl) x.1 x.2).trans h) (ar49.da x)
theorem k47 (N : Nat) (hN : N ≤ 4611686018427387904) : TOk Proofs.Tryz.prog 47 (t47 N) := TL_ok ar47.wk fun x v h =>
   pure_ofT (l := [TE.plain 48 (t48 N) (k48 N (by omega)),TE.plain 49 (t49 N) (k49 N (by omega))]) (s := []) tys_ok eqts_ok follows Proofs.Tryz.func47 (c := Proofs.Tryz.f47.body.get rfl) rfl (by decide) (by kernel_rfl)  (H := H47) (N := N) (shp := sh47)
     ((ev47 (by omega) rfl rfl rfl rfl (fun _ _ => rfl) (fun _ _ => rfl) x).trans h) (ar47.da x)
theorem k137 (N : Nat) (hN : N ≤ 4611686018427387904) : TOk Proofs.Tryz.prog 137 (t137 N) := TL_ok ar137.wk fun x v h =>
   pure_ofT (l := [TE.plain 106 (t106 N) (k106 N (by omega))]) (s := []) tys_ok eqts_ok follows Proofs.Tryz.func137 (c := Proofs.Tryz.f137.body.get rfl) rfl (by decide) (by kernel_rfl)  (H := H137) (N := N) (shp := sh137)
     ((ev137 (by omega) rfl rfl rfl rfl (fun _ _ => rfl) x.1 x.2.1 x.2.2.1 x.2.2.2).trans h) (ar137.da x)
theorem k155 : TOk Proofs.Tryz.prog 155 t155 := TL_ok ar155.wk fun x v h =>
   pure_ofT (l := [TE.plain 142 (t142) k142]) (s := []) tys_ok eqts_ok follows Proofs.Tryz.func155 (c := Proofs.Tryz.f155.body.get rfl) rfl (by decide) (by kernel_rfl)  (H := H155) (N := 0) (shp := sh155)
     ((ev155 (by omega) rfl rfl rfl rfl (fun _ _ => rfl) x).trans h) (ar155.da x)
theorem k156 : TOk Proofs.Tryz.prog 156 t156 := TL_ok ar156.wk fun x v h =>
   pure_ofT (l := [TE.plain 155 (t155) k155]) (s := []) tys_ok eqts_ok follows Proofs.Tryz.func156 (c := Proofs.Tryz.f156.body.get rfl) rfl (by decide) (by kernel_rfl)  (H := H156) (N := 0) (shp := sh156)
     ((ev156 (by omega) rfl rfl rfl rfl (fun _ _ => rfl) x.1 x.2).trans h) (ar156.da x)
theorem k167 (N : Nat) (hN : N ≤ 4611686018427387904) : TOk Proofs.Tryz.prog 167 (t167 N) := TL_ok ar167.wk fun x v h =>
   pure_ofT (l := []) (s := []) tys_ok eqts_ok follows Proofs.Tryz.func167 (c := Proofs.Tryz.f167.body.get rfl) rfl (by decide) (by kernel_rfl)  (H := H167) (N := N) (shp := sh167)
     ((ev167 (by omega) rfl rfl rfl rfl  x.1 x.2).trans h) (ar167.da x)
theorem k168 (N : Nat) (hN : N ≤ 4611686018427387904) : TOk Proofs.Tryz.prog 168 (t168 N) := TL_ok ar168.wk fun x v h =>
   pure_ofT (l := [TE.plain 167 (t167 N) (k167 N (by omega))]) (s := []) tys_ok eqts_ok follows Proofs.Tryz.func168 (c := Proofs.Tryz.f168.body.get rfl) rfl (by decide) (by kernel_rfl)  (H := H168) (N := N) (shp := sh168)
     ((ev168 (by omega) rfl rfl rfl rfl (fun _ _ => rfl) x.1 x.2).trans h) (ar168.da x)
theorem k157 (N : Nat) (hN : N ≤ 4611686018427387904) : TOk Proofs.Tryz.prog 157 (t157 N) := TL_ok ar157.wk fun x v h =>
   pure_ofT (l := [TE.plain 167 (t167 N) (k167 N (by omega)),TE.given 168 (t168 N) (k168 N (by omega))]) (s := []) tys_ok eqts_ok follows Proofs.Tryz.func157 (c := Proofs.Tryz.f157.body.get rfl) rfl (by decide) (by kernel_rfl)  (H := H157) (N := N) (shp := sh157)
     ((ev157 (by omega) rfl rfl rfl rfl (fun _ _ => rfl) (fun _ _ => rfl) x.1 x.2.1 x.2.2).trans h) (ar157.da x)
theorem k158 (N : Nat) (hN : N ≤ 4611686018427387904) : TOk Proofs.Tryz.prog 158 (t158 N) := TL_ok ar158.wk fun x v h =>
   pure_ofT (l := []) (s := []) tys_ok eqts_ok follows Proofs.Tryz.func158 (c := Proofs.Tryz.f158.body.get rfl) rfl (by decide) (by kernel_rfl)  (H := H158) (N := N) (shp := sh158)
     ((ev158 (by omega) rfl rfl rfl rfl  x.1 x.2).trans h) (ar158.da x)
theorem k159 (N : Nat) (hN : N ≤ 4611686018427387904) : TOk Proofs.Tryz.prog 159 (t159 N) := TL_ok ar159.wk fun x v h =>
   pure_ofT (l := [TE.plain 168 (t168 N) (k168 N (by omega)),TE.plain 158 (t158 N) (k158 N (by omega))]) (s := []) tys_ok eqts_ok follows Proofs.Tryz.func159 (c := Proofs.Tryz.f159.body.get rfl) rfl (by decide) (by kernel_rfl)  (H := H159) (N := N) (shp := sh159)
     ((ev159 (by omega) rfl rfl rfl rfl (fun _ _ => rfl) (fun _ _ => rfl) x.1 x.2.1 x.2.2).trans h) (ar159.da x)
theorem k169 : TOk Proofs.Tryz.prog 169 t169 := TL_ok ar169.wk fun x v h =>
   pure_ofT (l := []) (s := []) tys_ok eqts_ok follows Proofs.Tryz.func169 (c := Proofs.Tryz.f169.body.get rfl) rfl (by decide) (by kernel_rfl)  (H := H169) (N := 0) (shp := sh169)
     ((ev169 (by omega) rfl rfl rfl rfl  x).trans h) (ar169.da x)
theorem k160 (N : Nat) (hN : N ≤ 4611686018427387904) : TOk Proofs.Tryz.prog 160 (t160 N) := TL_ok ar160.wk fun x v h =>
   pure_ofT (l := [TE.plain 169 (t169) k169,TE.plain 144 (t144 N) (k144 N (by omega)),TE.plain 167 (t167 N) (k167 N (by omega))]) (s := []) tys_ok eqts_ok follows Proofs.Tryz.func160 (c := Proofs.Tryz.f160.body.get rfl) rfl (by decide) (by kernel_rfl)  (H := H160) (N := N) (shp := sh160)
     ((ev160 (by omega) rfl rfl rfl rfl (fun _ _ => rfl) (fun _ _ => rfl) (fun _ _ => rfl) x.1 x.2).trans h) (ar160.da x)
theorem k138 (N : Nat) (hN : N ≤ 4611686018427387904) : TOk Proofs.Tryz.prog 138 (t138 N) := TL_ok ar138.wk fun x v h =>
   pure_ofTA ali138 [] (l := [TE.plain 155 (t155) k155,TE.plain 156 (t156) k156,TE.plain 157 (t157 N) (k157 N (by omega)),TE.plain 158 (t158 N) (k158 N (by omega)),TE.plain 159 (t159 N) (k159 N (by omega)),TE.plain 160 (t160 N) (k160 N (by omega))]) (s := []) tys_ok eqts_ok follows Proofs.Tryz.func138 (c := Proofs.Tryz.f138.body.get rfl) rfl (by decide) (by kernel_rfl) growT_nil (H := H138) (N := N) (shp := sh138)
     ((ev138 (by omega) rfl rfl rfl rfl (fun _ _ => rfl) (fun _ _ => rfl) (fun _ _ => rfl) (fun _ _ => rfl) (fun _ _ => rfl) (fun _ _ => rfl) x.1 x.2).trans h) (ar138.da x)
theorem k103 : ∀ (N : Nat),N ≤ 4611686018427387904 → TOk Proofs.Tryz.prog 103 (t103 N)
 | 0,_ => TL_ok ar103.wk fun x v h => by have h : none = some v := h; cases h
 | N + 1,hN => TL_ok ar103.wk fun x v h =>
   pure_ofT (l := [TE.plain 103 (t103 N) (k103 N (by omega)),TE.plain 86 (t86 N) (k86 N (by omega)),TE.given 137 (t137 N) (k137 N (by omega)),TE.given 138 (t138 N) (k138 N (by omega))]) (s := []) tys_ok eqts_ok follows Proofs.Tryz.func103 (c := Proofs.Tryz.f103.body.get rfl) rfl (by decide) (by kernel_rfl)  (H := H103) (N := N) (shp := sh103)
     ((ev103 (by omega) (F127 N) rfl rfl rfl rfl (fun _ _ => rfl) (fun _ _ => rfl) (fun _ _ => rfl) (fun _ _ => rfl) x.1 x.2).trans h) (ar103.da x)
theorem k45 (N : Nat) (hN : N ≤ 4611686018427387904) : TOk Proofs.Tryz.prog 45 (t45 N) := TL_ok ar45.wk fun x v h =>
   pure_ofT (l := [TE.plain 27 (t27 N) (k27 N (by omega)),TE.plain 26 (t26 N) (k26 N (by omega)),TE.plain 47 (t47 N) (k47 N (by omega)),TE.plain 103 (t103 N) (k103 N (by omega))]) (s := []) tys_ok eqts_ok follows Proofs.Tryz.func45 (c := Proofs.Tryz.f45.body.get rfl) rfl (by decide) (by kernel_rfl)  (H := H45) (N := N) (shp := sh45)
     ((ev45 (by omega) rfl rfl rfl rfl (fun _ _ => rfl) (fun _ _ => rfl) (fun _ _ => rfl) (fun _ _ => rfl) x.1 x.2.1 x.2.2).trans h) (ar45.da x)
theorem k15 (N : Nat) (hN : N ≤ 4611686018427387904) : TOk Proofs.Tryz.prog 15 (t15 N) := TL_ok ar15.wk fun x v h =>
   pure_ofT (l := [TE.plain 45 (t45 N) (k45 N (by omega))]) (s := []) tys_ok eqts_ok follows Proofs.Tryz.func15 (c := Proofs.Tryz.f15.body.get rfl) rfl (by decide) (by kernel_rfl)  (H := H15) (N := N) (shp := sh15)
     ((ev15 (by omega) rfl rfl rfl rfl (fun _ _ => rfl) x.1 x.2).trans h) (ar15.da x)
theorem k46 (N : Nat) (hN : N ≤ 4611686018427387904) : TOk Proofs.Tryz.prog 46 (t46 N) := TL_ok ar46.wk fun x v h =>
   pure_ofT (l := [TE.plain 45 (t45 N) (k45 N (by omega))]) (s := []) tys_ok eqts_ok follows Proofs.Tryz.func46 (c := Proofs.Tryz.f46.body.get rfl) rfl (by decide) (by kernel_rfl)  (H := H46) (N := N) (shp := sh46)
     ((ev46 (by omega) rfl rfl rfl rfl (fun _ _ => rfl) x.1 x.2).trans h) (ar46.da x)
theorem k2000 : ∀ (N : Nat),N ≤ 4611686018427387904 → TSOk Proofs.Tryz.prog 16 0 (t2000 N)
 | 0,_ => TLS_ok (fun x => ar2000.wk x.1) (fun x => st2000.wk x.2) fun x v s' h => by have h : none = some (v,s') := h; cases h
 | N + 1,hN => TLS_ok (fun x => ar2000.wk x.1) (fun x => st2000.wk x.2) fun x v s' h =>
   lens_ofT (l := [TE.plain 46 (t46 N) (k46 N (by omega)),TE.lens 16 0 [.app 1,.keep,.keep] (t2000 N) Proofs.Tryz.func16 (c := Proofs.Tryz.f16.body.get rfl) rfl (by decide) (k2000 N (by omega))]) (s := []) tys_ok eqts_ok follows Proofs.Tryz.func16 (c := Proofs.Tryz.f16.body.get rfl) rfl (by kernel_rfl)  (H := H2000) (N := N) (ms := [.app 1]) (shp := sh2000) (sho := sw2000)
     ((ev2000 (N := N) (by omega) (F1398 N) rfl rfl rfl rfl (fun _ _ => rfl) (fun _ _ => rfl) x.1.1 x.1.2.1 x.2.1).trans h) rfl (by decide)
theorem k17 (N : Nat) (hN : N ≤ 4611686018427387904) : TOk Proofs.Tryz.prog 17 (t17 N) := TL_ok ar17.wk fun x v h =>
   pure_ofT (l := [TE.plain 47 (t47 N) (k47 N (by omega)),TE.plain 48 (t48 N) (k48 N (by omega)),TE.plain 49 (t49 N) (k49 N (by omega))]) (s := []) tys_ok eqts_ok follows Proofs.Tryz.func17 (c := Proofs.Tryz.f17.body.get rfl) rfl (by decide) (by kernel_rfl)  (H := H17) (N := N) (shp := sh17)
     ((ev17 (by omega) rfl rfl rfl rfl (fun _ _ => rfl) (fun _ _ => rfl) (fun _ _ => rfl) x.1 x.2).trans h) (ar17.da x)
theorem k5 (N : Nat) (hN : N ≤ 4611686018427387904) : TOk Proofs.Tryz.prog 5 (t5 N) := TL_ok ar5.wk fun x v h =>
   pure_ofT (l := [TE.plain 6 (t6 N) (k6 N (by omega)),TE.plain 12 (t12 N) (k12 N (by omega)),TE.plain 7 (t7 N) (k7 N (by omega)),TE.plain 15 (t15 N) (k15 N (by omega)),TE.lens 16 0 [.app 1,.keep,.keep] (t2000 N) Proofs.Tryz.func16 (c := Proofs.Tryz.f16.body.get rfl) rfl (by decide) (k2000 N (by omega)),TE.plain 17 (t17 N) (k17 N (by omega))]) (s := []) tys_ok eqts_ok follows Proofs.Tryz.func5 (c := Proofs.Tryz.f5.body.get rfl) rfl (by decide) (by kernel_rfl)  (H := H5) (N := N) (shp := sh5)
     ((ev5 (by omega) rfl rfl rfl rfl (fun _ _ => rfl) (fun _ _ => rfl) (fun _ _ => rfl) (fun _ _ => rfl) (fun _ _ => rfl) (fun _ _ => rfl) x.1 x.2).trans h) (ar5.da x)
end Go.Abs.Try
