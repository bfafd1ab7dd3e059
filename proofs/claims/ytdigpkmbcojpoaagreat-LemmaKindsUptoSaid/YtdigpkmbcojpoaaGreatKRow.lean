/- The kinds and the witnesses of the lemmas: program and reference name the same. -/
import Derived.Test.YtdigpkmbcojpoaaGreatKLm8toKLm13
import Derived.Test.YtdigpkmbcojpoaaGreatKK
import Derived.Test.YtdigpkmbcojpoaaGreatSqLift
import Derived.Test.YtdigpkmbcojpoaaGreatRowLib
import Derived.Test.YtdigpkmbcojpoaaGreatLiftB
set_option linter.unusedSimpArgs false
set_option linter.unusedVariables false
namespace Go.Proofs.YtdigpkmbcojpoaaGreat
open Go.ChangeShapes Go.WideShapes Go.ChangeAt Go.RowKit Go.ChangeMaps Go.Abs Go.Abs.Try
set_option maxRecDepth 100000
theorem own : ownKnob Tryz.prog.godebug = none := by kernel_rfl
theorem laidOut : laidOutB Tryz.prog = true := by kernel_rfl
section
variable {H : Type} {enc : TypeId × Value → H} {W : World}
theorem rdSl {t e sz : Nat} (hu : Tryz.prog.underlying t = some (.slice e)) (hsz : Tryz.prog.cellsOf e = sz) (hpos : 0 < sz) {α : Type} {c : α → List AV} {μ : α → Nat} (he : ∀ n, RA enc Tryz.prog W Rows.uptoBulk n e c μ)
   {v : Value} {d : DataW H} {p : List MemPlace} (h : DataW.Trod enc Tryz.prog W 0 (fun _ => true) true t v d p) (hv : ∃ a len cap, v = .slice a len cap) : ∃ l : List α, Rep (gW Tryz.prog W) (.sl false sz (l.map c)) 0 v ∧ (l.map μ).sum + 1 ≤ Rows.uptoBulk d := by
 obtain ⟨fuel, hf⟩ := h
 obtain ⟨l, ⟨u, us, e1, hr, hu'⟩, _, hb⟩ := RA.slice bulkOk hu hsz hpos (he fuel) fuel (Nat.le_succ _) _ _ _ hf
 have hu' : us = [] := hu'
 subst hu'
 refine ⟨l, ?_, hb⟩
 obtain ⟨a, len, cap, rfl⟩ := hv
 simp [Value.cells] at e1
 subst e1
 exact hr
end
theorem contract4 (H : Type) (enc : TypeId × Value → H) (W : World) (base : Nat) (args : Array Value) (ds gs : List (DataW H)) (before : List MemPlace)
   (hval : ∀ (j : Nat) t v, Tryz.f4.params[j]? = some t → args[j]? = some v → Value.okWide Tryz.prog W .any base t v)
   (hW : DataW.Whole enc Tryz.prog Tryz.f4.params.toList Rows.lemmaKindsSpec.vars false W args.toList ds gs before) (hk : Rows.uptoSmall H (ds ++ gs) = true) :
   Calls Tryz.prog 4 args W fun e W' => ∃ v, e = .returned v ∧ Rows.lemmaKindsSpec.post enc Tryz.prog Tryz.f4 false true false false W args v W' := by
 have hW' := hW
 obtain ⟨p, q, hA0, hV, rfl, hfz, hnd⟩ := hW
 have hA : DataW.TrodAll enc Tryz.prog W 0 (fun _ => true) true Tryz.f4.params.toList args.toList ds p := hA0
 rw [Tryz.params4] at hA hval
 obtain ⟨v0, vs0, d0, ds0, p0, q0, hargs, rfl, rfl, h0, r0⟩ := trodAll_cons hA
 obtain ⟨rfl, rfl, rfl⟩ := trodAll_nil r0
 obtain rfl : args = #[v0] := by cases args; simp_all
 obtain ⟨rfl, rfl⟩ := trodVars_none hV
 obtain ⟨n0, hn0, hs0⟩ := rdNode h0
 have hb : Node.size n0 ≤ 1048576 := by
   have := of_decide_eq_true hk
   simp only [List.append_nil, Rows.uptoBulkAll] at this
   omega
 have hlaw : F1210 big n0 = some true := by
   exact Abs.Try.lawLk n0 (by omega)
 have hP : Pure Tryz.prog 4 (ar4.e n0) (.bool true) := k4 big (Nat.le_refl _) _ _ (by
   rw [t4, TL_hit ar4.inj n0 rfl]
   show bindO (F1210 big n0) _ = _
   rw [hlaw]; rfl)
 have hlt := hW'.lt
 simp only [List.append_nil] at hW' hlt
 refine (law_calls Tryz.func4 (c := Tryz.f4.body.get rfl) rfl (by decide) hP (vs := [v0]) ⟨_, _, rfl, hn0, rfl⟩).mono ?_
 rintro e W' ⟨rfl, hbel⟩
 refine ⟨_, rfl, post_of_below (pa := p0 ++ []) (pv := []) hW' (fun _ _ _ => (trodAll_cons_mk (shut_bool Tryz.underlying4 _) trodAll_mk0)) (fun sp hsp => ?_) (fun _ _ => rfl) (by simp) hbel (ok_one (by kernel_rfl) rfl (okWide_bool_mk Tryz.underlying4 _))⟩
 simp only [List.append_nil] at hsp ⊢
 have hA1 : DataW.TrodAll enc Tryz.prog W 0 (fun _ => true) true Tryz.f4.params.toList [v0] [d0] (p0) := by simpa using hA0
 exact trodAll_stays laidOut hbel (by decide +kernel) hA1 hlt sp hsp
theorem lifted4 (os : Os) (started : os.Started) (H : Type) (enc : TypeId × Value → H) (F : Stop.Interp) :
   ReturnsInHanded {} Tryz.checked os 4 .any ((Rows.OpenSpec.upto Rows.lemmaKindsSpec).pre6 enc Tryz.prog Tryz.f4 Rows.lemmaKindsUptoRow.domain false) (((Rows.OpenSpec.upto Rows.lemmaKindsSpec).at F).post enc Tryz.prog Tryz.f4 false true false false) := by
 refine returnsInHanded_of_cond (C := Tryz.checked) (s := Rows.OpenSpec.upto Rows.lemmaKindsSpec) (k := Rows.uptoSmall) rfl own started (by kernel_rfl) Tryz.func4
   (OpenSpec.witness (enc := enc) (C := Tryz.checked) (s := Rows.OpenSpec.upto Rows.lemmaKindsSpec) (k := Rows.uptoSmall) rfl false ⟨#[], #[.agg #[.int .i64 0, .int .i64 0, .string ⟨#[]⟩, .int .i64 0, .slice none 0 0]], []⟩ 8 (by kernel_rfl) (by kernel_rfl) (by kernel_rfl)
     (x := ([.agg [.lit (.int .i64 0), .lit (.int .i64 0), .lit (.string []), .lit (.int .i64 0), .nil]], [], [])) (by kernel_rfl) rfl (by kernel_rfl)) ?_
 intro W base args ds gs before hval hW _ hk _
 exact contract4 H enc W base args ds gs before hval hW hk
theorem over4 : Rows.lemmaKindsUptoRow.holds Tryz.pinned (Rows.OpenSpec.upto Rows.lemmaKindsSpec) :=
 OpenClaim.holds_of_cond 4 Tryz.f4 rfl rfl rfl rfl rfl rfl rfl ⟨rfl, rfl, rfl, rfl, rfl⟩ rfl rfl rfl rfl rfl (by kernel_rfl) Tryz.func4 (by kernel_rfl)
   (of_decide_eq_true (by kernel_rfl)) (by unfold Func.isWrapper; first | (rw [if_pos (by decide +kernel)]; kernel_rfl) | (rw [if_neg (by decide +kernel)]; exact ⟨rfl, rfl⟩))
   (fun os started H enc _ F => lifted4 os started H enc F)
theorem kinds_holds : Rows.LemmaKindsUptoSaid := over4
end Go.Proofs.YtdigpkmbcojpoaaGreat
