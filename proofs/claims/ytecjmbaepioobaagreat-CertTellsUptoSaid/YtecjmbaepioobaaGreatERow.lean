/- CertTells of every input of at most 2^20 values in all: Truth3 and Atoms answer as the reference does (nodes of at most 400 nodes, at most 40 literals); the law returns true and does not panic. -/
import Derived.Test.YtecjmbaepioobaaGreatECt2
import Derived.Test.YtecjmbaepioobaaGreatEK
import Derived.Test.YtecjmbaepioobaaGreatSqLift
import Derived.Test.YtecjmbaepioobaaGreatRowLib
import Derived.Test.YtecjmbaepioobaaGreatLiftB
set_option linter.unusedSimpArgs false
set_option linter.unusedVariables false
namespace Go.Proofs.YtecjmbaepioobaaGreat
open Go.ChangeShapes Go.WideShapes Go.ChangeAt Go.RowKit Go.ChangeMaps Go.Abs Go.Abs.Try
set_option maxRecDepth 100000
theorem own : ownKnob Tryz.prog.godebug = none := by kernel_rfl
theorem laidOut : laidOutB Tryz.prog = true := by kernel_rfl
theorem cells4 : Tryz.prog.cellsOf 4 = 1 := by kernel_rfl
theorem cells25 : Tryz.prog.cellsOf 25 = 1 := by kernel_rfl
section
variable {H : Type} {enc : TypeId × Value → H} {W : World}
theorem rdSl {t e sz : Nat} (hu : Tryz.prog.underlying t = some (.slice e)) (hsz : Tryz.prog.cellsOf e = sz) (hpos : 0 < sz) {α : Type} {c : α → List AV} {μ : α → Nat} (he : ∀ n, RA enc Tryz.prog W Rows.uptoBulk n e c μ)
   {v : Value} {d : DataW H} {p : List MemPlace} (h : DataW.Trod enc Tryz.prog W 0 (fun _ => true) true t v d p) (hv : ∃ a len cap, v = .slice a len cap) : ∃ l : List α, Rep (gW Tryz.prog W) (.sl false sz (l.map c)) 0 v ∧ (l.map μ).sum + 1 ≤ Rows.uptoBulk d := by
 obtain ⟨fuel, hf⟩ := h
 obtain ⟨l, ⟨u, us, e1, hr, hu'⟩, _, hb⟩ := RA.slice bulkOk hu hsz hpos (he fuel) fuel (Nat.le_succ _) _ _ _ hf
 have hu' : us = [] := hu'
 subst hu'
 refine ⟨l, ?_, hb⟩
 obtain ⟨a, len, cap, rfl⟩ := hv
 simp [Value.cells] at e1
 subst e1
 exact hr
end
theorem contract3 (H : Type) (enc : TypeId × Value → H) (W : World) (base : Nat) (args : Array Value) (ds gs : List (DataW H)) (before : List MemPlace)
   (hval : ∀ (j : Nat) t v, Tryz.f3.params[j]? = some t → args[j]? = some v → Value.okWide Tryz.prog W .any base t v)
   (hW : DataW.Whole enc Tryz.prog Tryz.f3.params.toList Rows.certTellsSpec.vars false W args.toList ds gs before) (hk : Rows.uptoSmall H (ds ++ gs) = true) :
   Calls Tryz.prog 3 args W fun e W' => ∃ v, e = .returned v ∧ Rows.certTellsSpec.post enc Tryz.prog Tryz.f3 false true false false W args v W' := by
 have hW' := hW
 obtain ⟨p, q, hA0, hV, rfl, hfz, hnd⟩ := hW
 have hA : DataW.TrodAll enc Tryz.prog W 0 (fun _ => true) true Tryz.f3.params.toList args.toList ds p := hA0
 rw [Tryz.params3] at hA hval
 obtain ⟨v0, vs0, d0, ds0, p0, q0, hargs, rfl, rfl, h0, r0⟩ := trodAll_cons hA
 obtain ⟨v1, vs1, d1, ds1, p1, q1, rfl, rfl, rfl, h1, r1⟩ := trodAll_cons r0
 obtain ⟨v2, vs2, d2, ds2, p2, q2, rfl, rfl, rfl, h2, r2⟩ := trodAll_cons r1
 obtain ⟨rfl, rfl, rfl⟩ := trodAll_nil r2
 obtain rfl : args = #[v0, v1, v2] := by cases args; simp_all
 obtain ⟨rfl, rfl⟩ := trodVars_none hV
 obtain ⟨n0, hn0, hs0⟩ := rdNode h0
 obtain ⟨n1, hn1, hs1⟩ := rdSl Tryz.underlying22 cells24 (by decide) (fun n => (RA_Node n)) h1 (okWide_slice Tryz.underlying22 (hval 1 22 v1 rfl rfl))
 obtain ⟨n2, hn2, hs2⟩ := rdSl Tryz.underlying25 cells4 (by decide) (fun n => (RA.bool (n := n) bulkOk Tryz.underlying4)) h2 (okWide_slice Tryz.underlying25 (hval 2 25 v2 rfl rfl))
 have hb : Node.size n0 + ((n1.map Node.size).sum + 1) + ((n2.map (fun _ => 1)).sum + 1) ≤ 1048576 := by
   have := of_decide_eq_true hk
   simp only [List.append_nil, Rows.uptoBulkAll] at this
   omega
 have hlaw : F1402 big n0 n1 n2 = some true := by
   have hs : ∀ a ∈ n1, a.size ≤ 1048576 := fun a ha => by have := mem_sum (f := Node.size) ha; have := size_pos n0; omega
   have hl := len_sum (f := Node.size) size_pos n1
   exact Abs.Try.lawCt n0 n1 n2 (by omega) hs (by omega)
 have hP : Pure Tryz.prog 3 (ar3.e (n0, n1, n2)) (.bool true) := k3 big (Nat.le_refl _) _ _ (by
   rw [t3, TL_hit ar3.inj (n0, n1, n2) rfl]
   show bindO (F1402 big n0 n1 n2) _ = _
   rw [hlaw]; rfl)
 have hlt := hW'.lt
 simp only [List.append_nil] at hW' hlt
 refine (law_calls Tryz.func3 (c := Tryz.f3.body.get rfl) rfl (by decide) hP (vs := [v0, v1, v2]) ⟨_, _, rfl, hn0, _, _, rfl, hn1, _, _, rfl, hn2, rfl⟩).mono ?_
 rintro e W' ⟨rfl, hbel⟩
 refine ⟨_, rfl, post_of_below (pa := p0 ++ (p1 ++ (p2 ++ []))) (pv := []) hW' (fun _ _ _ => (trodAll_cons_mk (shut_bool Tryz.underlying4 _) trodAll_mk0)) (fun sp hsp => ?_) (fun _ _ => rfl) (by simp) hbel (ok_one (by kernel_rfl) rfl (okWide_bool_mk Tryz.underlying4 _))⟩
 simp only [List.append_nil] at hsp ⊢
 have hA1 : DataW.TrodAll enc Tryz.prog W 0 (fun _ => true) true Tryz.f3.params.toList [v0, v1, v2] [d0, d1, d2] (p0 ++ (p1 ++ p2)) := by simpa using hA0
 exact trodAll_stays laidOut hbel (by decide +kernel) hA1 hlt sp hsp
theorem lifted3 (os : Os) (started : os.Started) (H : Type) (enc : TypeId × Value → H) (F : Stop.Interp) :
   ReturnsInHanded {} Tryz.checked os 3 .any ((Rows.OpenSpec.upto Rows.certTellsSpec).pre6 enc Tryz.prog Tryz.f3 Rows.certTellsUptoRow.domain false) (((Rows.OpenSpec.upto Rows.certTellsSpec).at F).post enc Tryz.prog Tryz.f3 false true false false) := by
 refine returnsInHanded_of_cond (C := Tryz.checked) (s := Rows.OpenSpec.upto Rows.certTellsSpec) (k := Rows.uptoSmall) rfl own started (by kernel_rfl) Tryz.func3
   (OpenSpec.witness (enc := enc) (C := Tryz.checked) (s := Rows.OpenSpec.upto Rows.certTellsSpec) (k := Rows.uptoSmall) rfl false ⟨#[], #[.agg #[.int .i64 0, .int .i64 0, .string ⟨#[]⟩, .int .i64 0, .slice none 0 0], .slice none 0 0, .slice none 0 0], []⟩ 8 (by kernel_rfl) (by kernel_rfl) (by kernel_rfl)
     (x := ([.agg [.lit (.int .i64 0), .lit (.int .i64 0), .lit (.string []), .lit (.int .i64 0), .nil], .nil, .nil], [], [])) (by kernel_rfl) rfl (by kernel_rfl)) ?_
 intro W base args ds gs before hval hW _ hk _
 exact contract3 H enc W base args ds gs before hval hW hk
theorem over3 : Rows.certTellsUptoRow.holds Tryz.pinned (Rows.OpenSpec.upto Rows.certTellsSpec) :=
 OpenClaim.holds_of_cond 3 Tryz.f3 rfl rfl rfl rfl rfl rfl rfl ⟨rfl, rfl, rfl, rfl, rfl⟩ rfl rfl rfl rfl rfl (by kernel_rfl) Tryz.func3 (by kernel_rfl)
   (of_decide_eq_true (by kernel_rfl)) (by unfold Func.isWrapper; first | (rw [if_pos (by decide +kernel)]; kernel_rfl) | (rw [if_neg (by decide +kernel)]; exact ⟨rfl, rfl⟩))
   (fun os started H enc _ F => lifted3 os started H enc F)
theorem tells_holds : Rows.CertTellsUptoSaid := over3
end Go.Proofs.YtecjmbaepioobaaGreat
