/- Resolve gives a raw node its sorts, or returns the first error, and what it returns passes Check, for every node, declarations and sigs of at most 2^20 values in all. -/
import Derived.Test.YtjealnlacmfbiaaXRsv2toXRsv4
import Derived.Test.YtjealnlacmfbiaaXK
import Derived.Test.YtjealnlacmfbiaaSqLift
import Derived.Test.YtjealnlacmfbiaaRowLib
import Derived.Test.YtjealnlacmfbiaaLiftB
set_option linter.unusedSimpArgs false
set_option linter.unusedVariables false
namespace Go.Proofs.Ytjealnlacmfbiaa
open Go.ChangeShapes Go.WideShapes Go.ChangeAt Go.RowKit Go.ChangeMaps Go.Abs Go.Abs.Try
set_option maxRecDepth 100000
theorem own : ownKnob Try.prog.godebug = none := by kernel_rfl
theorem laidOut : laidOutB Try.prog = true := by kernel_rfl
theorem cells25 : Try.prog.cellsOf 25 = 1 := by kernel_rfl
theorem cells26 : Try.prog.cellsOf 26 = 1 := by kernel_rfl
theorem cells46 : Try.prog.cellsOf 46 = 2 := by kernel_rfl
theorem cells50 : Try.prog.cellsOf 50 = 1 := by kernel_rfl
theorem cells52 : Try.prog.cellsOf 52 = 3 := by kernel_rfl
section
variable {H : Type} {enc : TypeId × Value → H} {W : World}
def Decl.mu (x : Decl) : Nat := (x.declName.size + 1) + iB x.declSort
theorem RA_Decl : ∀ n, RA enc Try.prog W Rows.uptoBulk n 46 Decl.cells Decl.mu
 | 0 => RA.zero
 | n + 1 => fun fuel hf cs d ps h => by
   obtain ⟨xs, m, hfu, hx, hl, hlen, hfld⟩ := DataW.trod_struct Try.underlying46 h
   rw [cells46] at hl
   match xs, hlen, cs, hl with
   | [y0, y1], _, [c0, c1], _ =>
     have e0 := hfld 0 _ rfl
     have e1 := hfld 1 _ rfl
     simp only [cells3, cells9, List.drop_zero, List.drop_succ_cons, List.take_succ_cons, List.take_zero, List.getElem?_cons_zero, List.getElem?_cons_succ] at e0 e1
     obtain ⟨x0, r0, l0, b0⟩ := (RA.string (n := m) bulkOk Try.underlying9).field (n' := m) (by omega) e0
     obtain ⟨x1, r1, l1, b1⟩ := (RA.intB (n := m) bulkOk Try.underlying3).field (n' := m) (by omega) e1
     injection hx with hx _
     subst hx
     have hc : Decl.cells ⟨x0, x1⟩ = cS x0 ++ ((cI .i64) x1 ++ []) := by simp only [Decl.cells_eq, Node.cells_eq]; rfl
     refine ⟨⟨x0, x1⟩, ?_, ?_, ?_⟩
     · rw [hc]; exact Reps.append r0 (Reps.append r1 ((rfl : Reps _ [] 0 [])))
     · rw [hc]; simp only [allLeaf_append, l0, l1]; rfl
     · have := bulkOk.agg (H := H) [y0.1, y1.1]
       simp only [List.map_cons, List.map_nil, List.sum_cons, List.sum_nil] at this ⊢
       skip
       show (x0.size + 1) + iB x1 ≤ _
       omega
theorem rdDecl {v : Value} {d : DataW H} {p : List MemPlace} (h : DataW.Trod enc Try.prog W 0 (fun _ => true) true 46 v d p) : ∃ n : Decl, Rep (gW Try.prog W) (.agg (Decl.cells n)) 0 v ∧ Decl.mu n ≤ Rows.uptoBulk d := by
 obtain ⟨fuel, hf⟩ := h
 obtain ⟨n, hr, _, hb⟩ := RA_Decl fuel fuel (Nat.le_refl _) _ _ _ hf
 have hl := Reps.length hr
 refine ⟨n, ?_, hb⟩
 cases v with
 | agg cs => exact ⟨cs.toList, by simp, hr⟩
 | _ => simp [Value.cells, Decl.cells] at hl
def Sig.mu (x : Sig) : Nat := (x.sigName.size + 1) + ((x.sigArgs.map iB).sum + 1) + iB x.sigSort
theorem RA_Sig : ∀ n, RA enc Try.prog W Rows.uptoBulk n 52 Sig.cells Sig.mu
 | 0 => RA.zero
 | n + 1 => fun fuel hf cs d ps h => by
   obtain ⟨xs, m, hfu, hx, hl, hlen, hfld⟩ := DataW.trod_struct Try.underlying52 h
   rw [cells52] at hl
   match xs, hlen, cs, hl with
   | [y0, y1, y2], _, [c0, c1, c2], _ =>
     have e0 := hfld 0 _ rfl
     have e1 := hfld 1 _ rfl
     have e2 := hfld 2 _ rfl
     simp only [cells3, cells50, cells9, List.drop_zero, List.drop_succ_cons, List.take_succ_cons, List.take_zero, List.getElem?_cons_zero, List.getElem?_cons_succ] at e0 e1 e2
     obtain ⟨x0, r0, l0, b0⟩ := (RA.string (n := m) bulkOk Try.underlying9).field (n' := m) (by omega) e0
     obtain ⟨x1, r1, l1, b1⟩ := (RA.slice bulkOk Try.underlying50 cells3 (by omega) (RA.intB (n := m) bulkOk Try.underlying3)).field (n' := m) (by omega) e1
     obtain ⟨x2, r2, l2, b2⟩ := (RA.intB (n := m) bulkOk Try.underlying3).field (n' := m) (by omega) e2
     injection hx with hx _
     subst hx
     have hc : Sig.cells ⟨x0, x1, x2⟩ = cS x0 ++ ((cL 1 (cI .i64)) x1 ++ ((cI .i64) x2 ++ [])) := by simp only [Sig.cells_eq, Node.cells_eq]; rfl
     refine ⟨⟨x0, x1, x2⟩, ?_, ?_, ?_⟩
     · rw [hc]; exact Reps.append r0 (Reps.append r1 (Reps.append r2 ((rfl : Reps _ [] 0 []))))
     · rw [hc]; simp only [allLeaf_append, l0, l1, l2]; rfl
     · have := bulkOk.agg (H := H) [y0.1, y1.1, y2.1]
       simp only [List.map_cons, List.map_nil, List.sum_cons, List.sum_nil] at this ⊢
       skip
       show (x0.size + 1) + ((x1.map iB).sum + 1) + iB x2 ≤ _
       omega
theorem rdSig {v : Value} {d : DataW H} {p : List MemPlace} (h : DataW.Trod enc Try.prog W 0 (fun _ => true) true 52 v d p) : ∃ n : Sig, Rep (gW Try.prog W) (.agg (Sig.cells n)) 0 v ∧ Sig.mu n ≤ Rows.uptoBulk d := by
 obtain ⟨fuel, hf⟩ := h
 obtain ⟨n, hr, _, hb⟩ := RA_Sig fuel fuel (Nat.le_refl _) _ _ _ hf
 have hl := Reps.length hr
 refine ⟨n, ?_, hb⟩
 cases v with
 | agg cs => exact ⟨cs.toList, by simp, hr⟩
 | _ => simp [Value.cells, Sig.cells] at hl
theorem rdSl {t e sz : Nat} (hu : Try.prog.underlying t = some (.slice e)) (hsz : Try.prog.cellsOf e = sz) (hpos : 0 < sz) {α : Type} {c : α → List AV} {μ : α → Nat} (he : ∀ n, RA enc Try.prog W Rows.uptoBulk n e c μ)
   {v : Value} {d : DataW H} {p : List MemPlace} (h : DataW.Trod enc Try.prog W 0 (fun _ => true) true t v d p) (hv : ∃ a len cap, v = .slice a len cap) : ∃ l : List α, Rep (gW Try.prog W) (.sl false sz (l.map c)) 0 v ∧ (l.map μ).sum + 1 ≤ Rows.uptoBulk d := by
 obtain ⟨fuel, hf⟩ := h
 obtain ⟨l, ⟨u, us, e1, hr, hu'⟩, _, hb⟩ := RA.slice bulkOk hu hsz hpos (he fuel) fuel (Nat.le_succ _) _ _ _ hf
 have hu' : us = [] := hu'
 subst hu'
 refine ⟨l, ?_, hb⟩
 obtain ⟨a, len, cap, rfl⟩ := hv
 simp [Value.cells] at e1
 subst e1
 exact hr
end
theorem contract3 (H : Type) (enc : TypeId × Value → H) (W : World) (base : Nat) (args : Array Value) (ds gs : List (DataW H)) (before : List MemPlace)
   (hval : ∀ (j : Nat) t v, Try.f3.params[j]? = some t → args[j]? = some v → Value.okWide Try.prog W .any base t v)
   (hW : DataW.Whole enc Try.prog Try.f3.params.toList Rows.logicResolvesSpec.vars false W args.toList ds gs before) (hk : Rows.uptoSmall H (ds ++ gs) = true) :
   Calls Try.prog 3 args W fun e W' => ∃ v, e = .returned v ∧ Rows.logicResolvesSpec.post enc Try.prog Try.f3 false true false false W args v W' := by
 have hW' := hW
 obtain ⟨p, q, hA0, hV, rfl, hfz, hnd⟩ := hW
 have hA : DataW.TrodAll enc Try.prog W 0 (fun _ => true) true Try.f3.params.toList args.toList ds p := hA0
 rw [Try.params3] at hA hval
 obtain ⟨v0, vs0, d0, ds0, p0, q0, hargs, rfl, rfl, h0, r0⟩ := trodAll_cons hA
 obtain ⟨v1, vs1, d1, ds1, p1, q1, rfl, rfl, rfl, h1, r1⟩ := trodAll_cons r0
 obtain ⟨v2, vs2, d2, ds2, p2, q2, rfl, rfl, rfl, h2, r2⟩ := trodAll_cons r1
 obtain ⟨rfl, rfl, rfl⟩ := trodAll_nil r2
 obtain rfl : args = #[v0, v1, v2] := by cases args; simp_all
 obtain ⟨rfl, rfl⟩ := trodVars_none hV
 obtain ⟨n0, hn0, hs0⟩ := rdNode h0
 obtain ⟨n1, hn1, hs1⟩ := rdSl Try.underlying25 cells46 (by decide) (fun n => (RA_Decl n)) h1 (okWide_slice Try.underlying25 (hval 1 25 v1 rfl rfl))
 obtain ⟨n2, hn2, hs2⟩ := rdSl Try.underlying26 cells52 (by decide) (fun n => (RA_Sig n)) h2 (okWide_slice Try.underlying26 (hval 2 26 v2 rfl rfl))
 have hb : Node.size n0 + ((n1.map Decl.mu).sum + 1) + ((n2.map Sig.mu).sum + 1) ≤ 1048576 := by
   have := of_decide_eq_true hk
   simp only [List.append_nil, Rows.uptoBulkAll] at this
   omega
 have hlaw : F9 big n0 n1 n2 = some true := by
   exact Abs.Try.lawRs n0 n1 n2 (by omega)
 have hP : Pure Try.prog 3 (ar3.e (n0, n1, n2)) (.bool true) := k3 big (Nat.le_refl _) _ _ (by
   rw [t3, TL_hit ar3.inj (n0, n1, n2) rfl]
   show bindO (F9 big n0 n1 n2) _ = _
   rw [hlaw]; rfl)
 have hlt := hW'.lt
 simp only [List.append_nil] at hW' hlt
 refine (law_calls Try.func3 (c := Try.f3.body.get rfl) rfl (by decide) hP (vs := [v0, v1, v2]) ⟨_, _, rfl, hn0, _, _, rfl, hn1, _, _, rfl, hn2, rfl⟩).mono ?_
 rintro e W' ⟨rfl, hbel⟩
 refine ⟨_, rfl, post_of_below (pa := p0 ++ (p1 ++ (p2 ++ []))) (pv := []) hW' (fun _ _ _ => (trodAll_cons_mk (shut_bool Try.underlying4 _) trodAll_mk0)) (fun sp hsp => ?_) (fun _ _ => rfl) (by simp) hbel (ok_one (by kernel_rfl) rfl (okWide_bool_mk Try.underlying4 _))⟩
 simp only [List.append_nil] at hsp ⊢
 have hA1 : DataW.TrodAll enc Try.prog W 0 (fun _ => true) true Try.f3.params.toList [v0, v1, v2] [d0, d1, d2] (p0 ++ (p1 ++ p2)) := by simpa using hA0
 exact trodAll_stays laidOut hbel (by decide +kernel) hA1 hlt sp hsp
theorem lifted3 (os : Os) (started : os.Started) (H : Type) (enc : TypeId × Value → H) (F : Stop.Interp) :
   ReturnsInHanded {} Try.checked os 3 .any ((Rows.OpenSpec.upto Rows.logicResolvesSpec).pre6 enc Try.prog Try.f3 Rows.logicResolvesUptoRow.domain false) (((Rows.OpenSpec.upto Rows.logicResolvesSpec).at F).post enc Try.prog Try.f3 false true false false) := by
 refine returnsInHanded_of_cond (C := Try.checked) (s := Rows.OpenSpec.upto Rows.logicResolvesSpec) (k := Rows.uptoSmall) rfl own started (by kernel_rfl) Try.func3
   (OpenSpec.witness (enc := enc) (C := Try.checked) (s := Rows.OpenSpec.upto Rows.logicResolvesSpec) (k := Rows.uptoSmall) rfl false ⟨#[], #[.agg #[.int .i64 0, .int .i64 0, .string ⟨#[]⟩, .int .i64 0, .slice none 0 0], .slice none 0 0, .slice none 0 0], []⟩ 8 (by kernel_rfl) (by kernel_rfl) (by kernel_rfl)
     (x := ([.agg [.lit (.int .i64 0), .lit (.int .i64 0), .lit (.string []), .lit (.int .i64 0), .nil], .nil, .nil], [], [])) (by kernel_rfl) rfl (by kernel_rfl)) ?_
 intro W base args ds gs before hval hW _ hk _
 exact contract3 H enc W base args ds gs before hval hW hk
theorem over3 : Rows.logicResolvesUptoRow.holds Try.pinned (Rows.OpenSpec.upto Rows.logicResolvesSpec) :=
 OpenClaim.holds_of_cond 3 Try.f3 rfl rfl rfl rfl rfl rfl rfl ⟨rfl, rfl, rfl, rfl, rfl⟩ rfl rfl rfl rfl rfl (by kernel_rfl) Try.func3 (by kernel_rfl)
   (of_decide_eq_true (by kernel_rfl)) (by unfold Func.isWrapper; first | (rw [if_pos (by decide +kernel)]; kernel_rfl) | (rw [if_neg (by decide +kernel)]; exact ⟨rfl, rfl⟩))
   (fun os started H enc _ F => lifted3 os started H enc F)
theorem resolves_holds : Rows.LogicResolvesUptoSaid := over3
end Go.Proofs.Ytjealnlacmfbiaa
