/- ModelStores of every input of at most 2^20 values in all: what is stored is read, other indices are as before, the length stays, as the program evaluates it; the law returns true and does not panic. -/
import Derived.Test.YthgibjeclmkbpaaDMt1
import Derived.Test.YthgibjeclmkbpaaDK
import Derived.Test.YthgibjeclmkbpaaSqLift
import Derived.Test.YthgibjeclmkbpaaRowLib
import Derived.Test.YthgibjeclmkbpaaLiftB
set_option linter.unusedSimpArgs false
set_option linter.unusedVariables false
namespace Go.Proofs.Ythgibjeclmkbpaa
open Go.ChangeShapes Go.WideShapes Go.ChangeAt Go.RowKit Go.ChangeMaps Go.Abs Go.Abs.Try
set_option maxRecDepth 100000
theorem own : ownKnob Try.prog.godebug = none := by kernel_rfl
theorem laidOut : laidOutB Try.prog = true := by kernel_rfl
theorem cells26 : Try.prog.cellsOf 26 = 1 := by kernel_rfl
theorem cells30 : Try.prog.cellsOf 30 = 1 := by kernel_rfl
theorem cells32 : Try.prog.cellsOf 32 = 5 := by kernel_rfl
theorem cells38 : Try.prog.cellsOf 38 = 1 := by kernel_rfl
theorem cells40 : Try.prog.cellsOf 40 = 7 := by kernel_rfl
section
variable {H : Type} {enc : TypeId × Value → H} {W : World}
def Val.mu (x : Val) : Nat := iB x.valSort + iB x.valNum + ((x.valSet.map iB).sum + 1) + ((x.valAt.map iB).sum + 1) + ((x.valTo.map iB).sum + 1)
theorem RA_Val : ∀ n, RA enc Try.prog W Rows.uptoBulk n 32 Val.cells Val.mu
 | 0 => RA.zero
 | n + 1 => fun fuel hf cs d ps h => by
   obtain ⟨xs, m, hfu, hx, hl, hlen, hfld⟩ := DataW.trod_struct Try.underlying32 h
   rw [cells32] at hl
   match xs, hlen, cs, hl with
   | [y0, y1, y2, y3, y4], _, [c0, c1, c2, c3, c4], _ =>
     have e0 := hfld 0 _ rfl
     have e1 := hfld 1 _ rfl
     have e2 := hfld 2 _ rfl
     have e3 := hfld 3 _ rfl
     have e4 := hfld 4 _ rfl
     simp only [cells2, cells3, cells30, List.drop_zero, List.drop_succ_cons, List.take_succ_cons, List.take_zero, List.getElem?_cons_zero, List.getElem?_cons_succ] at e0 e1 e2 e3 e4
     obtain ⟨x0, r0, l0, b0⟩ := (RA.intB (n := m) bulkOk Try.underlying3).field (n' := m) (by omega) e0
     obtain ⟨x1, r1, l1, b1⟩ := (RA.intB (n := m) bulkOk Try.underlying2).field (n' := m) (by omega) e1
     obtain ⟨x2, r2, l2, b2⟩ := (RA.slice bulkOk Try.underlying30 cells2 (by omega) (RA.intB (n := m) bulkOk Try.underlying2)).field (n' := m) (by omega) e2
     obtain ⟨x3, r3, l3, b3⟩ := (RA.slice bulkOk Try.underlying30 cells2 (by omega) (RA.intB (n := m) bulkOk Try.underlying2)).field (n' := m) (by omega) e3
     obtain ⟨x4, r4, l4, b4⟩ := (RA.slice bulkOk Try.underlying30 cells2 (by omega) (RA.intB (n := m) bulkOk Try.underlying2)).field (n' := m) (by omega) e4
     injection hx with hx _
     subst hx
     have hc : Val.cells ⟨x0, x1, x2, x3, x4⟩ = (cI .i64) x0 ++ ((cI .i64) x1 ++ ((cL 1 (cI .i64)) x2 ++ ((cL 1 (cI .i64)) x3 ++ ((cL 1 (cI .i64)) x4 ++ [])))) := by simp only [Val.cells_eq, Node.cells_eq]; rfl
     refine ⟨⟨x0, x1, x2, x3, x4⟩, ?_, ?_, ?_⟩
     · rw [hc]; exact Reps.append r0 (Reps.append r1 (Reps.append r2 (Reps.append r3 (Reps.append r4 ((rfl : Reps _ [] 0 []))))))
     · rw [hc]; simp only [allLeaf_append, l0, l1, l2, l3, l4]; rfl
     · have := bulkOk.agg (H := H) [y0.1, y1.1, y2.1, y3.1, y4.1]
       simp only [List.map_cons, List.map_nil, List.sum_cons, List.sum_nil] at this ⊢
       skip
       show iB x0 + iB x1 + ((x2.map iB).sum + 1) + ((x3.map iB).sum + 1) + ((x4.map iB).sum + 1) ≤ _
       omega
theorem rdVal {v : Value} {d : DataW H} {p : List MemPlace} (h : DataW.Trod enc Try.prog W 0 (fun _ => true) true 32 v d p) : ∃ n : Val, Rep (gW Try.prog W) (.agg (Val.cells n)) 0 v ∧ Val.mu n ≤ Rows.uptoBulk d := by
 obtain ⟨fuel, hf⟩ := h
 obtain ⟨n, hr, _, hb⟩ := RA_Val fuel fuel (Nat.le_refl _) _ _ _ hf
 have hl := Reps.length hr
 refine ⟨n, ?_, hb⟩
 cases v with
 | agg cs => exact ⟨cs.toList, by simp, hr⟩
 | _ => simp [Value.cells, Val.cells] at hl
def Entry.mu (x : Entry) : Nat := (x.entryName.size + 1) + ((x.entryArgs.map Val.mu).sum + 1) + Val.mu x.entryVal
theorem RA_Entry : ∀ n, RA enc Try.prog W Rows.uptoBulk n 40 Entry.cells Entry.mu
 | 0 => RA.zero
 | n + 1 => fun fuel hf cs d ps h => by
   obtain ⟨xs, m, hfu, hx, hl, hlen, hfld⟩ := DataW.trod_struct Try.underlying40 h
   rw [cells40] at hl
   match xs, hlen, cs, hl with
   | [y0, y1, y2], _, [c0, c1, c2, c3, c4, c5, c6], _ =>
     have e0 := hfld 0 _ rfl
     have e1 := hfld 1 _ rfl
     have e2 := hfld 2 _ rfl
     simp only [cells32, cells38, cells9, List.drop_zero, List.drop_succ_cons, List.take_succ_cons, List.take_zero, List.getElem?_cons_zero, List.getElem?_cons_succ] at e0 e1 e2
     obtain ⟨x0, r0, l0, b0⟩ := (RA.string (n := m) bulkOk Try.underlying9).field (n' := m) (by omega) e0
     obtain ⟨x1, r1, l1, b1⟩ := (RA.slice bulkOk Try.underlying38 cells32 (by omega) (RA_Val m)).field (n' := m) (by omega) e1
     obtain ⟨x2, r2, l2, b2⟩ := (RA_Val m).field (n' := m) (by omega) e2
     injection hx with hx _
     subst hx
     have hc : Entry.cells ⟨x0, x1, x2⟩ = cS x0 ++ ((cL 5 Val.cells) x1 ++ (Val.cells x2 ++ [])) := by simp only [Entry.cells_eq, Node.cells_eq]; rfl
     refine ⟨⟨x0, x1, x2⟩, ?_, ?_, ?_⟩
     · rw [hc]; exact Reps.append r0 (Reps.append r1 (Reps.append r2 ((rfl : Reps _ [] 0 []))))
     · rw [hc]; simp only [allLeaf_append, l0, l1, l2]; rfl
     · have := bulkOk.agg (H := H) [y0.1, y1.1, y2.1]
       simp only [List.map_cons, List.map_nil, List.sum_cons, List.sum_nil] at this ⊢
       skip
       show (x0.size + 1) + ((x1.map Val.mu).sum + 1) + Val.mu x2 ≤ _
       omega
theorem rdEntry {v : Value} {d : DataW H} {p : List MemPlace} (h : DataW.Trod enc Try.prog W 0 (fun _ => true) true 40 v d p) : ∃ n : Entry, Rep (gW Try.prog W) (.agg (Entry.cells n)) 0 v ∧ Entry.mu n ≤ Rows.uptoBulk d := by
 obtain ⟨fuel, hf⟩ := h
 obtain ⟨n, hr, _, hb⟩ := RA_Entry fuel fuel (Nat.le_refl _) _ _ _ hf
 have hl := Reps.length hr
 refine ⟨n, ?_, hb⟩
 cases v with
 | agg cs => exact ⟨cs.toList, by simp, hr⟩
 | _ => simp [Value.cells, Entry.cells] at hl
theorem rdSl {t e sz : Nat} (hu : Try.prog.underlying t = some (.slice e)) (hsz : Try.prog.cellsOf e = sz) (hpos : 0 < sz) {α : Type} {c : α → List AV} {μ : α → Nat} (he : ∀ n, RA enc Try.prog W Rows.uptoBulk n e c μ)
   {v : Value} {d : DataW H} {p : List MemPlace} (h : DataW.Trod enc Try.prog W 0 (fun _ => true) true t v d p) (hv : ∃ a len cap, v = .slice a len cap) : ∃ l : List α, Rep (gW Try.prog W) (.sl false sz (l.map c)) 0 v ∧ (l.map μ).sum + 1 ≤ Rows.uptoBulk d := by
 obtain ⟨fuel, hf⟩ := h
 obtain ⟨l, ⟨u, us, e1, hr, hu'⟩, _, hb⟩ := RA.slice bulkOk hu hsz hpos (he fuel) fuel (Nat.le_succ _) _ _ _ hf
 have hu' : us = [] := hu'
 subst hu'
 refine ⟨l, ?_, hb⟩
 obtain ⟨a, len, cap, rfl⟩ := hv
 simp [Value.cells] at e1
 subst e1
 exact hr
end
theorem contract3 (H : Type) (enc : TypeId × Value → H) (W : World) (base : Nat) (args : Array Value) (ds gs : List (DataW H)) (before : List MemPlace)
   (hval : ∀ (j : Nat) t v, Try.f3.params[j]? = some t → args[j]? = some v → Value.okWide Try.prog W .any base t v)
   (hW : DataW.Whole enc Try.prog Try.f3.params.toList Rows.modelStoresSpec.vars false W args.toList ds gs before) (hk : Rows.uptoSmall H (ds ++ gs) = true) :
   Calls Try.prog 3 args W fun e W' => ∃ v, e = .returned v ∧ Rows.modelStoresSpec.post enc Try.prog Try.f3 false true false false W args v W' := by
 have hW' := hW
 obtain ⟨p, q, hA0, hV, rfl, hfz, hnd⟩ := hW
 have hA : DataW.TrodAll enc Try.prog W 0 (fun _ => true) true Try.f3.params.toList args.toList ds p := hA0
 rw [Try.params3] at hA hval
 obtain ⟨v0, vs0, d0, ds0, p0, q0, hargs, rfl, rfl, h0, r0⟩ := trodAll_cons hA
 obtain ⟨v1, vs1, d1, ds1, p1, q1, rfl, rfl, rfl, h1, r1⟩ := trodAll_cons r0
 obtain ⟨v2, vs2, d2, ds2, p2, q2, rfl, rfl, rfl, h2, r2⟩ := trodAll_cons r1
 obtain ⟨v3, vs3, d3, ds3, p3, q3, rfl, rfl, rfl, h3, r3⟩ := trodAll_cons r2
 obtain ⟨v4, vs4, d4, ds4, p4, q4, rfl, rfl, rfl, h4, r4⟩ := trodAll_cons r3
 obtain ⟨rfl, rfl, rfl⟩ := trodAll_nil r4
 obtain rfl : args = #[v0, v1, v2, v3, v4] := by cases args; simp_all
 obtain ⟨rfl, rfl⟩ := trodVars_none hV
 obtain ⟨n0, hn0, hs0⟩ := rdNode h0
 obtain ⟨n1, hn1, hs1⟩ := rdNode h1
 obtain ⟨n2, hn2, hs2⟩ := rdNode h2
 obtain ⟨n3, hn3, hs3⟩ := rdNode h3
 obtain ⟨n4, hn4, hs4⟩ := rdSl Try.underlying26 cells40 (by decide) (fun n => (RA_Entry n)) h4 (okWide_slice Try.underlying26 (hval 4 26 v4 rfl rfl))
 have hb : Node.size n0 + Node.size n1 + Node.size n2 + Node.size n3 + ((n4.map Entry.mu).sum + 1) ≤ 1048576 := by
   have := of_decide_eq_true hk
   simp only [List.append_nil, Rows.uptoBulkAll] at this
   omega
 have hlaw : F1026 big n0 n1 n2 n3 n4 = some true := by
   have il : ∀ l : List Int, l.length ≤ (l.map iB).sum := fun l => len_sum (f := iB) iB_pos l
   have hv : ∀ v : Val, Val.mu v ≤ 1048576 → VSmall v := fun v h => by
     have e : Val.mu v = iB v.valSort + iB v.valNum + ((v.valSet.map iB).sum + 1) + ((v.valAt.map iB).sum + 1) + ((v.valTo.map iB).sum + 1) := rfl
     have h1 := il v.valSet
     have h2 := il v.valAt
     have h3 := il v.valTo
     exact ⟨by omega, by omega, by omega⟩
   have hm : MSmall n4 := by
     have h1 := len_sum (f := Entry.mu) (fun e => by unfold Entry.mu; omega) n4
     refine ⟨by omega, fun e he => ?_⟩
     have h2 := mem_sum (f := Entry.mu) he
     have e1 : Entry.mu e = (e.entryName.size + 1) + ((e.entryArgs.map Val.mu).sum + 1) + Val.mu e.entryVal := rfl
     have h3 := len_sum (f := Val.mu) (fun e => by unfold Val.mu; omega) e.entryArgs
     exact ⟨by omega, fun a ha => hv a (by have := mem_sum (f := Val.mu) ha; omega), hv _ (by omega)⟩
   exact Abs.Try.lawMt n0 n1 n2 n3 n4 (by omega) hm
 have hP : Pure Try.prog 3 (ar3.e (n0, n1, n2, n3, n4)) (.bool true) := k3 big (Nat.le_refl _) _ _ (by
   rw [t3, TL_hit ar3.inj (n0, n1, n2, n3, n4) rfl]
   show bindO (F1026 big n0 n1 n2 n3 n4) _ = _
   rw [hlaw]; rfl)
 have hlt := hW'.lt
 simp only [List.append_nil] at hW' hlt
 refine (law_calls Try.func3 (c := Try.f3.body.get rfl) rfl (by decide) hP (vs := [v0, v1, v2, v3, v4]) ⟨_, _, rfl, hn0, _, _, rfl, hn1, _, _, rfl, hn2, _, _, rfl, hn3, _, _, rfl, hn4, rfl⟩).mono ?_
 rintro e W' ⟨rfl, hbel⟩
 refine ⟨_, rfl, post_of_below (pa := p0 ++ (p1 ++ (p2 ++ (p3 ++ (p4 ++ []))))) (pv := []) hW' (fun _ _ _ => (trodAll_cons_mk (shut_bool Try.underlying4 _) trodAll_mk0)) (fun sp hsp => ?_) (fun _ _ => rfl) (by simp) hbel (ok_one (by kernel_rfl) rfl (okWide_bool_mk Try.underlying4 _))⟩
 simp only [List.append_nil] at hsp ⊢
 have hA1 : DataW.TrodAll enc Try.prog W 0 (fun _ => true) true Try.f3.params.toList [v0, v1, v2, v3, v4] [d0, d1, d2, d3, d4] (p0 ++ (p1 ++ (p2 ++ (p3 ++ p4)))) := by simpa using hA0
 exact trodAll_stays laidOut hbel (by decide +kernel) hA1 hlt sp hsp
theorem lifted3 (os : Os) (started : os.Started) (H : Type) (enc : TypeId × Value → H) (F : Stop.Interp) :
   ReturnsInHanded {} Try.checked os 3 .any ((Rows.OpenSpec.upto Rows.modelStoresSpec).pre6 enc Try.prog Try.f3 Rows.modelStoresUptoRow.domain false) (((Rows.OpenSpec.upto Rows.modelStoresSpec).at F).post enc Try.prog Try.f3 false true false false) := by
 refine returnsInHanded_of_cond (C := Try.checked) (s := Rows.OpenSpec.upto Rows.modelStoresSpec) (k := Rows.uptoSmall) rfl own started (by kernel_rfl) Try.func3
   (OpenSpec.witness (enc := enc) (C := Try.checked) (s := Rows.OpenSpec.upto Rows.modelStoresSpec) (k := Rows.uptoSmall) rfl false ⟨#[], #[.agg #[.int .i64 0, .int .i64 0, .string ⟨#[]⟩, .int .i64 0, .slice none 0 0], .agg #[.int .i64 0, .int .i64 0, .string ⟨#[]⟩, .int .i64 0, .slice none 0 0], .agg #[.int .i64 0, .int .i64 0, .string ⟨#[]⟩, .int .i64 0, .slice none 0 0], .agg #[.int .i64 0, .int .i64 0, .string ⟨#[]⟩, .int .i64 0, .slice none 0 0], .slice none 0 0], []⟩ 8 (by kernel_rfl) (by kernel_rfl) (by kernel_rfl)
     (x := ([.agg [.lit (.int .i64 0), .lit (.int .i64 0), .lit (.string []), .lit (.int .i64 0), .nil], .agg [.lit (.int .i64 0), .lit (.int .i64 0), .lit (.string []), .lit (.int .i64 0), .nil], .agg [.lit (.int .i64 0), .lit (.int .i64 0), .lit (.string []), .lit (.int .i64 0), .nil], .agg [.lit (.int .i64 0), .lit (.int .i64 0), .lit (.string []), .lit (.int .i64 0), .nil], .nil], [], [])) (by kernel_rfl) rfl (by kernel_rfl)) ?_
 intro W base args ds gs before hval hW _ hk _
 exact contract3 H enc W base args ds gs before hval hW hk
theorem over3 : Rows.modelStoresUptoRow.holds Try.pinned (Rows.OpenSpec.upto Rows.modelStoresSpec) :=
 OpenClaim.holds_of_cond 3 Try.f3 rfl rfl rfl rfl rfl rfl rfl ⟨rfl, rfl, rfl, rfl, rfl⟩ rfl rfl rfl rfl rfl (by kernel_rfl) Try.func3 (by kernel_rfl)
   (of_decide_eq_true (by kernel_rfl)) (by unfold Func.isWrapper; first | (rw [if_pos (by decide +kernel)]; kernel_rfl) | (rw [if_neg (by decide +kernel)]; exact ⟨rfl, rfl⟩))
   (fun os started H enc _ F => lifted3 os started H enc F)
theorem stores_holds : Rows.ModelStoresUptoSaid := over3
end Go.Proofs.Ythgibjeclmkbpaa
