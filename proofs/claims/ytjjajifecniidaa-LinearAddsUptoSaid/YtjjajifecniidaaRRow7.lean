/- LinearAdds: for every two forms and numbers within the bound on the input, Add returns p*a + q*b or the first error as the reference does. -/
import Derived.Test.YtjjajifecniidaaRLaw7
import Derived.Test.YtjjajifecniidaaRK
import Derived.Test.YtjjajifecniidaaSqLift
import Derived.Test.YtjjajifecniidaaRowLib
namespace Go.Proofs.Ytjjajifecniidaa
open Go.ChangeShapes Go.WideShapes Go.ChangeAt Go.RowKit Go.ChangeMaps Go.Abs Go.Abs.Try
set_option linter.unusedVariables false
set_option linter.unusedSimpArgs false
set_option maxRecDepth 100000
theorem own : ownKnob Try.prog.godebug = none := by kernel_rfl
theorem laidOut : laidOutB Try.prog = true := by kernel_rfl
theorem cells41 : Try.prog.cellsOf 41 = 1 := by kernel_rfl
theorem cells43 : Try.prog.cellsOf 43 = 2 := by kernel_rfl
theorem cells52 : Try.prog.cellsOf 52 = 6 := by kernel_rfl
section
variable {H : Type} {enc : TypeId × Value → H} {W : World}
def Mono.mu (x : Mono) : Nat := 1 + Node.size x.monoAtom
theorem RA_Mono : ∀ n, RA enc Try.prog W Rows.uptoBulk n 52 Mono.cells Mono.mu
  | 0 => RA.zero
  | n + 1 => fun fuel hf cs d ps h => by
    obtain ⟨xs, m, hfu, hx, hl, hlen, hfld⟩ := DataW.trod_struct Try.underlying52 h
    rw [cells52] at hl
    match xs, hlen, cs, hl with
    | [y0, y1], _, [c0, c1, c2, c3, c4, c5], _ =>
      have e0 := hfld 0 _ rfl
      have e1 := hfld 1 _ rfl
      simp only [cells2, cells24, List.drop_zero, List.drop_succ_cons, List.take_succ_cons, List.take_zero, List.getElem?_cons_zero, List.getElem?_cons_succ] at e0 e1
      obtain ⟨x0, r0, l0, b0⟩ := (RA.int (n := m) bulkOk Try.underlying2).field (n' := m) (by omega) e0
      obtain ⟨x1, r1, l1, b1⟩ := (RA_Node m).field (n' := m) (by omega) e1
      injection hx with hx _
      subst hx
      have hc : Mono.cells ⟨x0, x1⟩ = (cI .i64) x0 ++ (Node.cells x1 ++ []) := by simp only [Mono.cells_eq, Node.cells_eq]; rfl
      refine ⟨⟨x0, x1⟩, ?_, ?_, ?_⟩
      · rw [hc]; exact Reps.append r0 (Reps.append r1 ((rfl : Reps _ [] 0 [])))
      · rw [hc]; simp only [allLeaf_append, l0, l1]; rfl
      · have := bulkOk.agg (H := H) [y0.1, y1.1]
        simp only [List.map_cons, List.map_nil, List.sum_cons, List.sum_nil] at this ⊢
        show 1 + Node.size x1 ≤ _
        omega
theorem rdMono {v : Value} {d : DataW H} {p : List MemPlace} (h : DataW.Trod enc Try.prog W 0 (fun _ => true) true 52 v d p) : ∃ n : Mono, Rep (gW Try.prog W) (.agg (Mono.cells n)) 0 v ∧ Mono.mu n ≤ Rows.uptoBulk d := by
  obtain ⟨fuel, hf⟩ := h
  obtain ⟨n, hr, _, hb⟩ := RA_Mono fuel fuel (Nat.le_refl _) _ _ _ hf
  have hl := Reps.length hr
  refine ⟨n, ?_, hb⟩
  cases v with
  | agg cs => exact ⟨cs.toList, by simp, hr⟩
  | _ => simp [Value.cells, Mono.cells] at hl
def Lin.mu (x : Lin) : Nat := ((x.linMonos.map Mono.mu).sum + 1) + 1
theorem RA_Lin : ∀ n, RA enc Try.prog W Rows.uptoBulk n 43 Lin.cells Lin.mu
  | 0 => RA.zero
  | n + 1 => fun fuel hf cs d ps h => by
    obtain ⟨xs, m, hfu, hx, hl, hlen, hfld⟩ := DataW.trod_struct Try.underlying43 h
    rw [cells43] at hl
    match xs, hlen, cs, hl with
    | [y0, y1], _, [c0, c1], _ =>
      have e0 := hfld 0 _ rfl
      have e1 := hfld 1 _ rfl
      simp only [cells2, cells41, List.drop_zero, List.drop_succ_cons, List.take_succ_cons, List.take_zero, List.getElem?_cons_zero, List.getElem?_cons_succ] at e0 e1
      obtain ⟨x0, r0, l0, b0⟩ := (RA.slice bulkOk Try.underlying41 cells52 (by omega) (RA_Mono m)).field (n' := m) (by omega) e0
      obtain ⟨x1, r1, l1, b1⟩ := (RA.int (n := m) bulkOk Try.underlying2).field (n' := m) (by omega) e1
      injection hx with hx _
      subst hx
      have hc : Lin.cells ⟨x0, x1⟩ = (cL 6 Mono.cells) x0 ++ ((cI .i64) x1 ++ []) := by simp only [Lin.cells_eq, Node.cells_eq]; rfl
      refine ⟨⟨x0, x1⟩, ?_, ?_, ?_⟩
      · rw [hc]; exact Reps.append r0 (Reps.append r1 ((rfl : Reps _ [] 0 [])))
      · rw [hc]; simp only [allLeaf_append, l0, l1]; rfl
      · have := bulkOk.agg (H := H) [y0.1, y1.1]
        simp only [List.map_cons, List.map_nil, List.sum_cons, List.sum_nil] at this ⊢
        show ((x0.map Mono.mu).sum + 1) + 1 ≤ _
        omega
theorem rdLin {v : Value} {d : DataW H} {p : List MemPlace} (h : DataW.Trod enc Try.prog W 0 (fun _ => true) true 43 v d p) : ∃ n : Lin, Rep (gW Try.prog W) (.agg (Lin.cells n)) 0 v ∧ Lin.mu n ≤ Rows.uptoBulk d := by
  obtain ⟨fuel, hf⟩ := h
  obtain ⟨n, hr, _, hb⟩ := RA_Lin fuel fuel (Nat.le_refl _) _ _ _ hf
  have hl := Reps.length hr
  refine ⟨n, ?_, hb⟩
  cases v with
  | agg cs => exact ⟨cs.toList, by simp, hr⟩
  | _ => simp [Value.cells, Lin.cells] at hl
theorem rdSl {t e sz : Nat} (hu : Try.prog.underlying t = some (.slice e)) (hsz : Try.prog.cellsOf e = sz) (hpos : 0 < sz) {α : Type} {c : α → List AV} {μ : α → Nat} (he : ∀ n, RA enc Try.prog W Rows.uptoBulk n e c μ)
    {v : Value} {d : DataW H} {p : List MemPlace} (h : DataW.Trod enc Try.prog W 0 (fun _ => true) true t v d p) (hv : ∃ a len cap, v = .slice a len cap) : ∃ l : List α, Rep (gW Try.prog W) (.sl false sz (l.map c)) 0 v ∧ (l.map μ).sum + 1 ≤ Rows.uptoBulk d := by
  obtain ⟨fuel, hf⟩ := h
  obtain ⟨l, ⟨u, us, e1, hr, hu'⟩, _, hb⟩ := RA.slice bulkOk hu hsz hpos (he fuel) fuel (Nat.le_succ _) _ _ _ hf
  have hu' : us = [] := hu'
  subst hu'
  refine ⟨l, ?_, hb⟩
  obtain ⟨a, len, cap, rfl⟩ := hv
  simp [Value.cells] at e1
  subst e1
  exact hr
end
theorem contract7 (H : Type) (enc : TypeId × Value → H) (W : World) (base : Nat) (args : Array Value) (ds gs : List (DataW H)) (before : List MemPlace)
    (hval : ∀ (j : Nat) t v, Try.f7.params[j]? = some t → args[j]? = some v → Value.okWide Try.prog W .any base t v)
    (hW : DataW.Whole enc Try.prog Try.f7.params.toList Rows.linearAddsSpec.vars false W args.toList ds gs before) (hk : Rows.uptoSmall H (ds ++ gs) = true) :
    Calls Try.prog 7 args W fun e W' => ∃ v, e = .returned v ∧ Rows.linearAddsSpec.post enc Try.prog Try.f7 false true false false W args v W' := by
  have hW' := hW
  obtain ⟨p, q, hA0, hV, rfl, hfz, hnd⟩ := hW
  have hA : DataW.TrodAll enc Try.prog W 0 (fun _ => true) true Try.f7.params.toList args.toList ds p := hA0
  rw [Try.params7] at hA hval
  obtain ⟨v0, vs0, d0, ds0, p0, q0, hargs, rfl, rfl, h0, r0⟩ := trodAll_cons hA
  obtain ⟨v1, vs1, d1, ds1, p1, q1, rfl, rfl, rfl, h1, r1⟩ := trodAll_cons r0
  obtain ⟨v2, vs2, d2, ds2, p2, q2, rfl, rfl, rfl, h2, r2⟩ := trodAll_cons r1
  obtain ⟨v3, vs3, d3, ds3, p3, q3, rfl, rfl, rfl, h3, r3⟩ := trodAll_cons r2
  obtain ⟨rfl, rfl, rfl⟩ := trodAll_nil r3
  obtain rfl : args = #[v0, v1, v2, v3] := by cases args; simp_all
  obtain ⟨rfl, rfl⟩ := trodVars_none hV
  obtain ⟨n0, hn0, hs0⟩ := rdLin h0
  obtain ⟨n1, hn1, hs1⟩ := rdLin h1
  obtain ⟨n2, rfl, _, _, hw2⟩ := open_int Try.underlying2 (hval 2 2 v2 rfl rfl) h2
  have hw2 := int_wf hw2
  obtain ⟨n3, rfl, _, _, hw3⟩ := open_int Try.underlying2 (hval 3 2 v3 rfl rfl) h3
  have hw3 := int_wf hw3
  have hb : Lin.mu n0 + Lin.mu n1 ≤ 1048576 := by
    have := of_decide_eq_true hk
    simp only [List.append_nil, Rows.uptoBulkAll] at this
    omega
  have hlaw : F7 big n0 n1 n2 n3 = some true := by
    have key : ∀ f : Lin, Lin.mu f ≤ 1048576 → Go.Abs.Try.Good f ∧ f.linMonos.length ≤ Lin.mu f := by
      intro f hf
      have h1 : ∀ l : List Mono, l.length ≤ (l.map Mono.mu).sum ∧ ∀ m ∈ l, m.monoAtom.size ≤ (l.map Mono.mu).sum := by
        intro l
        induction l with
        | nil => exact ⟨by simp, by simp⟩
        | cons m l ih =>
          simp only [List.length_cons, List.map_cons, List.sum_cons, Mono.mu]
          refine ⟨by omega, fun k hk => ?_⟩
          rcases List.mem_cons.1 hk with rfl | hk
          · omega
          · have := ih.2 k hk; omega
      obtain ⟨k1, k2⟩ := h1 f.linMonos
      have e : Lin.mu f = ((f.linMonos.map Mono.mu).sum + 1) + 1 := rfl
      exact ⟨⟨by omega, fun m hm => by have := k2 m hm; omega⟩, by omega⟩
    obtain ⟨g0, k0⟩ := key n0 (by omega)
    obtain ⟨g1, k1⟩ := key n1 (by omega)
    exact Abs.Try.law7 n0 n1 n2 n3 g0 g1 (by omega) hw2 hw3
  have hP : Pure Try.prog 7 (ar7.e (n0, n1, n2, n3)) (.bool true) := k7 big (Nat.le_refl _) _ _ (by
    rw [t7, TL_hit ar7.inj (n0, n1, n2, n3) rfl]
    show bindO (F7 big n0 n1 n2 n3) _ = _
    rw [hlaw]; rfl)
  have hlt := hW'.lt
  simp only [List.append_nil] at hW' hlt
  refine (law_calls Try.func7 (c := Try.f7.body.get rfl) rfl (by decide) hP (vs := [v0, v1, .int .i64 n2, .int .i64 n3]) ⟨_, _, rfl, hn0, _, _, rfl, hn1, _, _, rfl, rfl, _, _, rfl, rfl, rfl⟩).mono ?_
  rintro e W' ⟨rfl, hbel⟩
  refine ⟨_, rfl, post_of_below (pa := p0 ++ (p1 ++ (p2 ++ (p3 ++ [])))) (pv := []) hW' (fun _ _ _ => (trodAll_cons_mk (shut_bool Try.underlying4 _) trodAll_mk0)) (fun sp hsp => ?_) (fun _ _ => rfl) (by simp) hbel (ok_one (by kernel_rfl) rfl (okWide_bool_mk Try.underlying4 _))⟩
  simp only [List.append_nil] at hsp ⊢
  have hA1 : DataW.TrodAll enc Try.prog W 0 (fun _ => true) true Try.f7.params.toList [v0, v1, .int .i64 n2, .int .i64 n3] [d0, d1, d2, d3] (p0 ++ (p1 ++ (p2 ++ p3))) := by simpa using hA0
  exact trodAll_stays laidOut hbel (by decide +kernel) hA1 hlt sp hsp
theorem lifted7 (os : Os) (started : os.Started) (H : Type) (enc : TypeId × Value → H) (F : Stop.Interp) :
    ReturnsInHanded {} Try.checked os 7 .any ((Rows.OpenSpec.upto Rows.linearAddsSpec).pre6 enc Try.prog Try.f7 Rows.linearAddsUptoRow.domain false) (((Rows.OpenSpec.upto Rows.linearAddsSpec).at F).post enc Try.prog Try.f7 false true false false) := by
  refine returnsInHanded_of_cond (C := Try.checked) (s := Rows.OpenSpec.upto Rows.linearAddsSpec) (k := Rows.uptoSmall) rfl own started (by kernel_rfl) Try.func7
    (OpenSpec.witness (enc := enc) (C := Try.checked) (s := Rows.OpenSpec.upto Rows.linearAddsSpec) (k := Rows.uptoSmall) rfl false ⟨#[], #[.agg #[.slice none 0 0, .int .i64 0], .agg #[.slice none 0 0, .int .i64 0], .int .i64 0, .int .i64 0], []⟩ 8 (by kernel_rfl) (by kernel_rfl) (by kernel_rfl)
      (x := ([.agg [.nil, .lit (.int .i64 0)], .agg [.nil, .lit (.int .i64 0)], .lit (.int .i64 0), .lit (.int .i64 0)], [], [])) (by kernel_rfl) rfl (by kernel_rfl)) ?_
  intro W base args ds gs before hval hW _ hk _
  exact contract7 H enc W base args ds gs before hval hW hk
theorem over7 : Rows.linearAddsUptoRow.holds Try.pinned (Rows.OpenSpec.upto Rows.linearAddsSpec) :=
  OpenClaim.holds_of_cond 7 Try.f7 rfl rfl rfl rfl rfl rfl rfl ⟨rfl, rfl, rfl, rfl, rfl⟩ rfl rfl rfl rfl rfl (by kernel_rfl) Try.func7 (by kernel_rfl)
    (of_decide_eq_true (by kernel_rfl)) (by unfold Func.isWrapper; first | (rw [if_pos (by decide +kernel)]; kernel_rfl) | (rw [if_neg (by decide +kernel)]; exact ⟨rfl, rfl⟩))
    (fun os started H enc _ F => lifted7 os started H enc F)
theorem adds_holds : Rows.LinearAddsUptoSaid := over7
end Go.Proofs.Ytjjajifecniidaa
