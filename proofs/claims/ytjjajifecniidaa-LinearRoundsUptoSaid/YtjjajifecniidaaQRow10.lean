/- LinearRounds: at every constraint that holds at most 1048576 values and letters in all, the call returns true and the argument reads afterwards as it read before. Conditions: those of the row in the Rows text, and no others. -/
import Derived.Test.YtjjajifecniidaaQP16
import Derived.Test.YtjjajifecniidaaSqLift
import Derived.Test.YtjjajifecniidaaQK
import Derived.WalkKit
import Derived.ProofKit
import Derived.OpenShut
import Derived.JoinedCond
import Derived.ChangeMaps5
namespace Go.Abs
open Go.ChangeShapes Go.WideShapes Go.ChangeAt Go.RowKit
section
variable {H : Type} {enc : TypeId × Value → H} {P : Program}
theorem post_of_below {f : Func} {s : ChangeSpec} {apart fresh handsOn again : Bool} {W W' : World} {args : Array Value} {v : Value} {ds gs : List (DataW H)} {before pa pv : List MemPlace}
    (hW : DataW.Whole enc P f.params.toList s.vars apart W args.toList ds gs before)
    (hres : ∀ (b : Nat) (sp : Nat → Bool) (hd : Bool), DataW.TrodAll enc P W' b sp hd f.resultTypes.toList (v.resultList f.resultTypes.size) (s.fn H (ds ++ gs)).results [])
    (hargs : ∀ sp : Nat → Bool, (∀ p ∈ before, sp p.block = true) → DataW.TrodAll enc P W' 0 sp true f.params.toList args.toList (s.fn H (ds ++ gs)).args pa)
    (hvars : ∀ sp : Nat → Bool, (∀ p ∈ before, sp p.block = true) → DataW.TrodVars enc P W' sp s.vars (s.fn H (ds ++ gs)).vars pv)
    (hps : before = pa ++ pv) (hb : Below W.heap.size W W')
    (hok : ∀ (j : Nat) (t : TypeId) (r : Value), f.resultTypes[j]? = some t → (v.resultList f.resultTypes.size)[j]? = some r → Value.okWide P W' .any 0 t r) :
    s.post enc P f apart fresh handsOn again W args v W' := by
  have hlt : ∀ p ∈ before, p.block < W.heap.size := fun p hp => hW.lt p hp
  have hold : ∀ p ∈ before, (fun b => decide (b < W.heap.size)) p.block = true := fun p hp => by simpa using hlt p hp
  refine ⟨ds, gs, before, [], pa, pv, hW, hres _ _ _, hargs _ hold, hvars _ hold, World.keptBut_mono (fun p hp => ⟨hp, ?_⟩) (hb.frame (· ∈ before)), fun _ => ?_⟩
  · rw [hps, List.mem_append] at hp
    exact Or.inr hp
  · obtain ⟨_, _, _, _, _, hz, hn⟩ := hW
    refine ⟨hok, _, _, ([] ++ pa) ++ pv, ⟨[] ++ pa, pv, trodAll_append (hargs _ (fun _ _ => rfl)) (hres _ _ _), hvars _ (fun _ _ => rfl), rfl, ?_, ?_⟩, ?_⟩
    · intro b off hp
      have hin : MemPlace.cell b off ∈ before := by rw [hps]; simpa using hp
      rw [hb.frozen (hlt _ hin)]
      exact hz b off hin
    · intro ha
      have := hn ha
      rw [hps] at this
      simpa using this
    · intro p hp _
      rw [hps]
      simpa using hp
/-- Arguments that are read again behind a call that leaves all old memory as it was. -/
theorem trodAll_stays (hl : laidOutB P = true) {W W' : World} (hb : Below W.heap.size W W') : ∀ {ts : List TypeId} {vs : List Value} {ds : List (DataW H)} {ps : List MemPlace}, (∀ t ∈ ts, P.readableRec t = true ∧ t < P.types.size) → DataW.TrodAll enc P W 0 (fun _ => true) true ts vs ds ps → (∀ p ∈ ps, p.block < W.heap.size) →
    ∀ sp : Nat → Bool, (∀ p ∈ ps, sp p.block = true) → DataW.TrodAll enc P W' 0 sp true ts vs ds ps
  | [], [], [], _, _, h, _, _, _ => h
  | t :: ts, v :: vs, d :: ds, ps, ht, ⟨p, q, h1, h2, e⟩, hlt, sp, hsp => by
    subst e
    refine ⟨p, q, ?_, trodAll_stays hl hb (fun t' h' => ht t' (by simp [h'])) h2 (fun x hx => hlt x (by simp [hx])) sp (fun x hx => hsp x (by simp [hx])), rfl⟩
    exact WideElems.Trod_stays hl (ht t (by simp)).1 (ht t (by simp)).2 h1 (fun x hx => hb.same (hlt x (by simp [hx]))) (fun x hx => hsp x (by simp [hx]))
  | [], [], _ :: _, _, _, h, _, _, _ => h.elim
  | [], _ :: _, _, _, _, h, _, _, _ => h.elim
  | _ :: _, [], _, _, _, h, _, _, _ => h.elim
  | _ :: _, _ :: _, [], _, _, h, _, _, _ => h.elim
end
end Go.Abs
namespace Go.Proofs.Ytjjajifecniidaa
open Go.ChangeShapes Go.WideShapes Go.ChangeAt Go.RowKit Go.ChangeMaps Go.Abs Go.Abs.Try
set_option linter.unusedVariables false
set_option linter.unusedSimpArgs false
set_option maxRecDepth 100000
theorem own : ownKnob Try.prog.godebug = none := by kernel_rfl
theorem laidOut : laidOutB Try.prog = true := by kernel_rfl
theorem cells52 : Try.prog.cellsOf 52 = 6 := by kernel_rfl
theorem cells41 : Try.prog.cellsOf 41 = 1 := by kernel_rfl
theorem cells43 : Try.prog.cellsOf 43 = 2 := by kernel_rfl
theorem cells71 : Try.prog.cellsOf 71 = 3 := by kernel_rfl
section
variable {H : Type} {enc : TypeId × Value → H} {W : World}
theorem RA_Mono : ∀ n, RA enc Try.prog W Rows.uptoBulk n 52 Mono.cells (fun m => m.monoAtom.size)
  | 0 => RA.zero
  | n + 1 => fun fuel hf cs d ps h => by
    obtain ⟨xs, m, hfu, hx, hl, hlen, hfld⟩ := DataW.trod_struct Try.underlying52 h
    rw [cells52] at hl
    match xs, hlen, cs, hl with
    | [y0, y1], _, [c0, c1, c2, c3, c4, c5], _ =>
      have e0 := hfld 0 _ rfl
      have e1 := hfld 1 _ rfl
      simp only [cells2, cells24, List.drop_zero, List.drop_succ_cons, List.take_succ_cons, List.take_zero, List.getElem?_cons_zero, List.getElem?_cons_succ] at e0 e1
      obtain ⟨x0, ⟨_, _, h0, r0, _⟩, _, _⟩ := (RA.int bulkOk Try.underlying2).field (Nat.le_refl m) e0
      obtain ⟨x1, r1, l1, b1⟩ := (RA_Node m).field (Nat.le_refl m) e1
      injection h0 with h0 _
      subst h0
      injection hx with hx _
      subst hx
      have hc : Mono.cells ⟨x0, x1⟩ = .int .i64 x0 :: Node.cells x1 := by rw [Node.cells_eq]; rfl
      refine ⟨⟨x0, x1⟩, ?_, ?_, ?_⟩
      · rw [hc]; exact ⟨_, _, rfl, r0, r1⟩
      · rw [hc]; exact l1
      · have := bulkOk.agg (H := H) [y0.1, y1.1]
        simp only [List.map_cons, List.map_nil, List.sum_cons, List.sum_nil] at this ⊢
        show x1.size ≤ _
        omega
theorem RA_Lin : ∀ n, RA enc Try.prog W Rows.uptoBulk n 43 Lin.cells (fun f => (f.linMonos.map fun m => m.monoAtom.size).sum)
  | 0 => RA.zero
  | n + 1 => fun fuel hf cs d ps h => by
    obtain ⟨xs, m, hfu, hx, hl, hlen, hfld⟩ := DataW.trod_struct Try.underlying43 h
    rw [cells43] at hl
    match xs, hlen, cs, hl with
    | [y0, y1], _, [c0, c1], _ =>
      have e0 := hfld 0 _ rfl
      have e1 := hfld 1 _ rfl
      simp only [cells41, cells2, List.drop_zero, List.drop_succ_cons, List.take_succ_cons, List.take_zero, List.getElem?_cons_zero, List.getElem?_cons_succ] at e0 e1
      obtain ⟨x0, ⟨_, _, h0, r0, _⟩, _, b0⟩ := (RA.slice bulkOk Try.underlying41 cells52 (by omega) (RA_Mono m)).field (n' := m) (by omega) e0
      obtain ⟨x1, ⟨_, _, h1, r1, _⟩, _, _⟩ := (RA.int bulkOk Try.underlying2).field (Nat.le_refl m) e1
      injection h0 with h0 _; injection h1 with h1 _
      subst h0; subst h1
      injection hx with hx _
      subst hx
      refine ⟨⟨x0, x1⟩, ⟨_, _, rfl, r0, _, _, rfl, r1, rfl⟩, rfl, ?_⟩
      have := bulkOk.agg (H := H) [y0.1, y1.1]
      simp only [List.map_cons, List.map_nil, List.sum_cons, List.sum_nil] at this ⊢
      show (x0.map fun m => m.monoAtom.size).sum ≤ _
      omega
theorem RA_Con : ∀ n, RA enc Try.prog W Rows.uptoBulk n 71 Con.cells (fun c => (c.conForm.linMonos.map fun m => m.monoAtom.size).sum)
  | 0 => RA.zero
  | n + 1 => fun fuel hf cs d ps h => by
    obtain ⟨xs, m, hfu, hx, hl, hlen, hfld⟩ := DataW.trod_struct Try.underlying71 h
    rw [cells71] at hl
    match xs, hlen, cs, hl with
    | [y0, y1], _, [c0, c1, c2], _ =>
      have e0 := hfld 0 _ rfl
      have e1 := hfld 1 _ rfl
      simp only [cells43, cells3, List.drop_zero, List.drop_succ_cons, List.take_succ_cons, List.take_zero, List.getElem?_cons_zero, List.getElem?_cons_succ] at e0 e1
      obtain ⟨x0, r0, l0, b0⟩ := (RA_Lin m).field (Nat.le_refl m) e0
      obtain ⟨x1, ⟨_, _, h1, r1, _⟩, _, _⟩ := (RA.int bulkOk Try.underlying3).field (Nat.le_refl m) e1
      injection h1 with h1 _
      subst h1
      injection hx with hx _
      subst hx
      obtain ⟨_, _, k0, s0, _, _, k1, s1, k2⟩ := r0
      injection k0 with k0 k0'
      subst k0
      rw [k1] at k0'
      injection k0' with k3 _
      subst k3
      refine ⟨⟨x0, x1⟩, ⟨_, _, rfl, s0, _, _, rfl, s1, _, _, rfl, r1, rfl⟩, rfl, ?_⟩
      have := bulkOk.agg (H := H) [y0.1, y1.1]
      simp only [List.map_cons, List.map_nil, List.sum_cons, List.sum_nil] at this ⊢
      show (x0.linMonos.map fun m => m.monoAtom.size).sum ≤ _
      omega
theorem rdCon {v : Value} {d : DataW H} {p : List MemPlace} (h : DataW.Trod enc Try.prog W 0 (fun _ => true) true 71 v d p) : ∃ n : Con, Rep (gW Try.prog W) (.agg (Con.cells n)) 0 v ∧ (n.conForm.linMonos.map fun m => m.monoAtom.size).sum ≤ Rows.uptoBulk d := by
  obtain ⟨fuel, hf⟩ := h
  obtain ⟨n, hr, _, hb⟩ := RA_Con fuel fuel (Nat.le_refl _) _ _ _ hf
  have hl := Reps.length hr
  refine ⟨n, ?_, hb⟩
  cases v with
  | agg cs => exact ⟨cs.toList, by simp, hr⟩
  | _ => simp [Value.cells, Con.cells] at hl
end
theorem contract10 (H : Type) (enc : TypeId × Value → H) (W : World) (base : Nat) (args : Array Value) (ds gs : List (DataW H)) (before : List MemPlace)
    (hW : DataW.Whole enc Try.prog Try.f10.params.toList Rows.linearRoundsSpec.vars false W args.toList ds gs before) (hk : Rows.uptoSmall H (ds ++ gs) = true) :
    Calls Try.prog 10 args W fun e W' => ∃ v, e = .returned v ∧ Rows.linearRoundsSpec.post enc Try.prog Try.f10 false true false false W args v W' := by
  have hW' := hW
  obtain ⟨p, q, hA0, hV, rfl, hfz, hnd⟩ := hW
  have hA : DataW.TrodAll enc Try.prog W 0 (fun _ => true) true Try.f10.params.toList args.toList ds p := hA0
  rw [Try.params10] at hA
  obtain ⟨v0, vs0, d0, ds0, p0, q0, hargs, rfl, rfl, h0, r0⟩ := trodAll_cons hA
  obtain ⟨rfl, rfl, rfl⟩ := trodAll_nil r0
  obtain rfl : args = #[v0] := by cases args; simp_all
  obtain ⟨rfl, rfl⟩ := trodVars_none hV
  obtain ⟨n0, hn0, hs0⟩ := rdCon h0
  have hb : (n0.conForm.linMonos.map fun m => m.monoAtom.size).sum ≤ 1048576 := by
    have := of_decide_eq_true hk
    simp only [List.append_nil, Rows.uptoBulkAll] at this
    omega
  have hg : Go.Abs.Try.Good n0.conForm := by
    have key : ∀ l : List Mono, l.length ≤ (l.map fun m => m.monoAtom.size).sum ∧ ∀ m ∈ l, m.monoAtom.size ≤ (l.map fun m => m.monoAtom.size).sum := by
      intro l
      induction l with
      | nil => exact ⟨by simp, by simp⟩
      | cons m l ih =>
        have := size_pos m.monoAtom
        simp only [List.length_cons, List.map_cons, List.sum_cons]
        refine ⟨by omega, fun k hk => ?_⟩
        rcases List.mem_cons.1 hk with rfl | hk
        · omega
        · have := ih.2 k hk; omega
    obtain ⟨k1, k2⟩ := key n0.conForm.linMonos
    exact ⟨by omega, fun m hm => by have := k2 m hm; omega⟩
  have hP : Pure Try.prog 10 (a10 n0) (.bool true) := k10 big (Nat.le_refl _) _ _ (by
    rw [t10, TL_hit i10 n0 rfl]
    show bindO (F10 big n0) _ = _
    rw [Abs.Try.law10 n0 hg]; rfl)
  have hlt := hW'.lt
  simp only [List.append_nil] at hW' hlt
  refine (law_calls Try.func10 (c := Try.f10.body.get rfl) rfl (by decide) hP (vs := [v0]) ⟨_, _, rfl, hn0, rfl⟩).mono ?_
  rintro e W' ⟨rfl, hbel⟩
  refine ⟨_, rfl, post_of_below (pa := p0 ++ []) (pv := []) hW' (fun _ _ _ => (trodAll_cons_mk (shut_bool Try.underlying4 _) trodAll_mk0)) (fun sp hsp => ?_) (fun _ _ => rfl) (by simp) hbel (ok_one (by kernel_rfl) rfl (okWide_bool_mk Try.underlying4 _))⟩
  simp only [List.append_nil] at hsp ⊢
  have hA1 : DataW.TrodAll enc Try.prog W 0 (fun _ => true) true Try.f10.params.toList [v0] [d0] p0 := by simpa using hA0
  exact trodAll_stays laidOut hbel (by decide +kernel) hA1 hlt sp hsp
theorem lifted10 (os : Os) (started : os.Started) (H : Type) (enc : TypeId × Value → H) (F : Stop.Interp) :
    ReturnsInHanded {} Try.checked os 10 .any ((Rows.OpenSpec.upto Rows.linearRoundsSpec).pre6 enc Try.prog Try.f10 Rows.linearRoundsUptoRow.domain false) (((Rows.OpenSpec.upto Rows.linearRoundsSpec).at F).post enc Try.prog Try.f10 false true false false) := by
  refine returnsInHanded_of_cond (C := Try.checked) (s := Rows.OpenSpec.upto Rows.linearRoundsSpec) (k := Rows.uptoSmall) rfl own started (by kernel_rfl) Try.func10
    (OpenSpec.witness (enc := enc) (C := Try.checked) (s := Rows.OpenSpec.upto Rows.linearRoundsSpec) (k := Rows.uptoSmall) rfl false ⟨#[], #[.agg #[.slice none 0 0, .int .i64 0, .int .i64 0]], []⟩ 8 (by kernel_rfl) (by kernel_rfl) (by kernel_rfl)
      (x := ([.agg [.agg [.nil, .lit (.int .i64 0)], .lit (.int .i64 0)]], [], [])) (by kernel_rfl) rfl (by kernel_rfl)) ?_
  intro W base args ds gs before hval hW _ hk _
  exact contract10 H enc W base args ds gs before hW hk
theorem over10 : Rows.linearRoundsUptoRow.holds Try.pinned (Rows.OpenSpec.upto Rows.linearRoundsSpec) :=
  OpenClaim.holds_of_cond 10 Try.f10 rfl rfl rfl rfl rfl rfl rfl ⟨rfl, rfl, rfl, rfl, rfl⟩ rfl rfl rfl rfl rfl (by kernel_rfl) Try.func10 (by kernel_rfl)
    (of_decide_eq_true (by kernel_rfl)) (by unfold Func.isWrapper; first | (rw [if_pos (by decide +kernel)]; kernel_rfl) | (rw [if_neg (by decide +kernel)]; exact ⟨rfl, rfl⟩))
    (fun os started H enc _ F => lifted10 os started H enc F)
theorem rounds_holds : Rows.LinearRoundsUptoSaid := over10
end Go.Proofs.Ytjjajifecniidaa
