import Derived.Test.YtjjajifecniidaaQP13
namespace Go.Abs.Try
set_option linter.unusedSimpArgs false
set_option linter.unusedVariables false
set_option maxRecDepth 100000
theorem awake26 (M : Nat) : F26 (M + 30) = some true := by kernel_rfl
/-! ### Rounding -/
def divM (d : Int) (l : List Mono) : List Mono := l.map fun m => ⟨m.monoCoef.tdiv d, m.monoAtom⟩
def floorI (a b : Int) : Int := if a.tmod b < 0 then a.tdiv b - 1 else a.tdiv b
def firstNeg : List Mono → Bool
  | m :: _ => decide (m.monoCoef < 0)
  | [] => false
def gcdI (c : Con) : Int := (gcdN c.conForm.linMonos : Nat)
def byR (c : Con) : Int := bif firstNeg c.conForm.linMonos then -gcdI c else gcdI c
def roundR (c : Con) : Con :=
  bif c.conForm.linMonos.isEmpty then c else
  bif c.conRel == 0 then (bif c.conForm.linConst.tmod (gcdI c) == 0 then ⟨⟨divM (byR c) c.conForm.linMonos, c.conForm.linConst.tdiv (byR c)⟩, c.conRel⟩ else ⟨⟨[], 1⟩, 0⟩)
  else ⟨⟨divM (gcdI c) c.conForm.linMonos, -floorI (-c.conForm.linConst) (gcdI c)⟩, c.conRel⟩
theorem fits72_ok {n : Nat} (h : n ≤ 1048577) : fits n 72 = true := by
  simp only [fits, roomMax]; exact decide_eq_true (by omega)
theorem foldl_appM (g : Mono → Mono) : ∀ (l s : List Mono), l.foldl (fun s x => s ++ [g x]) s = s ++ l.map g
  | [], s => by simp
  | x :: xs, s => by rw [List.foldl_cons, foldl_appM g xs]; simp
theorem app_foldM {β : Type} (g : Mono → Mono) (ks : List Mono) (hb : ks.length ≤ 1048576) (step : List Mono → Nat → Mono → Option (Sum (List Mono) β)) (hstep : ∀ s i x, x ∈ ks → s.length + 1 ≤ 1048577 → step s i x = some (.inl (s ++ [g x]))) (fin : List Mono → Option β)
    (N : Nat) (hN : ks.length < N) : foldN step fin N ks 0 [] = fin (ks.map g) := by
  have := foldN_inl (step := step) (fin := fin) (fun (s : List Mono) (k : Mono) => s ++ [g k]) (fun l s => (∀ k ∈ l, k ∈ ks) ∧ s.length + l.length = ks.length)
    (fun x xs i s ⟨h1, h2⟩ => by
      simp only [List.length_cons] at h2
      exact ⟨hstep s i x (h1 x (by simp)) (by omega), fun k hk => h1 k (by simp [hk]), by simp; omega⟩) ks N 0 [] hN ⟨fun _ h => h, by simp⟩
  rw [this.1, foldl_appM, List.nil_append]
theorem wrap_div {a d : Int} (h : fitsC a = true) : IntKind.i64.wrap (a.tdiv d) = a.tdiv d := by
  have hf := (fitsC_iff _).1 h
  have := Int.natAbs_tdiv_le_natAbs a d
  exact wrap_id (by omega)
theorem fits_div {a d : Int} (h : fitsC a = true) : fitsC (a.tdiv d) = true := by
  have hf := (fitsC_iff _).1 h
  have := Int.natAbs_tdiv_le_natAbs a d
  exact (fitsC_iff _).2 (by omega)
theorem floor149 (a b : Int) (hb : b ≠ 0) (ha : fitsC a = true) : F149 a b = some (floorI a b) := by
  have hf := (fitsC_iff _).1 ha
  have := Int.natAbs_tdiv_le_natAbs a b
  have hw : IntKind.i64.wrap (a.tdiv b - 1) = a.tdiv b - 1 := wrap_id (by omega)
  simp only [F149, decide_eq_false hb, iteO_false, wrap_div ha, hw, floorI]
  by_cases h : a.tmod b < 0
  · rw [decide_eq_true h, if_pos h]; rfl
  · rw [decide_eq_false h, if_neg h]; rfl
theorem floor151 (a b : Int) (hb : b ≠ 0) (ha : fitsC a = true) : F151 a b = some (floorI a b) := floor149 a b hb ha
theorem floor_small (a b : Int) (ha : fitsC a = true) : -9007199254740993 ≤ floorI a b ∧ floorI a b ≤ 9007199254740992 := by
  have hf := (fitsC_iff _).1 ha
  have := Int.natAbs_tdiv_le_natAbs a b
  unfold floorI
  split <;> omega
def Ok (c : Con) : Prop := Good c.conForm ∧ (∀ m ∈ c.conForm.linMonos, fitsC m.monoCoef = true ∧ m.monoCoef ≠ 0 ∧ atomB m.monoAtom = true) ∧ fitsC c.conForm.linConst = true
theorem validL_all : ∀ (l : List Mono) (p : Option Node), validL p l = true → ∀ m ∈ l, fitsC m.monoCoef = true ∧ m.monoCoef ≠ 0 ∧ atomB m.monoAtom = true
  | [], _, _, m, hm => by simp at hm
  | x :: xs, p, h, m, hm => by
    simp only [validL, Bool.and_eq_true, Bool.not_eq_true', beq_eq_false_iff_ne] at h
    rcases List.mem_cons.1 hm with rfl | hm
    · exact ⟨h.2.1, h.1, h.2.2.1⟩
    · exact validL_all xs _ h.2.2.2.2 m hm
theorem ok_of (c : Con) (hg : Good c.conForm) (h : validC c = true) : Ok c := by
  simp only [validC, validB, Bool.and_eq_true] at h
  exact ⟨hg, validL_all _ none h.2.1, h.2.2⟩
theorem gcd_ne : ∀ (l : List Mono) (g : Nat), (∀ m ∈ l, m.monoCoef ≠ 0) → l.foldl (fun g m => Nat.gcd g m.monoCoef.natAbs) g = 0 → g = 0 ∧ l = []
  | [], g, _, h => ⟨h, rfl⟩
  | m :: l, g, hl, h => by
    have := gcd_ne l _ (fun k hk => hl k (by simp [hk])) h
    have h2 := Nat.eq_zero_of_gcd_eq_zero_right this.1
    exact absurd (Int.natAbs_eq_zero.1 h2) (hl m (by simp))
theorem gcdI_pos (c : Con) (h : Ok c) (hne : c.conForm.linMonos ≠ []) : 0 < gcdI c ∧ gcdI c ≤ 9007199254740992 := by
  have h1 : gcdN c.conForm.linMonos ≠ 0 := fun e => hne (gcd_ne _ 0 (fun m hm => (h.2.1 m hm).2.1) e).2
  have h2 := gcd_small c.conForm.linMonos 0 (by omega) fun m hm => ⟨(h.2.1 m hm).1, (h.2.1 m hm).2.1⟩
  unfold gcdI gcdN at *
  omega
theorem round108 (N : Nat) (c : Con) (hN : N = 4611686018427387904) (h : Ok c) : F108 N c = some (roundR c) := by
  have hg := h.1
  have hl := hg.1
  have hr := gcd148 N c.conForm hN (by omega) fun m hm => (h.2.1 m hm).1
  have hconst := (fitsC_iff _).1 h.2.2
  simp only [F108, hr, bindO_some, roundR]
  cases he : c.conForm.linMonos with
  | nil => rfl
  | cons m0 ms =>
    have hne : c.conForm.linMonos ≠ [] := by rw [he]; simp
    have hp := gcdI_pos c h hne
    have hgi : ((gcdN (m0 :: ms) : Nat) : Int) = gcdI c := by rw [gcdI, he]
    have e1 : (gcdI c == 0) = false := beq_eq_false_iff_ne.2 (by omega)
    have e2 : decide (gcdI c = 0) = false := decide_eq_false (by omega)
    have e3 : decide (IntKind.i64.wrap (0 - gcdI c) = 0) = false := by rw [wrap_id (by omega)]; exact decide_eq_false (by omega)
    have e3n : decide (-gcdI c = 0) = false := decide_eq_false (by omega)
    have hw : IntKind.i64.wrap (0 - gcdI c) = -gcdI c := by rw [wrap_id (by omega)]; omega
    have hall := h.2.1
    rw [he] at hall
    have hlen : (m0 :: ms).length ≤ 1048576 := by rw [← he]; exact hl
    rw [hgi]
    simp only [e1, e2, iteO_false, List.isEmpty_cons, cond_false]
    cases hrel : c.conRel == 0 with
    | true =>
      simp only [iteO_true, cond_true]
      cases hmod : c.conForm.linConst.tmod (gcdI c) == 0 with
      | false => rfl
      | true =>
        have ha : atO (m0 :: ms) 0 = some m0 := atO_lit (i := 0) rfl rfl
        simp only [iteO_true, cond_true, ha, bindO_some]
        cases hn : decide (m0.monoCoef < 0) with
        | true =>
          have hby : byR c = -gcdI c := by simp only [byR, he, firstNeg, hn, cond_true]
          have := app_foldM (fun m => (⟨m.monoCoef.tdiv (-gcdI c), m.monoAtom⟩ : Mono)) (m0 :: ms) hlen (F108_s2 (gcdI c)) (fun s i x hx hs => by
            simp only [F108_s2, e3n, hw, iteO_false, fits72_ok hs, iteO_true, wrap_div (hall x hx).1]) (F108_f2 c (gcdI c)) N (by omega)
          simp only [iteO_true]
          rw [this]
          simp only [F108_f2, e3n, iteO_false, hw, wrap_div h.2.2, hby, divM]
        | false =>
          have hby : byR c = gcdI c := by simp only [byR, he, firstNeg, hn, cond_false]
          have := app_foldM (fun m => (⟨m.monoCoef.tdiv (gcdI c), m.monoAtom⟩ : Mono)) (m0 :: ms) hlen (F108_s3 (gcdI c)) (fun s i x hx hs => by
            simp only [F108_s3, fits72_ok hs, iteO_true, wrap_div (hall x hx).1]) (F108_f3 c (gcdI c)) N (by omega)
          simp only [iteO_false]
          rw [this]
          simp only [F108_f3, wrap_div h.2.2, hby, divM]
    | false =>
      have hnc : fitsC (-c.conForm.linConst) = true := (fitsC_iff _).2 (by omega)
      have hwc : IntKind.i64.wrap (0 - c.conForm.linConst) = -c.conForm.linConst := by rw [wrap_id (by omega)]; omega
      have hfl := floor_small (-c.conForm.linConst) (gcdI c) hnc
      have hwf : IntKind.i64.wrap (0 - floorI (-c.conForm.linConst) (gcdI c)) = -floorI (-c.conForm.linConst) (gcdI c) := by rw [wrap_id (by omega)]; omega
      have := app_foldM (fun m => (⟨m.monoCoef.tdiv (gcdI c), m.monoAtom⟩ : Mono)) (m0 :: ms) hlen (F108_s4 (gcdI c)) (fun s i x hx hs => by
        simp only [F108_s4, e2, iteO_false, fits72_ok hs, iteO_true, wrap_div (hall x hx).1]) (F108_f4 c (gcdI c)) N (by omega)
      simp only [iteO_false, cond_false]
      rw [this]
      simp only [F108_f4, hwc, floor149 _ _ (show gcdI c ≠ 0 by omega) hnc, bindO_some, hwf, divM]
theorem round110 (N : Nat) (c : Con) (hN : N = 4611686018427387904) (h : Ok c) : F110 N c = some (roundR c) := by
  have hg := h.1
  have hl := hg.1
  have hconst := (fitsC_iff _).1 h.2.2
  simp only [F110, roundR]
  cases he : c.conForm.linMonos with
  | nil =>
    have : c = ⟨⟨[], c.conForm.linConst⟩, c.conRel⟩ := by
      cases c with | mk f r => cases f with | mk ms k => simp only at he; rw [he]
    simp only [List.isEmpty_nil, cond_true, List.length_nil]
    rw [show ((((0 : Nat) : Int)) == 0) = true from rfl, iteO_true, ← this]
  | cons m0 ms =>
    have hne : c.conForm.linMonos ≠ [] := by rw [he]; simp
    have hp := gcdI_pos c h hne
    have hall := h.2.1
    have hsz := hg.2
    rw [he] at hall hsz
    have hlen : (m0 :: ms).length ≤ 1048576 := by rw [← he]; exact hl
    have e0 : (((m0 :: ms).length : Int) == 0) = false := beq_eq_false_iff_ne.2 (by simp only [List.length_cons]; omega)
    have key : ∀ (l : List Mono) (M i g : Nat), l.length < M → g ≤ 9007199254740992 → (∀ m ∈ l, fitsC m.monoCoef = true ∧ m.monoCoef ≠ 0) → foldN (F110_s1 N) (F110_f1 N c) M l i (g : Int) = F110_f1 N c ((l.foldl (fun g m => Nat.gcd g m.monoCoef.natAbs) g : Nat) : Int) := by
      intro l
      induction l with
      | nil =>
        intro M i g hM _ _
        obtain ⟨K, rfl⟩ : ∃ K, M = K + 1 := ⟨M - 1, by simp at hM; omega⟩
        rfl
      | cons m l ih =>
        intro M i g hM hgs hml
        obtain ⟨K, rfl⟩ : ∃ K, M = K + 1 := ⟨M - 1, by simp at hM; omega⟩
        have hm := hml m (by simp)
        have hf := (fitsC_iff _).1 hm.1
        have h1 := ih K (i + 1) (Nat.gcd g m.monoCoef.natAbs) (by simp at hM; omega) (Nat.le_trans (Nat.gcd_le_right _ (by omega)) (by omega)) fun k hk => hml k (by simp [hk])
        simp only [foldN, F110_s1, gcd150 N m.monoCoef g hN hm.1 hgs, bindO_some, List.foldl_cons]
        exact h1
    have hfold := key (m0 :: ms) N 0 0 (by omega) (by omega) fun m hm => ⟨(hall m hm).1, (hall m hm).2.1⟩
    have hgi : (((m0 :: ms).foldl (fun g m => Nat.gcd g m.monoCoef.natAbs) 0 : Nat) : Int) = gcdI c := by rw [gcdI, he]; rfl
    rw [hgi] at hfold
    simp only [e0, iteO_false, List.isEmpty_cons, cond_false]
    rw [show foldN (F110_s1 N) (F110_f1 N c) N (m0 :: ms) 0 (0 : Int) = F110_f1 N c (gcdI c) from hfold]
    have e1 : decide (gcdI c = 0) = false := decide_eq_false (by omega)
    have e3 : decide (IntKind.i64.wrap (0 - gcdI c) = 0) = false := by rw [wrap_id (by omega)]; exact decide_eq_false (by omega)
    have e3n : decide (-gcdI c = 0) = false := decide_eq_false (by omega)
    have hw : IntKind.i64.wrap (0 - gcdI c) = -gcdI c := by rw [wrap_id (by omega)]; omega
    have hs83 : ∀ x ∈ m0 :: ms, F83 N x.monoAtom = some x.monoAtom := fun x hx => same83 N x.monoAtom (by have := hsz x hx; omega) (hsz x hx)
    simp only [F110_f1, e1, iteO_false, he]
    cases hrel : c.conRel == 0 with
    | true =>
      have hz : (c.conRel == ((0 : Nat) : Int)) = true := hrel
      simp only [iteO_true, cond_true]
      cases hmod : c.conForm.linConst.tmod (gcdI c) == 0 with
      | false =>
        have hmz : (c.conForm.linConst.tmod (gcdI c) == ((0 : Nat) : Int)) = false := hmod
        simp only [iteO_false, cond_false]
      | true =>
        have hmz : (c.conForm.linConst.tmod (gcdI c) == ((0 : Nat) : Int)) = true := hmod
        have ha : atO (m0 :: ms) 0 = some m0 := atO_lit (i := 0) rfl rfl
        simp only [iteO_true, cond_true, ha, bindO_some]
        cases hn : decide (m0.monoCoef < 0) with
        | true =>
          have hby : byR c = -gcdI c := by simp only [byR, he, firstNeg, hn, cond_true]
          have := app_foldM (fun m => (⟨m.monoCoef.tdiv (-gcdI c), m.monoAtom⟩ : Mono)) (m0 :: ms) hlen (F110_s3 N (gcdI c)) (fun s i x hx hs => by
            simp only [F110_s3, hs83 x hx, bindO_some, hw, fits72_ok hs, iteO_true, wrap_div (hall x hx).1]) (F110_f3 c (gcdI c)) N (by omega)
          simp only [iteO_true, e3, iteO_false]
          rw [this]
          simp only [F110_f3, hw, wrap_div h.2.2, hby, divM]
        | false =>
          have hby : byR c = gcdI c := by simp only [byR, he, firstNeg, hn, cond_false]
          have := app_foldM (fun m => (⟨m.monoCoef.tdiv (gcdI c), m.monoAtom⟩ : Mono)) (m0 :: ms) hlen (F110_s4 N (gcdI c)) (fun s i x hx hs => by
            simp only [F110_s4, hs83 x hx, bindO_some, fits72_ok hs, iteO_true, wrap_div (hall x hx).1]) (F110_f4 c (gcdI c)) N (by omega)
          simp only [iteO_false]
          rw [this]
          simp only [F110_f4, wrap_div h.2.2, hby, divM]
    | false =>
      have hz : (c.conRel == ((0 : Nat) : Int)) = false := hrel
      have hnc : fitsC (-c.conForm.linConst) = true := (fitsC_iff _).2 (by omega)
      have hwc : IntKind.i64.wrap (0 - c.conForm.linConst) = -c.conForm.linConst := by rw [wrap_id (by omega)]; omega
      have hfl := floor_small (-c.conForm.linConst) (gcdI c) hnc
      have hwf : IntKind.i64.wrap (0 - floorI (-c.conForm.linConst) (gcdI c)) = -floorI (-c.conForm.linConst) (gcdI c) := by rw [wrap_id (by omega)]; omega
      have := app_foldM (fun m => (⟨m.monoCoef.tdiv (gcdI c), m.monoAtom⟩ : Mono)) (m0 :: ms) hlen (F110_s5 N (gcdI c)) (fun s i x hx hs => by
        simp only [F110_s5, e1, iteO_false, hs83 x hx, bindO_some, fits72_ok hs, iteO_true, wrap_div (hall x hx).1]) (F110_f5 c (floorI (-c.conForm.linConst) (gcdI c))) N (by omega)
      simp only [iteO_false, cond_false, hwc, floor151 _ _ (show gcdI c ≠ 0 by omega) hnc, bindO_some]
      rw [this]
      simp only [F110_f5, hwf, divM]
end Go.Abs.Try
