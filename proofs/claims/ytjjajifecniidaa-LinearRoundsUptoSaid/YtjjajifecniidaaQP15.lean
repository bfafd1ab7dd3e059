import Derived.Test.YtjjajifecniidaaQP14
namespace Go.Abs.Try
set_option linter.unusedSimpArgs false
set_option linter.unusedVariables false
set_option maxRecDepth 100000
theorem gcd_dvd : ∀ (l : List Mono) (s : Nat), l.foldl (fun g m => Nat.gcd g m.monoCoef.natAbs) s ∣ s ∧ ∀ m ∈ l, l.foldl (fun g m => Nat.gcd g m.monoCoef.natAbs) s ∣ m.monoCoef.natAbs
  | [], s => ⟨Nat.dvd_refl _, by simp⟩
  | x :: xs, s => by
    obtain ⟨h1, h2⟩ := gcd_dvd xs (Nat.gcd s x.monoCoef.natAbs)
    rw [List.foldl_cons]
    refine ⟨Nat.dvd_trans h1 (Nat.gcd_dvd_left _ _), fun m hm => ?_⟩
    rcases List.mem_cons.1 hm with rfl | hm
    · exact Nat.dvd_trans h1 (Nat.gcd_dvd_right _ _)
    · exact h2 m hm
theorem gcd_divL (d : Int) (g : Nat) (hd : d.natAbs = g) : ∀ (l : List Mono) (s : Nat), g ∣ s → (∀ m ∈ l, g ∣ m.monoCoef.natAbs) → (divM d l).foldl (fun g m => Nat.gcd g m.monoCoef.natAbs) (s / g) = l.foldl (fun g m => Nat.gcd g m.monoCoef.natAbs) s / g
  | [], s, _, _ => rfl
  | x :: xs, s, hs, hl => by
    have hx := hl x (by simp)
    have e : (x.monoCoef.tdiv d).natAbs = x.monoCoef.natAbs / g := by rw [Int.natAbs_tdiv, hd]; rfl
    have ih := gcd_divL d g hd xs (Nat.gcd s x.monoCoef.natAbs) (Nat.dvd_gcd hs hx) fun m hm => hl m (by simp [hm])
    simp only [divM, List.map_cons, List.foldl_cons, e, Nat.gcd_div hs hx] at ih ⊢
    exact ih
theorem gcd_one (d : Int) (l : List Mono) (hd : d.natAbs = gcdN l) (hp : 0 < gcdN l) : gcdN (divM d l) = 1 := by
  have h := gcd_divL d (gcdN l) hd l 0 (Nat.dvd_zero _) (gcd_dvd l 0).2
  rw [Nat.zero_div] at h
  unfold gcdN at *
  rw [h, Nat.div_self hp]
theorem divM_one (l : List Mono) : divM 1 l = l := by
  unfold divM
  have : (fun m : Mono => (⟨m.monoCoef.tdiv 1, m.monoAtom⟩ : Mono)) = id := funext fun m => by rw [Int.tdiv_one]; rfl
  rw [this, List.map_id]
theorem floorI_one (a : Int) : floorI a 1 = a := by
  unfold floorI
  rw [Int.tmod_one, Int.tdiv_one, if_neg (by omega)]
theorem div_ne (a d : Int) (ha : a ≠ 0) (h : d.natAbs ∣ a.natAbs) : a.tdiv d ≠ 0 := by
  intro e
  have h1 : d ∣ a := Int.natAbs_dvd_natAbs.1 h
  have h2 := Int.tdiv_mul_cancel h1
  rw [e] at h2
  omega
theorem validL_div (d : Int) : ∀ (l : List Mono) (p : Option Node), validL p l = true → (∀ m ∈ l, m.monoCoef.tdiv d ≠ 0) → validL p (divM d l) = true
  | [], _, _, _ => rfl
  | m :: ms, p, h, hl => by
    simp only [validL, Bool.and_eq_true, Bool.not_eq_true', beq_eq_false_iff_ne] at h
    have ih := validL_div d ms (some m.monoAtom) h.2.2.2.2 fun k hk => hl k (by simp [hk])
    simp only [divM, List.map_cons, validL, Bool.and_eq_true, Bool.not_eq_true', beq_eq_false_iff_ne]
    exact ⟨hl m (by simp), fits_div h.2.1, h.2.2.1, h.2.2.2.1, ih⟩
theorem floor_fits (a b : Int) (ha : fitsC a = true) (hb : 0 < b) : fitsC (-floorI a b) = true := by
  have hf := (fitsC_iff _).1 ha
  have h1 := Int.natAbs_tdiv_le_natAbs a b
  have h2 := Int.mul_tdiv_add_tmod a b
  rw [fitsC_iff]
  unfold floorI
  by_cases hm : a.tmod b < 0
  · rw [if_pos hm]
    by_cases hq : a.tdiv b = -9007199254740992
    · rw [hq] at h2; omega
    · omega
  · rw [if_neg hm]; omega
theorem gcdI_nat (c : Con) : (gcdI c).natAbs = gcdN c.conForm.linMonos := by unfold gcdI; omega
theorem byR_nat (c : Con) : (byR c).natAbs = gcdN c.conForm.linMonos := by
  unfold byR gcdI; cases firstNeg c.conForm.linMonos <;> simp only [cond_true, cond_false] <;> omega
theorem good_div (d : Int) (l : List Mono) (k k' : Int) (h : Good ⟨l, k⟩) : Good ⟨divM d l, k'⟩ := by
  refine ⟨by simpa [divM] using h.1, fun m hm => ?_⟩
  obtain ⟨x, hx, rfl⟩ := List.mem_map.1 hm
  exact h.2 x hx
theorem round_ok (c : Con) (h : Ok c) (hv : validC c = true) : Good (roundR c).conForm ∧ validC (roundR c) = true := by
  have hg : Good ⟨c.conForm.linMonos, c.conForm.linConst⟩ := h.1
  simp only [validC, validB, Bool.and_eq_true] at hv
  unfold roundR
  cases he : c.conForm.linMonos.isEmpty with
  | true =>
    simp only [cond_true]
    refine ⟨h.1, ?_⟩
    simp only [validC, validB, Bool.and_eq_true]
    exact hv
  | false =>
    have hne : c.conForm.linMonos ≠ [] := fun e => by rw [e] at he; cases he
    have hp := gcdI_pos c h hne
    have hdv : ∀ d : Int, d.natAbs = gcdN c.conForm.linMonos → ∀ m ∈ c.conForm.linMonos, m.monoCoef.tdiv d ≠ 0 := fun d hd m hm => div_ne _ _ (h.2.1 m hm).2.1 (by rw [hd]; exact (gcd_dvd c.conForm.linMonos 0).2 m hm)
    simp only [cond_false]
    cases hrel : c.conRel == 0 with
    | true =>
      simp only [cond_true]
      cases c.conForm.linConst.tmod (gcdI c) == 0 with
      | false => exact ⟨⟨by simp, by simp⟩, rfl⟩
      | true =>
        simp only [cond_true]
        refine ⟨good_div _ _ _ _ hg, ?_⟩
        simp only [validC, validB, Bool.and_eq_true]
        exact ⟨hv.1, validL_div _ _ _ hv.2.1 (hdv _ (byR_nat c)), fits_div hv.2.2⟩
    | false =>
      have hconst := (fitsC_iff _).1 h.2.2
      simp only [cond_false]
      refine ⟨good_div _ _ _ _ hg, ?_⟩
      simp only [validC, validB, Bool.and_eq_true]
      exact ⟨hv.1, validL_div _ _ _ hv.2.1 (hdv _ (gcdI_nat c)), floor_fits _ _ ((fitsC_iff _).2 (by omega)) hp.1⟩
theorem round_twice (c : Con) (h : Ok c) : roundR (roundR c) = roundR c := by
  cases he : c.conForm.linMonos.isEmpty with
  | true =>
    have : roundR c = c := by simp only [roundR, he, cond_true]
    rw [this, this]
  | false =>
    have hne : c.conForm.linMonos ≠ [] := fun e => by rw [e] at he; cases he
    have hp := gcdI_pos c h hne
    have hgp : 0 < gcdN c.conForm.linMonos := by have := hp.1; unfold gcdI at this; omega
    have hem : ∀ d : Int, (divM d c.conForm.linMonos).isEmpty = false := fun d => by
      cases hq : c.conForm.linMonos with
      | nil => exact absurd hq hne
      | cons a b => rfl
    cases hrel : c.conRel == 0 with
    | true =>
      cases hmod : c.conForm.linConst.tmod (gcdI c) == 0 with
      | false =>
        have : roundR c = ⟨⟨[], 1⟩, 0⟩ := by simp only [roundR, he, hrel, hmod, cond_true, cond_false]
        rw [this]; rfl
      | true =>
        have e1 : roundR c = ⟨⟨divM (byR c) c.conForm.linMonos, c.conForm.linConst.tdiv (byR c)⟩, c.conRel⟩ := by simp only [roundR, he, hrel, hmod, cond_true, cond_false]
        have hg1 : gcdI (⟨⟨divM (byR c) c.conForm.linMonos, c.conForm.linConst.tdiv (byR c)⟩, c.conRel⟩ : Con) = 1 := by
          show ((gcdN (divM (byR c) c.conForm.linMonos) : Nat) : Int) = 1
          rw [gcd_one _ _ (byR_nat c) hgp]; rfl
        have hf : firstNeg (divM (byR c) c.conForm.linMonos) = false := by
          cases hq : c.conForm.linMonos with
          | nil => exact absurd hq hne
          | cons m0 ms =>
            show decide (m0.monoCoef.tdiv (byR c) < 0) = false
            apply decide_eq_false
            have hb : byR c = if m0.monoCoef < 0 then -gcdI c else gcdI c := by
              simp only [byR, hq, firstNeg]
              by_cases hm : m0.monoCoef < 0
              · rw [decide_eq_true hm, if_pos hm]; rfl
              · rw [decide_eq_false hm, if_neg hm]; rfl
            rw [hb]
            by_cases hm : m0.monoCoef < 0
            · rw [if_pos hm]
              have h1 : (-(-m0.monoCoef)).tdiv (-gcdI c) = (-m0.monoCoef).tdiv (gcdI c) := Int.neg_tdiv_neg _ _
              rw [Int.neg_neg] at h1
              rw [h1]
              have := Int.tdiv_nonneg (a := -m0.monoCoef) (b := gcdI c) (by omega) (by omega)
              omega
            · rw [if_neg hm]
              have := Int.tdiv_nonneg (a := m0.monoCoef) (b := gcdI c) (by omega) (by omega)
              omega
        have hb1 : byR (⟨⟨divM (byR c) c.conForm.linMonos, c.conForm.linConst.tdiv (byR c)⟩, c.conRel⟩ : Con) = 1 := by
          show (bif firstNeg (divM (byR c) c.conForm.linMonos) then _ else _) = _
          rw [hf]; exact hg1
        rw [e1]
        unfold roundR
        rw [hg1, hb1]
        simp only [hem, hrel, cond_false, cond_true, Int.tmod_one, beq_self_eq_true, divM_one, Int.tdiv_one]
    | false =>
      have e1 : roundR c = ⟨⟨divM (gcdI c) c.conForm.linMonos, -floorI (-c.conForm.linConst) (gcdI c)⟩, c.conRel⟩ := by simp only [roundR, he, hrel, cond_false]
      have hg1 : gcdI (⟨⟨divM (gcdI c) c.conForm.linMonos, -floorI (-c.conForm.linConst) (gcdI c)⟩, c.conRel⟩ : Con) = 1 := by
        show ((gcdN (divM (gcdI c) c.conForm.linMonos) : Nat) : Int) = 1
        rw [gcd_one _ _ (gcdI_nat c) hgp]; rfl
      rw [e1]
      unfold roundR
      rw [hg1]
      simp only [hem, hrel, cond_false, divM_one, floorI_one, Int.neg_neg]
end Go.Abs.Try
