import Derived.Test.YtjjajifecniidaaRP11toRP13
namespace Go.Abs.Try
set_option linter.unusedSimpArgs false
set_option linter.unusedVariables false
/-! ### Sorted lists of monomials -/
theorem cmp_trans {a b c : Node} (h1 : cmpR a b ≤ 0) (h2 : cmpR b c ≤ 0) : cmpR a c ≤ 0 := ((cmpR_TT a b c).2 h1 h2).1
theorem cmp_lt1 {a b c : Node} (h1 : cmpR a b < 0) (h2 : cmpR b c ≤ 0) : cmpR a c < 0 := by
  have h := (cmpR_TT a b c).2 (by omega) h2
  rcases Int.lt_or_eq_of_le h.1 with h3 | h3
  · exact h3
  · have := (h.2 h3).1; omega
theorem cmp_lt2 {a b c : Node} (h1 : cmpR a b ≤ 0) (h2 : cmpR b c < 0) : cmpR a c < 0 := by
  have h := (cmpR_TT a b c).2 h1 (by omega)
  rcases Int.lt_or_eq_of_le h.1 with h3 | h3
  · exact h3
  · have := (h.2 h3).2; omega
theorem cmp_eq {a b c : Node} (h1 : cmpR a b = 0) (h2 : cmpR b c = 0) : cmpR a c = 0 := (cmpR_TT a b c).1 h1 h2
theorem cmp_sym {a b : Node} (h : cmpR a b = 0) : cmpR b a = 0 := by rw [cmpR_neg, h]; rfl
theorem cmp_congr {a b : Node} (h : cmpR a b = 0) (c : Node) : (cmpR c a = 0 ↔ cmpR c b = 0) := ⟨fun h1 => cmp_eq h1 h, fun h1 => cmp_eq h1 (cmp_sym h)⟩
def Srt (l : List Mono) : Prop := l.Pairwise fun m k => cmpR m.monoAtom k.monoAtom < 0
def coefL : List Mono → Node → Int
  | [], _ => 0
  | m :: l, a => bif cmpR m.monoAtom a == 0 then m.monoCoef else coefL l a
theorem coefL_congr {a b : Node} (h : cmpR a b = 0) : ∀ l : List Mono, coefL l a = coefL l b
  | [] => rfl
  | m :: l => by
    have : (cmpR m.monoAtom a == 0) = (cmpR m.monoAtom b == 0) := by
      rw [Bool.eq_iff_iff, beq_iff_eq, beq_iff_eq]; exact cmp_congr h _
    rw [coefL, coefL, this, coefL_congr h l]
theorem coefL_none {a : Node} : ∀ {l : List Mono}, (∀ m ∈ l, cmpR m.monoAtom a ≠ 0) → coefL l a = 0
  | [], _ => rfl
  | m :: l, h => by
    have : (cmpR m.monoAtom a == 0) = false := beq_eq_false_iff_ne.2 (h m (by simp))
    rw [coefL, this, cond_false, coefL_none fun k hk => h k (by simp [hk])]
theorem coefL_head {m : Mono} {l : List Mono} {a : Node} (h : cmpR m.monoAtom a = 0) : coefL (m :: l) a = m.monoCoef := by
  have : (cmpR m.monoAtom a == 0) = true := beq_iff_eq.2 h
  rw [coefL, this, cond_true]
theorem coefL_tail {m : Mono} {l : List Mono} {a : Node} (h : cmpR m.monoAtom a ≠ 0) : coefL (m :: l) a = coefL l a := by
  have : (cmpR m.monoAtom a == 0) = false := beq_eq_false_iff_ne.2 h
  rw [coefL, this, cond_false]
theorem srt_above {m : Mono} {l : List Mono} (h : Srt (m :: l)) {a : Node} (ha : cmpR a m.monoAtom ≤ 0) : ∀ k ∈ l, cmpR k.monoAtom a ≠ 0 := by
  intro k hk e
  have h1 := (List.pairwise_cons.1 h).1 k hk
  have h2 := cmp_lt2 ha h1
  rw [cmpR_neg, e] at h2
  omega
theorem coefL_self : ∀ {l : List Mono}, Srt l → ∀ m ∈ l, coefL l m.monoAtom = m.monoCoef
  | k :: l, h, m, hm => by
    rcases List.mem_cons.1 hm with rfl | hm
    · exact coefL_head (cmpR_self _)
    · have h1 := (List.pairwise_cons.1 h).1 m hm
      rw [coefL_tail (by omega), coefL_self (List.pairwise_cons.1 h).2 m hm]
/-- a property that holds of 0 holds of all coefficients of the list iff it does of the coefficients of all atoms -/
theorem all_coef {p : Int → Bool} (h0 : p 0 = true) {l : List Mono} (h : Srt l) : (l.all fun m => p m.monoCoef) = true ↔ ∀ a, p (coefL l a) = true := by
  rw [List.all_eq_true]
  constructor
  · intro h1 a
    by_cases e : ∀ m ∈ l, cmpR m.monoAtom a ≠ 0
    · rw [coefL_none e, h0]
    · simp only [Classical.not_forall, Classical.not_not] at e
      obtain ⟨m, hm, e⟩ := e
      rw [← coefL_congr e, coefL_self h m hm]
      exact h1 m hm
  · intro h1 m hm
    have := h1 m.monoAtom
    rwa [coefL_self h m hm] at this
def eqM : List Mono → List Mono → Prop
  | [], [] => True
  | m :: l, k :: r => m.monoCoef = k.monoCoef ∧ cmpR m.monoAtom k.monoAtom = 0 ∧ eqM l r
  | _, _ => False
theorem eqM_of : ∀ {l r : List Mono}, Srt l → Srt r → (∀ m ∈ l, m.monoCoef ≠ 0) → (∀ m ∈ r, m.monoCoef ≠ 0) → (∀ a, coefL l a = coefL r a) → eqM l r
  | [], [], _, _, _, _, _ => trivial
  | [], k :: r, _, _, _, hr, h => by
    have := h k.monoAtom
    rw [coefL_head (cmpR_self _)] at this
    exact absurd this.symm (hr k (by simp))
  | m :: l, [], _, _, hl, _, h => by
    have := h m.monoAtom
    rw [coefL_head (cmpR_self _)] at this
    exact absurd this (hl m (by simp))
  | m :: l, k :: r, sl, sr, hl, hr, h => by
    have hm := h m.monoAtom
    have hk := h k.monoAtom
    rw [coefL_head (cmpR_self _)] at hm
    rw [coefL_head (m := k) (cmpR_self _)] at hk
    by_cases e : cmpR m.monoAtom k.monoAtom = 0
    · rw [coefL_head (cmp_sym e)] at hm
      refine ⟨hm, e, eqM_of (List.pairwise_cons.1 sl).2 (List.pairwise_cons.1 sr).2 (fun x hx => hl x (by simp [hx])) (fun x hx => hr x (by simp [hx])) fun a => ?_⟩
      by_cases ea : cmpR m.monoAtom a = 0
      · have ek : cmpR k.monoAtom a = 0 := cmp_eq (cmp_sym e) ea
        rw [coefL_none (srt_above sl (by rw [cmpR_neg, ea]; omega)), coefL_none (srt_above sr (by rw [cmpR_neg, ek]; omega))]
      · have ek : cmpR k.monoAtom a ≠ 0 := fun x => ea (cmp_eq e x)
        have := h a
        rwa [coefL_tail ea, coefL_tail ek] at this
    · rcases Int.lt_or_gt_of_ne e with e | e
      · have : coefL (k :: r) m.monoAtom = 0 := by
          refine coefL_none fun x hx => ?_
          rcases List.mem_cons.1 hx with rfl | hx
          · rw [cmpR_neg]; omega
          · exact srt_above sr (by omega) x hx
        rw [this] at hm
        exact absurd hm (hl m (by simp))
      · have e' : cmpR k.monoAtom m.monoAtom < 0 := by rw [cmpR_neg]; omega
        have : coefL (m :: l) k.monoAtom = 0 := by
          refine coefL_none fun x hx => ?_
          rcases List.mem_cons.1 hx with rfl | hx
          · omega
          · exact srt_above sl (by omega) x hx
        rw [this] at hk
        exact absurd hk.symm (hr k (by simp))
/-- without those of coefficient 0 -/
def nz (l : List Mono) : List Mono := l.filter fun m => !(m.monoCoef == 0)
theorem nz_srt {l : List Mono} (h : Srt l) : Srt (nz l) := List.Pairwise.filter _ h
theorem nz_ne {l : List Mono} : ∀ m ∈ nz l, m.monoCoef ≠ 0 := by
  intro m hm
  have := (List.mem_filter.1 hm).2
  simpa using this
theorem nz_coef : ∀ {l : List Mono}, Srt l → ∀ a, coefL (nz l) a = coefL l a
  | [], _, _ => rfl
  | m :: l, h, a => by
    have ih := nz_coef (List.pairwise_cons.1 h).2 a
    by_cases h0 : m.monoCoef = 0
    · have : nz (m :: l) = nz l := by simp [nz, h0]
      rw [this, ih]
      by_cases ea : cmpR m.monoAtom a = 0
      · rw [coefL_head ea, h0, coefL_none (srt_above h (by rw [cmpR_neg, ea]; omega))]
      · rw [coefL_tail ea]
    · have : nz (m :: l) = m :: nz l := by simp [nz, h0]
      rw [this, coefL, coefL, ih]
theorem nz_nz (l : List Mono) : nz (nz l) = nz l := by simp [nz]
/-- sums are told by their coefficients -/
theorem sums_eq {l r : List Mono} (sl : Srt l) (sr : Srt r) (h : ∀ a, coefL l a = coefL r a) : eqM (nz l) (nz r) :=
  eqM_of (nz_srt sl) (nz_srt sr) nz_ne nz_ne fun a => by rw [nz_coef sl, nz_coef sr, h]
/-- p times a list and q times another one -/
def mrg (p q : Int) : List Mono → List Mono → List Mono
  | [], bs => bs.map fun m => ⟨q * m.monoCoef, m.monoAtom⟩
  | a :: us, [] => (a :: us).map fun m => ⟨p * m.monoCoef, m.monoAtom⟩
  | a :: us, b :: bs =>
    if cmpR a.monoAtom b.monoAtom < 0 then ⟨p * a.monoCoef, a.monoAtom⟩ :: mrg p q us (b :: bs)
    else if cmpR a.monoAtom b.monoAtom = 0 then ⟨p * a.monoCoef + q * b.monoCoef, b.monoAtom⟩ :: mrg p q us bs
    else ⟨q * b.monoCoef, b.monoAtom⟩ :: mrg p q (a :: us) bs
termination_by us bs => us.length + bs.length
theorem map_coef (p : Int) (a : Node) : ∀ l : List Mono, coefL (l.map fun m => (⟨p * m.monoCoef, m.monoAtom⟩ : Mono)) a = p * coefL l a
  | [] => by simp [coefL]
  | m :: l => by
    rw [List.map_cons, coefL, coefL, map_coef p a l]
    cases cmpR m.monoAtom a == 0 <;> rfl
theorem map_srt (p : Int) {l : List Mono} (h : Srt l) : Srt (l.map fun m => (⟨p * m.monoCoef, m.monoAtom⟩ : Mono)) := by
  rw [Srt, List.pairwise_map]; exact h
theorem mrg_mem (p q : Int) : ∀ (us bs : List Mono), ∀ m ∈ mrg p q us bs, ∃ k, (k ∈ us ∨ k ∈ bs) ∧ m.monoAtom = k.monoAtom := by
  intro us bs
  induction us, bs using mrg.induct with
  | case1 bs =>
    intro m hm
    rw [mrg] at hm
    obtain ⟨k, hk, rfl⟩ := List.mem_map.1 hm
    exact ⟨k, .inr hk, rfl⟩
  | case2 a us =>
    intro m hm
    rw [mrg] at hm
    obtain ⟨k, hk, rfl⟩ := List.mem_map.1 hm
    exact ⟨k, .inl hk, rfl⟩
  | case3 a us b bs h ih =>
    intro m hm
    rw [mrg, if_pos h] at hm
    rcases List.mem_cons.1 hm with rfl | hm
    · exact ⟨a, by simp, rfl⟩
    · obtain ⟨k, hk, e⟩ := ih m hm
      exact ⟨k, by rcases hk with hk | hk <;> simp_all, e⟩
  | case4 a us b bs h h2 ih =>
    intro m hm
    rw [mrg, if_neg h, if_pos h2] at hm
    rcases List.mem_cons.1 hm with rfl | hm
    · exact ⟨b, by simp, rfl⟩
    · obtain ⟨k, hk, e⟩ := ih m hm
      exact ⟨k, by rcases hk with hk | hk <;> simp_all, e⟩
  | case5 a us b bs h h2 ih =>
    intro m hm
    rw [mrg, if_neg h, if_neg h2] at hm
    rcases List.mem_cons.1 hm with rfl | hm
    · exact ⟨b, by simp, rfl⟩
    · obtain ⟨k, hk, e⟩ := ih m hm
      exact ⟨k, by rcases hk with hk | hk <;> simp_all, e⟩
theorem mrg_srt (p q : Int) : ∀ (us bs : List Mono), Srt us → Srt bs → Srt (mrg p q us bs) := by
  intro us bs
  induction us, bs using mrg.induct with
  | case1 bs => intro _ h; rw [mrg]; exact map_srt q h
  | case2 a us => intro h _; rw [mrg]; exact map_srt p h
  | case3 a us b bs h ih =>
    intro ha hb
    rw [mrg, if_pos h]
    refine List.pairwise_cons.2 ⟨fun m hm => ?_, ih (List.pairwise_cons.1 ha).2 hb⟩
    obtain ⟨k, hk, e⟩ := mrg_mem p q _ _ m hm
    rw [e]
    show cmpR a.monoAtom _ < 0
    rcases hk with hk | hk
    · exact (List.pairwise_cons.1 ha).1 k hk
    · rcases List.mem_cons.1 hk with rfl | hk
      · exact h
      · exact cmp_lt2 (by omega) ((List.pairwise_cons.1 hb).1 k hk)
  | case4 a us b bs h h2 ih =>
    intro ha hb
    rw [mrg, if_neg h, if_pos h2]
    refine List.pairwise_cons.2 ⟨fun m hm => ?_, ih (List.pairwise_cons.1 ha).2 (List.pairwise_cons.1 hb).2⟩
    obtain ⟨k, hk, e⟩ := mrg_mem p q _ _ m hm
    rw [e]
    show cmpR b.monoAtom _ < 0
    rcases hk with hk | hk
    · exact cmp_lt2 (by rw [cmp_sym h2]; omega) ((List.pairwise_cons.1 ha).1 k hk)
    · exact (List.pairwise_cons.1 hb).1 k hk
  | case5 a us b bs h h2 ih =>
    intro ha hb
    rw [mrg, if_neg h, if_neg h2]
    refine List.pairwise_cons.2 ⟨fun m hm => ?_, ih ha (List.pairwise_cons.1 hb).2⟩
    have hba : cmpR b.monoAtom a.monoAtom < 0 := by rw [cmpR_neg]; omega
    obtain ⟨k, hk, e⟩ := mrg_mem p q _ _ m hm
    rw [e]
    show cmpR b.monoAtom _ < 0
    rcases hk with hk | hk
    · rcases List.mem_cons.1 hk with rfl | hk
      · exact hba
      · exact cmp_lt2 (by omega) ((List.pairwise_cons.1 ha).1 k hk)
    · exact (List.pairwise_cons.1 hb).1 k hk
theorem mrg_coef (p q : Int) (x : Node) : ∀ (us bs : List Mono), Srt us → Srt bs → coefL (mrg p q us bs) x = p * coefL us x + q * coefL bs x := by
  intro us bs
  induction us, bs using mrg.induct with
  | case1 bs => intro _ _; rw [mrg, map_coef]; simp [coefL]
  | case2 a us => intro _ _; rw [mrg, map_coef]; simp [coefL]
  | case3 a us b bs h ih =>
    intro ha hb
    rw [mrg, if_pos h]
    by_cases e : cmpR a.monoAtom x = 0
    · have hbx : coefL (b :: bs) x = 0 := by
        refine coefL_none fun k hk => ?_
        have hxa : cmpR x a.monoAtom = 0 := cmp_sym e
        have hxb : cmpR x b.monoAtom < 0 := cmp_lt2 (by omega) h
        rcases List.mem_cons.1 hk with rfl | hk
        · rw [cmpR_neg]; omega
        · exact srt_above hb (by omega) k hk
      rw [coefL_head (m := ⟨p * a.monoCoef, a.monoAtom⟩) e, coefL_head (m := a) e, hbx]; simp
    · rw [coefL_tail (m := ⟨p * a.monoCoef, a.monoAtom⟩) e, coefL_tail (m := a) e]
      exact ih (List.pairwise_cons.1 ha).2 hb
  | case4 a us b bs h h2 ih =>
    intro ha hb
    rw [mrg, if_neg h, if_pos h2]
    by_cases e : cmpR b.monoAtom x = 0
    · rw [coefL_head (m := ⟨p * a.monoCoef + q * b.monoCoef, b.monoAtom⟩) e, coefL_head (m := a) (cmp_eq h2 e), coefL_head (m := b) e]
    · have e2 : cmpR a.monoAtom x ≠ 0 := fun y => e (cmp_eq (cmp_sym h2) y)
      rw [coefL_tail (m := ⟨p * a.monoCoef + q * b.monoCoef, b.monoAtom⟩) e, coefL_tail (m := a) e2, coefL_tail (m := b) e]
      exact ih (List.pairwise_cons.1 ha).2 (List.pairwise_cons.1 hb).2
  | case5 a us b bs h h2 ih =>
    intro ha hb
    rw [mrg, if_neg h, if_neg h2]
    have hba : cmpR b.monoAtom a.monoAtom < 0 := by rw [cmpR_neg]; omega
    by_cases e : cmpR b.monoAtom x = 0
    · have hax : coefL (a :: us) x = 0 := by
        refine coefL_none fun k hk => ?_
        have hxb : cmpR x b.monoAtom = 0 := cmp_sym e
        have hxa : cmpR x a.monoAtom < 0 := cmp_lt2 (by omega) hba
        rcases List.mem_cons.1 hk with rfl | hk
        · rw [cmpR_neg]; omega
        · exact srt_above ha (by omega) k hk
      rw [coefL_head (m := ⟨q * b.monoCoef, b.monoAtom⟩) e, coefL_head (m := b) e, hax]; simp
    · rw [coefL_tail (m := ⟨q * b.monoCoef, b.monoAtom⟩) e, coefL_tail (m := b) e]
      exact ih ha (List.pairwise_cons.1 hb).2
end Go.Abs.Try
