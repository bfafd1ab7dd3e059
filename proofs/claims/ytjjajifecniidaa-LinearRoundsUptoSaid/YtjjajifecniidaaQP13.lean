import Derived.Test.YtjjajifecniidaaQP12
namespace Go.Abs.Try
set_option linter.unusedSimpArgs false
set_option linter.unusedVariables false
set_option maxRecDepth 100000
/-! ### Valid -/
def fitsC (x : Int) : Bool := decide (x ≥ (-9007199254740992)) && decide (x ≤ 9007199254740992)
theorem fits112 (x : Int) : F112 x = some (fitsC x) := by
  simp only [F112, fitsC]
  cases decide (x ≥ (-9007199254740992)) <;> rfl
theorem fits130 (x : Int) : F130 x = some (fitsC x) := by
  simp only [F130, fitsC]
  cases decide (x ≥ (-9007199254740992)) <;> rfl
def prevB (p : Option Node) (n : Node) : Bool := match p with
  | none => true
  | some q => !decide (cmpR q n ≥ 0)
def validL : Option Node → List Mono → Bool
  | _, [] => true
  | p, m :: ms => !(m.monoCoef == 0) && (fitsC m.monoCoef && (atomB m.monoAtom && (prevB p m.monoAtom && validL (some m.monoAtom) ms)))
def Good (f : Lin) : Prop := f.linMonos.length ≤ 1048576 ∧ ∀ m ∈ f.linMonos, m.monoAtom.size ≤ 1048576
def validB (f : Lin) : Bool := validL none f.linMonos && fitsC f.linConst
theorem valid_fold (f : Lin) (hg : Good f) (A : Int → Option Bool) (B : Node → Option Bool) (C : Node → Node → Option Int) (hA : ∀ x, A x = some (fitsC x)) (hB : ∀ n : Node, n.size ≤ 1048576 → B n = some (atomB n)) (hC : ∀ a b : Node, a.size ≤ 1048576 → C a b = some (cmpR a b))
    (step : Unit → Nat → Mono → Option (Sum Unit Bool)) (hstep : ∀ s (i : Nat) (x2 : Mono), step s i x2 = iteO (x2.monoCoef == 0) (some (.inr false)) (bindO (A x2.monoCoef) fun r4 => iteO r4 (bindO (B x2.monoAtom) fun r5 => iteO r5
      (iteO (decide ((i : Int) > 0)) (bindO (atO f.linMonos (IntKind.i64.wrap ((i : Int) - 1))) fun x6 => bindO (C x6.monoAtom x2.monoAtom) fun r7 => iteO (decide (r7 ≥ 0)) (some (.inr false)) (some (.inl ()))) (some (.inl ()))) (some (.inr false))) (some (.inr false))))
    (fin : Unit → Option Bool) (hfin : fin () = some (fitsC f.linConst)) : ∀ (l : List Mono) (N i : Nat), l.length < N → f.linMonos.drop i = l → foldN step fin N l i () = some (validL (if i = 0 then none else (f.linMonos[i - 1]?).map Mono.monoAtom) l && fitsC f.linConst)
  | [], N, i, hN, _ => by
    obtain ⟨M, rfl⟩ : ∃ M, N = M + 1 := ⟨N - 1, by simp at hN; omega⟩
    simp only [foldN, hfin, validL, Bool.true_and]
  | x :: xs, N, i, hN, hd => by
    obtain ⟨M, rfl⟩ : ∃ M, N = M + 1 := ⟨N - 1, by simp at hN; omega⟩
    obtain ⟨hx, hxs⟩ := drop_cons hd
    obtain ⟨hi, hx'⟩ := List.getElem?_eq_some_iff.1 hx
    have hm : x ∈ f.linMonos := hx' ▸ List.getElem_mem hi
    have hsz := hg.2 x hm
    have hlen := hg.1
    have ih := valid_fold f hg A B C hA hB hC step hstep fin hfin xs M (i + 1) (by simp at hN; omega) hxs
    have hp : (if i + 1 = 0 then none else (f.linMonos[i + 1 - 1]?).map Mono.monoAtom) = some x.monoAtom := by
      rw [if_neg (by omega), Nat.add_sub_cancel, hx]; rfl
    rw [hp] at ih
    simp only [foldN, hstep, hA, hB _ hsz, bindO_some, validL]
    cases x.monoCoef == 0 with
    | true => rfl
    | false =>
      cases fitsC x.monoCoef with
      | false => rfl
      | true =>
        cases atomB x.monoAtom with
        | false => rfl
        | true =>
          simp only [iteO_true, iteO_false, Bool.not_false, Bool.true_and]
          by_cases h0 : i = 0
          · subst h0
            have : decide (((0 : Nat) : Int) > 0) = false := rfl
            rw [this, iteO_false, if_pos rfl]
            simp only [bindO_some, prevB, Bool.true_and]
            exact ih
          · have e : decide ((i : Int) > 0) = true := decide_eq_true (by omega)
            have hi1 : i - 1 < f.linMonos.length := by omega
            have hq : f.linMonos[i - 1]? = some f.linMonos[i - 1] := List.getElem?_eq_getElem hi1
            have ha : atO f.linMonos (IntKind.i64.wrap ((i : Int) - 1)) = some f.linMonos[i - 1] := by
              rw [wrap_id (by omega)]
              exact atO_lit (i := i - 1) (by omega) hq
            have hc := hC f.linMonos[i - 1].monoAtom x.monoAtom (hg.2 _ (List.getElem_mem hi1))
            rw [e, iteO_true, ha, if_neg h0, hq]
            simp only [bindO_some, hc, Option.map_some, prevB]
            cases decide (cmpR f.linMonos[i - 1].monoAtom x.monoAtom ≥ 0) with
            | true => rfl
            | false =>
              simp only [iteO_false, bindO_some, Bool.not_false, Bool.true_and]
              exact ih
theorem valid64 (N : Nat) (f : Lin) (hN : N = 4611686018427387904) (hg : Good f) : F64 N f = some (validB f) := by
  have := valid_fold f hg F112 (F62 N) (F18 N) fits112 (fun n h => (atom_same N n hN h).1) (fun a b h => cmp18 N a b (by omega)) (F64_s1 N f) (fun _ _ _ => rfl) (F64_f1 f) (by simp only [F64_f1, fits112, bindO_some]) f.linMonos N 0 (by have := hg.1; omega) rfl
  exact this
theorem valid89 (N : Nat) (f : Lin) (hN : N = 4611686018427387904) (hg : Good f) : F89 N f = some (validB f) := by
  have := valid_fold f hg F130 (F63 N) (F19 N) fits130 (fun n h => (atom_same N n hN h).2) (fun a b h => cmp19 N a b (by omega) h) (F89_s1 N f) (fun _ _ _ => rfl) (F89_f1 f) (by simp only [F89_f1, fits130, bindO_some]) f.linMonos N 0 (by have := hg.1; omega) rfl
  exact this
def validC (c : Con) : Bool := (c.conRel == 0 || c.conRel == 1) && validB c.conForm
theorem valid107 (N : Nat) (c : Con) (hN : N = 4611686018427387904) (hg : Good c.conForm) : F107 N c = some (validC c) := by
  simp only [F107, valid64 N c.conForm hN hg, bindO_some, validC]
  cases c.conRel == 0 <;> cases c.conRel == 1 <;> rfl
theorem valid109 (N : Nat) (c : Con) (hN : N = 4611686018427387904) (hg : Good c.conForm) : F109 N c = some (validC c) := by
  simp only [F109, valid89 N c.conForm hN hg, bindO_some, validC]
  cases c.conRel == 0 <;> cases c.conRel == 1 <;> rfl
theorem contra_same (N : Nat) (c : Con) (hN : N = 4611686018427387904) (hg : Good c.conForm) : ∃ b, F59 N c = some b ∧ F60 N c = some b := by
  simp only [F59, F60, valid107 N c hN hg, valid109 N c hN hg, bindO_some]
  cases validC c with
  | false => exact ⟨_, rfl, rfl⟩
  | true =>
    simp only [iteO_true]
    by_cases hl : (c.conForm.linMonos.length : Int) > 0
    · have e : ((c.conForm.linMonos.length : Int) == 0) = false := beq_eq_false_iff_ne.2 (by omega)
      rw [decide_eq_true hl, e]; exact ⟨_, rfl, rfl⟩
    · have e : ((c.conForm.linMonos.length : Int) == 0) = true := beq_iff_eq.2 (by omega)
      rw [decide_eq_false hl, e]
      cases c.conRel == 0 <;> cases c.conForm.linConst == 0 <;> cases c.conRel == 1 <;> exact ⟨_, rfl, rfl⟩
/-! ### Greatest common divisors -/
theorem tmod_nat (a b : Nat) : ((a : Int).tmod (b : Int)) = ((a % b : Nat) : Int) := by rw [Int.tmod_eq_emod_of_nonneg (by omega)]; simp
theorem gcd_step (a b : Nat) : Nat.gcd b (a % b) = Nat.gcd a b := by
  rw [Nat.gcd_comm b, ← Nat.gcd_rec, Nat.gcd_comm]
theorem gcd148a : ∀ (n a b M : Nat), b ≤ n → n < M → whileN F148_s2 M ((a : Int), (b : Int)) = some (.inl (Nat.gcd a b : Int))
  | 0, a, b, M, h, hM => by
    obtain ⟨K, rfl⟩ : ∃ K, M = K + 1 := ⟨M - 1, by omega⟩
    obtain rfl : b = 0 := by omega
    simp [whileN, F148_s2, iteO, bindO]
  | n + 1, a, b, M, h, hM => by
    obtain ⟨K, rfl⟩ : ∃ K, M = K + 1 := ⟨M - 1, by omega⟩
    by_cases hb : b = 0
    · subst hb; simp [whileN, F148_s2, iteO, bindO]
    · have e1 : ((b : Int) == 0) = false := beq_eq_false_iff_ne.2 (by omega)
      have e2 : decide ((b : Int) = 0) = false := decide_eq_false (by omega)
      have hlt := Nat.mod_lt a (by omega : b > 0)
      have ih := gcd148a n b (a % b) K (by omega) (by omega)
      simp only [whileN, F148_s2, e1, e2, iteO_false, bindO_some, tmod_nat]
      rw [ih, gcd_step]
theorem gcd148b : ∀ (n a b M : Nat), b ≤ n → n < M → whileN F148_s3 M ((a : Int), (b : Int)) = some (.inl (Nat.gcd a b : Int)) := gcd148a
theorem gcd150a : ∀ (n a b M : Nat), b ≤ n → n < M → whileN F150_s1 M ((a : Int), (b : Int)) = some (Nat.gcd a b : Int)
  | 0, a, b, M, h, hM => by
    obtain ⟨K, rfl⟩ : ∃ K, M = K + 1 := ⟨M - 1, by omega⟩
    obtain rfl : b = 0 := by omega
    simp [whileN, F150_s1, iteO, bindO]
  | n + 1, a, b, M, h, hM => by
    obtain ⟨K, rfl⟩ : ∃ K, M = K + 1 := ⟨M - 1, by omega⟩
    by_cases hb : b = 0
    · subst hb; simp [whileN, F150_s1, iteO, bindO]
    · have e1 : ((b : Int) == 0) = false := beq_eq_false_iff_ne.2 (by omega)
      have e2 : decide ((b : Int) = 0) = false := decide_eq_false (by omega)
      have e3 : decide ((b : Int) < 0) = false := decide_eq_false (by omega)
      have hlt := Nat.mod_lt a (by omega : b > 0)
      have ih := gcd150a n b (a % b) K (by omega) (by omega)
      simp only [whileN, F150_s1, e1, e2, e3, iteO_false, bindO_some, tmod_nat]
      rw [ih, gcd_step]
theorem gcd150b : ∀ (n a b M : Nat), b ≤ n → n < M → whileN F150_s2 M ((a : Int), (b : Int)) = some (Nat.gcd a b : Int) := gcd150a
def gcdN (l : List Mono) : Nat := l.foldl (fun g m => Nat.gcd g m.monoCoef.natAbs) 0
theorem fitsC_iff (x : Int) : fitsC x = true ↔ -9007199254740992 ≤ x ∧ x ≤ 9007199254740992 := by
  simp only [fitsC, Bool.and_eq_true, decide_eq_true_eq, ge_iff_le]
theorem gcd_small : ∀ (l : List Mono) (g : Nat), g ≤ 9007199254740992 → (∀ m ∈ l, fitsC m.monoCoef = true ∧ m.monoCoef ≠ 0) → l.foldl (fun g m => Nat.gcd g m.monoCoef.natAbs) g ≤ 9007199254740992
  | [], g, h, _ => h
  | m :: l, g, h, hl => by
    have hm := hl m (by simp)
    have hf := (fitsC_iff _).1 hm.1
    refine gcd_small l _ (Nat.le_trans (Nat.gcd_le_right _ (by omega)) (by omega)) fun k hk => hl k (by simp [hk])
theorem gcd148 (N : Nat) (f : Lin) (hN : N = 4611686018427387904) (hl : f.linMonos.length < N) (hm : ∀ m ∈ f.linMonos, fitsC m.monoCoef = true) : F148 N f = some (gcdN f.linMonos : Int) := by
  have key : ∀ (l : List Mono) (M i g : Nat), l.length < M → (∀ m ∈ l, fitsC m.monoCoef = true) → foldN (F148_s1 N) F148_f1 M l i (g : Int) = some ((l.foldl (fun g m => Nat.gcd g m.monoCoef.natAbs) g : Nat) : Int) := by
    intro l
    induction l with
    | nil =>
      intro M i g hM _
      obtain ⟨K, rfl⟩ : ∃ K, M = K + 1 := ⟨M - 1, by simp at hM; omega⟩
      rfl
    | cons m l ih =>
      intro M i g hM hl
      obtain ⟨K, rfl⟩ : ∃ K, M = K + 1 := ⟨M - 1, by simp at hM; omega⟩
      have hf := (fitsC_iff _).1 (hl m (by simp))
      have h1 := ih K (i + 1) (Nat.gcd g m.monoCoef.natAbs) (by simp at hM; omega) fun k hk => hl k (by simp [hk])
      have hs : F148_s1 N (g : Int) i m = some (.inl (Nat.gcd g m.monoCoef.natAbs : Int)) := by
        by_cases hneg : m.monoCoef < 0
        · have hw : IntKind.i64.wrap (0 - m.monoCoef) = (m.monoCoef.natAbs : Int) := by rw [wrap_id (by omega)]; omega
          simp only [F148_s1, decide_eq_true hneg, iteO_true, hw]
          exact gcd148a m.monoCoef.natAbs g m.monoCoef.natAbs N (Nat.le_refl _) (by omega)
        · have hw : m.monoCoef = (m.monoCoef.natAbs : Int) := by omega
          simp only [F148_s1, decide_eq_false hneg, iteO_false]
          have := gcd148b m.monoCoef.natAbs g m.monoCoef.natAbs N (Nat.le_refl _) (by omega)
          rw [← hw] at this
          exact this
      simp only [foldN, hs, bindO_some, List.foldl_cons]
      exact h1
  exact key f.linMonos N 0 0 hl hm
theorem gcd150 (N : Nat) (a : Int) (g : Nat) (hN : N = 4611686018427387904) (ha : fitsC a = true) (hg : g ≤ 9007199254740992) : F150 N a (g : Int) = some (Nat.gcd g a.natAbs : Int) := by
  have hf := (fitsC_iff _).1 ha
  rw [Nat.gcd_comm]
  by_cases hneg : a < 0
  · have hw : IntKind.i64.wrap (0 - a) = (a.natAbs : Int) := by rw [wrap_id (by omega)]; omega
    simp only [F150, decide_eq_true hneg, iteO_true, hw]
    exact gcd150a g a.natAbs g N (Nat.le_refl _) (by omega)
  · have hw : a = (a.natAbs : Int) := by omega
    simp only [F150, decide_eq_false hneg, iteO_false]
    have := gcd150b g a.natAbs g N (Nat.le_refl _) (by omega)
    rw [← hw] at this
    exact this
end Go.Abs.Try
