import Derived.Test.YtjjajifecniidaaUMod1toUP8
import Derived.Test.YtjjajifecniidaaUD
namespace Go.Abs.Try
set_option linter.unusedSimpArgs false
set_option linter.unusedVariables false
set_option maxRecDepth 100000
/-! ### The value of an operator -/
def zV : Val := ⟨0, 0, [], [], []⟩
def gV (v : List Val) (i : Nat) : Val := v.getD i zV
theorem at_gV {v : List Val} {i : Nat} (h : i < v.length) : atO v (i : Int) = some (gV v i) := by
  have : v[i]? = some v[i] := List.getElem?_eq_getElem h
  rw [atO_get this, gV, List.getD_eq_getElem?_getD, this]; rfl
theorem gV_mem {v : List Val} {i : Nat} (h : i < v.length) : gV v i ∈ v := by
  have : v[i]? = some v[i] := List.getElem?_eq_getElem h
  rw [gV, List.getD_eq_getElem?_getD, this]; exact List.getElem_mem h
def truthV (b : Bool) : Val := ⟨2, bif b then 1 else 0, [], [], []⟩
theorem truth186 (b : Bool) : F186 b = some (truthV b) := by cases b <;> rfl
def decB (op : Int) (v : List Val) : Bool :=
  bif op == 30 then true else
  bif op == 32 then (gV v 0).valNum == 0 else
  bif op == 33 then ((gV v 0).valNum == 1) && ((gV v 1).valNum == 1) else
  bif op == 34 then ((gV v 0).valNum == 1) || ((gV v 1).valNum == 1) else
  bif op == 35 then ((gV v 0).valNum == 0) || ((gV v 1).valNum == 1) else
  bif op == 36 then (gV v 0).valNum == (gV v 1).valNum else
  bif op == 37 then sameV (gV v 0) (gV v 1) else
  bif op == 38 then decide ((gV v 0).valNum ≤ (gV v 1).valNum) else
  bif op == 39 then decide ((gV v 0).valNum < (gV v 1).valNum) else
  bif op == 40 then hasL (gV v 1).valSet (gV v 0).valNum else
  bif op == 41 then (gV v 0).valSet.all (fun x => hasL (gV v 1).valSet x) else false
/-- how many kids an operator looks at -/
def arity (op : Int) : Nat :=
  bif (op == 4) || ((op == 5) || ((op == 11) || ((op == 12) || ((op == 13) || ((op == 14) || ((op == 33) || ((op == 34) || ((op == 35) || ((op == 36) || ((op == 37) || ((op == 38) || ((op == 39) || ((op == 40) || (op == 41)))))))))))))) then 2 else
  bif (op == 6) || ((op == 7) || ((op == 10) || ((op == 16) || (op == 32)))) then 1 else
  bif (op == 8) || (op == 15) then 3 else 0
def VOk (v : Val) : Prop := (-1152921504606846976 ≤ v.valNum ∧ v.valNum ≤ 1152921504606846976) ∧ v.valSet.length ≤ 200 ∧ v.valAt.length ≤ 200 ∧ v.valTo.length = v.valAt.length
theorem VOk.small {v : Val} (h : VOk v) : VSmall v := ⟨by have := h.2.1; omega, by have := h.2.2.1; omega, by have := h.2.2.2; have := h.2.2.1; omega⟩
theorem decide178 (N : Nat) (hN : 1048600 < N) (op : Int) (v : List Val) (hv : ∀ x ∈ v, VOk x) (ha : arity op ≤ v.length) : F178 N op v = some (truthV (decB op v)) := by
  have t := truth186 true; have f := truth186 false
  have g0 : 0 < v.length → atO v 0 = some (gV v 0) := fun h => at_gV (i := 0) h
  have g1 : 1 < v.length → atO v 1 = some (gV v 1) := fun h => at_gV (i := 1) h
  simp only [F178, decB]
  by_cases h : op = 30
  · subst h; exact t
  · rw [beq_eq_false_iff_ne.2 h]; simp only [iteO_false, cond_false]
    by_cases h : op = 32
    · subst h; have := g0 (by have : arity 32 = 1 := rfl; omega); simp only [this, truth186, iteO_true, bindO_some, beq_self_eq_true, cond_true]
    · rw [beq_eq_false_iff_ne.2 h]; simp only [iteO_false, cond_false]
      by_cases h : op = 33
      · subst h
        have a2 : arity 33 = 2 := rfl
        have e0 := g0 (by omega); have e1 := g1 (by omega)
        simp only [e0, e1, bindO_some, truth186, beq_self_eq_true, iteO_true, cond_true]
        cases (gV v 0).valNum == 1 <;> rfl
      · rw [beq_eq_false_iff_ne.2 h]; simp only [iteO_false, cond_false]
        by_cases h : op = 34
        · subst h
          have a2 : arity 34 = 2 := rfl
          have e0 := g0 (by omega); have e1 := g1 (by omega)
          simp only [e0, e1, bindO_some, truth186, beq_self_eq_true, iteO_true, cond_true]
          cases (gV v 0).valNum == 1 <;> rfl
        · rw [beq_eq_false_iff_ne.2 h]; simp only [iteO_false, cond_false]
          by_cases h : op = 35
          · subst h
            have a2 : arity 35 = 2 := rfl
            have e0 := g0 (by omega); have e1 := g1 (by omega)
            simp only [e0, e1, bindO_some, truth186, beq_self_eq_true, iteO_true, cond_true]
            cases (gV v 0).valNum == 0 <;> rfl
          · rw [beq_eq_false_iff_ne.2 h]; simp only [iteO_false, cond_false]
            by_cases h : op = 36
            · subst h
              have a2 : arity 36 = 2 := rfl
              have e0 := g0 (by omega); have e1 := g1 (by omega)
              simp only [e0, e1, bindO_some, truth186, beq_self_eq_true, iteO_true, cond_true]
            · rw [beq_eq_false_iff_ne.2 h]; simp only [iteO_false, cond_false]
              by_cases h : op = 37
              · subst h
                have a2 : arity 37 = 2 := rfl
                have e0 := g0 (by omega); have e1 := g1 (by omega)
                have hs := hv _ (gV_mem (v := v) (i := 0) (by omega))
                have hm := hs.small
                simp only [e0, e1, bindO_some, truth186, beq_self_eq_true, iteO_true, cond_true, same183 N (gV v 0) (gV v 1) ⟨by have := hm.1; omega, by have := hm.2.1; omega, by have := hm.2.2; omega⟩]
              · rw [beq_eq_false_iff_ne.2 h]; simp only [iteO_false, cond_false]
                by_cases h : op = 38
                · subst h
                  have a2 : arity 38 = 2 := rfl
                  have e0 := g0 (by omega); have e1 := g1 (by omega)
                  simp only [e0, e1, bindO_some, truth186, beq_self_eq_true, iteO_true, cond_true]
                · rw [beq_eq_false_iff_ne.2 h]; simp only [iteO_false, cond_false]
                  by_cases h : op = 39
                  · subst h
                    have a2 : arity 39 = 2 := rfl
                    have e0 := g0 (by omega); have e1 := g1 (by omega)
                    simp only [e0, e1, bindO_some, truth186, beq_self_eq_true, iteO_true, cond_true]
                  · rw [beq_eq_false_iff_ne.2 h]; simp only [iteO_false, cond_false]
                    by_cases h : op = 40
                    · subst h
                      have a2 : arity 40 = 2 := rfl
                      have e0 := g0 (by omega); have e1 := g1 (by omega)
                      have hs := (hv _ (gV_mem (v := v) (i := 1) (by omega))).small.1
                      simp only [e0, e1, bindO_some, truth186, beq_self_eq_true, iteO_true, cond_true, has184 (gV v 0).valNum (gV v 1).valSet N (by omega)]
                    · rw [beq_eq_false_iff_ne.2 h]; simp only [iteO_false, cond_false]
                      by_cases h : op = 41
                      · subst h
                        have a2 : arity 41 = 2 := rfl
                        have e0 := g0 (by omega); have e1 := g1 (by omega)
                        have hs0 := (hv _ (gV_mem (v := v) (i := 0) (by omega))).small.1
                        have hs := (hv _ (gV_mem (v := v) (i := 1) (by omega))).small.1
                        simp only [e0, bindO_some, beq_self_eq_true, iteO_true, cond_true]
                        rw [foldN_all (step := F178_s1 N v) (fin := F178_f1) (fun x => hasL (gV v 1).valSet x) (truthV false) (gV v 0).valSet N 0 (by omega) fun x hx i => by
                          simp only [F178_s1, e1, bindO_some, has184 x (gV v 1).valSet N (by omega), truth186]
                          cases hasL (gV v 1).valSet x <;> rfl]
                        cases (gV v 0).valSet.all fun x => hasL (gV v 1).valSet x <;> rfl
                      · rw [beq_eq_false_iff_ne.2 h]; simp only [iteO_false, cond_false]; exact f
def numV (x : Int) : Val := ⟨1, x, [], [], []⟩
theorem num173 (x : Int) : F173 x = some (numV x, fitsG x) := by simp only [F173, fits181, bindO_some]; rfl
def scaledR (c n : Int) : Val × Bool := (F174 c n).getD (zV, false)
theorem scaled174 (c n : Int) (hc : -1000000000000 ≤ c ∧ c ≤ 1000000000000) (hn : -1152921504606846976 ≤ n ∧ n ≤ 1152921504606846976) :
    F174 c n = some (scaledR c n) ∧ (scaledR c n).2 = fitsG (c * n) ∧ ((scaledR c n).2 = true → (scaledR c n).1 = numV (c * n)) := by
  have key : ∃ r, F174 c n = some r ∧ r.2 = fitsG (c * n) ∧ (r.2 = true → r.1 = numV (c * n)) := by
    -- |c| = k > 0: n > G / k, n < -(G / k), or between
    have main : ∀ k m : Int, 0 < k → k ≤ 1000000000000 → (-1152921504606846976 ≤ m ∧ m ≤ 1152921504606846976) →
        ∃ r, iteO (decide (k = 0)) none (iteO (decide (m > (IntKind.i64.wrap ((1152921504606846976 : Int).tdiv k)))) (some ((⟨1, 0, [], [], []⟩ : Val), false)) (iteO (decide (m < (IntKind.i64.wrap (0 - (IntKind.i64.wrap ((1152921504606846976 : Int).tdiv k)))))) (some ((⟨1, 0, [], [], []⟩ : Val), false)) (bindO (F173 (IntKind.i64.wrap (k * m))) fun r2 => some (r2.1, r2.2)))) = some r ∧ r.2 = fitsG (k * m) ∧ (r.2 = true → r.1 = numV (k * m)) := by
      intro k m hk hk2 hm
      have hd : (1152921504606846976 : Int).tdiv k = 1152921504606846976 / k := Int.tdiv_eq_ediv_of_nonneg (by omega)
      have hq0 : 0 ≤ 1152921504606846976 / k := Int.ediv_nonneg (by omega) (by omega)
      have hq1 : 1152921504606846976 / k ≤ 1152921504606846976 := Int.ediv_le_self _ (by omega)
      have w1 : IntKind.i64.wrap ((1152921504606846976 : Int).tdiv k) = 1152921504606846976 / k := by rw [hd]; exact wrap_id (by omega)
      have w2 : IntKind.i64.wrap (0 - 1152921504606846976 / k) = -(1152921504606846976 / k) := by rw [wrap_id (by omega)]; omega
      have hkm : 1152921504606846976 / k * k ≤ 1152921504606846976 := Int.ediv_mul_le _ (by omega)
      have hkm2 : 1152921504606846976 < (1152921504606846976 / k + 1) * k := Int.lt_ediv_add_one_mul_self _ hk
      rw [decide_eq_false (by omega : ¬ k = 0), iteO_false, w1, w2]
      by_cases h1 : m > 1152921504606846976 / k
      · have : fitsG (k * m) = false := by
          have : (1152921504606846976 / k + 1) * k ≤ m * k := Int.mul_le_mul_of_nonneg_right (by omega) (by omega)
          have e : k * m = m * k := Int.mul_comm _ _
          simp only [fitsG, Bool.and_eq_false_iff, decide_eq_false_iff_not]; right; omega
        rw [decide_eq_true h1, iteO_true]
        exact ⟨_, rfl, this.symm, fun h => by cases h⟩
      · rw [decide_eq_false h1, iteO_false]
        by_cases h2 : m < -(1152921504606846976 / k)
        · have : fitsG (k * m) = false := by
            have : m * k ≤ -(1152921504606846976 / k + 1) * k := Int.mul_le_mul_of_nonneg_right (by omega) (by omega)
            have e : k * m = m * k := Int.mul_comm _ _
            have e2 : -(1152921504606846976 / k + 1) * k = -((1152921504606846976 / k + 1) * k) := Int.neg_mul _ _
            simp only [fitsG, Bool.and_eq_false_iff, decide_eq_false_iff_not]; left; omega
          rw [decide_eq_true h2, iteO_true]
          exact ⟨_, rfl, this.symm, fun h => by cases h⟩
        · have u1 : m * k ≤ 1152921504606846976 / k * k := Int.mul_le_mul_of_nonneg_right (by omega) (by omega)
          have u2 : -(1152921504606846976 / k) * k ≤ m * k := Int.mul_le_mul_of_nonneg_right (by omega) (by omega)
          have e : k * m = m * k := Int.mul_comm _ _
          have e2 : -(1152921504606846976 / k) * k = -(1152921504606846976 / k * k) := Int.neg_mul _ _
          rw [decide_eq_false h2, iteO_false, wrap_id (by omega), num173, bindO_some]
          exact ⟨_, rfl, rfl, fun _ => rfl⟩
    simp only [F174]
    by_cases h0 : n = 0
    · subst h0
      rw [beq_self_eq_true, iteO_true, Int.mul_zero, wrap_id (by omega), num173, bindO_some]
      exact ⟨_, rfl, rfl, fun _ => rfl⟩
    · rw [beq_eq_false_iff_ne.2 h0, iteO_false]
      by_cases h1 : c = 0
      · subst h1
        rw [beq_self_eq_true, iteO_true, Int.zero_mul, wrap_id (by omega), num173, bindO_some]
        exact ⟨_, rfl, rfl, fun _ => rfl⟩
      · rw [beq_eq_false_iff_ne.2 h1, iteO_false]
        by_cases h2 : c < 0
        · have e1 : IntKind.i64.wrap (0 - c) = -c := by rw [wrap_id (by omega)]; omega
          have e2 : IntKind.i64.wrap (0 - n) = -n := by rw [wrap_id (by omega)]; omega
          rw [decide_eq_true h2, iteO_true, e1, e2]
          have := main (-c) (-n) (by omega) (by omega) (by omega)
          rw [Int.neg_mul_neg] at this ⊢
          exact this
        · rw [decide_eq_false h2, iteO_false]
          exact main c n (by omega) (by omega) hn
  obtain ⟨r, h1, h2, h3⟩ := key
  have : scaledR c n = r := by rw [scaledR, h1]; rfl
  rw [this]; exact ⟨h1, h2, h3⟩
end Go.Abs.Try
namespace Go.Abs.Try
set_option linter.unusedSimpArgs false
set_option linter.unusedVariables false
set_option maxRecDepth 100000
/-! ### Applying an operator, looking up, evaluating -/
def applyR (op num : Int) (v : List Val) : Val × Bool :=
  bif op == 2 then (numV num, fitsG num) else
  bif op == 4 then (numV ((gV v 0).valNum + (gV v 1).valNum), fitsG ((gV v 0).valNum + (gV v 1).valNum)) else
  bif op == 5 then (numV ((gV v 0).valNum - (gV v 1).valNum), fitsG ((gV v 0).valNum - (gV v 1).valNum)) else
  bif op == 6 then (numV (0 - (gV v 0).valNum), fitsG (0 - (gV v 0).valNum)) else
  bif op == 7 then scaledR num (gV v 0).valNum else
  bif op == 8 then (bif (gV v 0).valNum == 1 then gV v 1 else gV v 2, true) else
  bif op == 10 then (⟨4, 0, [(gV v 0).valNum], [], []⟩, true) else
  bif (op == 11) || ((op == 12) || (op == 13)) then (⟨4, 0, combL op (gV v 0).valSet (gV v 1).valSet, [], []⟩, decide (((combL op (gV v 0).valSet (gV v 1).valSet).length : Int) ≤ 200)) else
  bif op == 14 then (numV (atV (gV v 0) (gV v 1).valNum), fitsG (atV (gV v 0) (gV v 1).valNum)) else
  bif op == 15 then (storedV (gV v 0) (gV v 1).valNum (gV v 2).valNum, decide (((storedV (gV v 0) (gV v 1).valNum (gV v 2).valNum).valAt.length : Int) ≤ 200)) else
  bif op == 16 then (numV (gV v 0).valNum, fitsG (gV v 0).valNum) else
  bif op == 9 then (⟨4, 0, [], [], []⟩, true) else (truthV (decB op v), true)
theorem numV_ok {x : Int} (h : fitsG x = true) : VOk (numV x) := ⟨fitsG_iff.1 h, by simp [numV], by simp [numV], by simp [numV]⟩
theorem truthV_ok (b : Bool) : VOk (truthV b) := by cases b <;> exact ⟨by decide, by decide, by decide, rfl⟩
theorem atZ_mem {i : Int} : ∀ {l r : List Int}, atZ i l r = 0 ∨ atZ i l r ∈ r
  | [], r => .inl (by cases r <;> rfl)
  | _ :: _, [] => .inl rfl
  | x :: l, y :: r => by
    rw [atZ]
    cases x == i with
    | true => exact .inr (by simp)
    | false =>
      rcases atZ_mem (i := i) (l := l) (r := r) with h | h
      · exact .inl h
      · exact .inr (by simp [h])
theorem apply160 (N : Nat) (hN : 1048600 < N) (n : Node) (v : List Val) (hv : ∀ x ∈ v, VOk x) (ha : arity n.op ≤ v.length) (hnum : n.op = 2 ∨ n.op = 7 → -1000000000000 ≤ n.num ∧ n.num ≤ 1000000000000) :
    F160 N n v = some (applyR n.op n.num v) ∧ ((applyR n.op n.num v).2 = true → VOk (applyR n.op n.num v).1) := by
  have g0 : 0 < v.length → atO v 0 = some (gV v 0) := fun h => at_gV (i := 0) h
  have g1 : 1 < v.length → atO v 1 = some (gV v 1) := fun h => at_gV (i := 1) h
  have g2 : 2 < v.length → atO v 2 = some (gV v 2) := fun h => at_gV (i := 2) h
  have m0 : 0 < v.length → VOk (gV v 0) := fun h => hv _ (gV_mem h)
  have m1 : 1 < v.length → VOk (gV v 1) := fun h => hv _ (gV_mem h)
  have m2 : 2 < v.length → VOk (gV v 2) := fun h => hv _ (gV_mem h)
  obtain ⟨op, srt, nm, num, ks⟩ := n
  simp only at ha hnum ⊢
  simp only [F160, applyR]
  by_cases h : op = 2
  · subst h
    simp only [beq_self_eq_true, iteO_true, cond_true, num173, bindO_some]
    exact ⟨trivial, fun h => numV_ok h⟩
  rw [beq_eq_false_iff_ne.2 h]; simp only [iteO_false, cond_false]
  by_cases h : op = 4
  · subst h
    have a2 : arity 4 = 2 := rfl
    have e0 := g0 (by omega); have e1 := g1 (by omega)
    have k0 := (m0 (by omega)).1; have k1 := (m1 (by omega)).1
    simp only [e0, e1, beq_self_eq_true, iteO_true, cond_true, num173, bindO_some, wrap_id (show -9223372036854775808 ≤ (gV v 0).valNum + (gV v 1).valNum ∧ (gV v 0).valNum + (gV v 1).valNum < 9223372036854775808 by omega)]
    exact ⟨trivial, fun h => numV_ok h⟩
  rw [beq_eq_false_iff_ne.2 h]; simp only [iteO_false, cond_false]
  by_cases h : op = 5
  · subst h
    have a2 : arity 5 = 2 := rfl
    have e0 := g0 (by omega); have e1 := g1 (by omega)
    have k0 := (m0 (by omega)).1; have k1 := (m1 (by omega)).1
    simp only [e0, e1, beq_self_eq_true, iteO_true, cond_true, num173, bindO_some, wrap_id (show -9223372036854775808 ≤ (gV v 0).valNum - (gV v 1).valNum ∧ (gV v 0).valNum - (gV v 1).valNum < 9223372036854775808 by omega)]
    exact ⟨trivial, fun h => numV_ok h⟩
  rw [beq_eq_false_iff_ne.2 h]; simp only [iteO_false, cond_false]
  by_cases h : op = 6
  · subst h
    have a2 : arity 6 = 1 := rfl
    have e0 := g0 (by omega)
    have k0 := (m0 (by omega)).1
    simp only [e0, beq_self_eq_true, iteO_true, cond_true, num173, bindO_some, wrap_id (show -9223372036854775808 ≤ 0 - (gV v 0).valNum ∧ 0 - (gV v 0).valNum < 9223372036854775808 by omega)]
    exact ⟨trivial, fun h => numV_ok h⟩
  rw [beq_eq_false_iff_ne.2 h]; simp only [iteO_false, cond_false]
  by_cases h : op = 7
  · subst h
    have a2 : arity 7 = 1 := rfl
    have e0 := g0 (by omega)
    have k0 := (m0 (by omega)).1
    obtain ⟨s1, s2, s3⟩ := scaled174 num (gV v 0).valNum (hnum (.inr rfl)) k0
    simp only [e0, beq_self_eq_true, iteO_true, cond_true, s1, bindO_some]
    refine ⟨trivial, fun h => ?_⟩
    rw [s3 h]; exact numV_ok (by rw [← s2]; exact h)
  rw [beq_eq_false_iff_ne.2 h]; simp only [iteO_false, cond_false]
  by_cases h : op = 8
  · subst h
    have a2 : arity 8 = 3 := rfl
    have e0 := g0 (by omega); have e1 := g1 (by omega); have e2 := g2 (by omega)
    simp only [e0, e1, e2, beq_self_eq_true, iteO_true, cond_true, bindO_some]
    cases (gV v 0).valNum == 1 with
    | true => exact ⟨rfl, fun _ => m1 (by omega)⟩
    | false => exact ⟨rfl, fun _ => m2 (by omega)⟩
  rw [beq_eq_false_iff_ne.2 h]; simp only [iteO_false, cond_false]
  by_cases h : op = 10
  · subst h
    have a2 : arity 10 = 1 := rfl
    have e0 := g0 (by omega)
    simp only [e0, beq_self_eq_true, iteO_true, cond_true, bindO_some]
    exact ⟨trivial, fun _ => ⟨⟨by simp only; omega, by simp only; omega⟩, by simp, by simp, rfl⟩⟩
  rw [beq_eq_false_iff_ne.2 h]; simp only [iteO_false, cond_false]
  have comb : (op = 11 ∨ op = 12 ∨ op = 13) → F175 N op (gV v 0).valSet (gV v 1).valSet = some (combL op (gV v 0).valSet (gV v 1).valSet) ∧ atO v 0 = some (gV v 0) ∧ atO v 1 = some (gV v 1) := by
    intro h3
    have a2 : arity op = 2 := by rcases h3 with rfl | rfl | rfl <;> rfl
    have k0 := (m0 (by omega)).2.1; have k1 := (m1 (by omega)).2.1
    exact ⟨combine175 N op _ _ (by omega) (by omega), g0 (by omega), g1 (by omega)⟩
  have setOk : ∀ l : List Int, decide ((l.length : Int) ≤ 200) = true → VOk ⟨4, 0, l, [], []⟩ := fun l h => ⟨⟨by simp only; omega, by simp only; omega⟩, by have := of_decide_eq_true h; simp only; omega, by simp, rfl⟩
  by_cases h : op = 11
  · obtain ⟨c1, e0, e1⟩ := comb (.inl h)
    subst h
    simp only [e0, e1, c1, beq_self_eq_true, iteO_true, cond_true, bindO_some, Bool.true_or]
    exact ⟨trivial, setOk _⟩
  by_cases h' : op = 12
  · obtain ⟨c1, e0, e1⟩ := comb (.inr (.inl h'))
    subst h'
    simp only [e0, e1, c1, show ((12 : Int) == 11) = false from rfl, beq_self_eq_true, iteO_true, iteO_false, cond_true, bindO_some, Bool.true_or, Bool.false_or]
    exact ⟨trivial, setOk _⟩
  by_cases h'' : op = 13
  · obtain ⟨c1, e0, e1⟩ := comb (.inr (.inr h''))
    subst h''
    simp only [e0, e1, c1, show ((13 : Int) == 11) = false from rfl, show ((13 : Int) == 12) = false from rfl, beq_self_eq_true, iteO_true, iteO_false, cond_true, bindO_some, Bool.false_or]
    exact ⟨trivial, setOk _⟩
  rw [beq_eq_false_iff_ne.2 h, beq_eq_false_iff_ne.2 h', beq_eq_false_iff_ne.2 h'']; simp only [iteO_false, cond_false, Bool.or_self]
  by_cases h : op = 14
  · subst h
    have a2 : arity 14 = 2 := rfl
    have e0 := g0 (by omega); have e1 := g1 (by omega)
    have k0 := m0 (by omega)
    simp only [e0, e1, at176 N (gV v 0) (gV v 1).valNum (by have := k0.2.2.1; omega) k0.2.2.2, beq_self_eq_true, iteO_true, cond_true, bindO_some, num173]
    exact ⟨trivial, fun h => numV_ok h⟩
  rw [beq_eq_false_iff_ne.2 h]; simp only [iteO_false, cond_false]
  by_cases h : op = 15
  · subst h
    have a2 : arity 15 = 3 := rfl
    have e0 := g0 (by omega); have e1 := g1 (by omega); have e2 := g2 (by omega)
    have k0 := m0 (by omega)
    simp only [e0, e1, e2, stored177 N (gV v 0) (gV v 1).valNum (gV v 2).valNum (by have := k0.2.2.1; omega) (by have := k0.2.2.1; omega) k0.2.2.2, beq_self_eq_true, iteO_true, cond_true, bindO_some]
    refine ⟨trivial, fun h => ⟨k0.1, by simp [storedV], by have := of_decide_eq_true h; omega, ?_⟩⟩
    exact (storeL_len _ _ _ _).2
  rw [beq_eq_false_iff_ne.2 h]; simp only [iteO_false, cond_false]
  by_cases h : op = 16
  · subst h
    have a2 : arity 16 = 1 := rfl
    have e0 := g0 (by omega)
    simp only [e0, beq_self_eq_true, iteO_true, cond_true, bindO_some, num173]
    exact ⟨trivial, fun h => numV_ok h⟩
  rw [beq_eq_false_iff_ne.2 h]; simp only [iteO_false, cond_false]
  by_cases h : op = 9
  · subst h
    simp only [beq_self_eq_true, iteO_true, cond_true]
    exact ⟨trivial, fun _ => ⟨⟨by simp only; omega, by simp only; omega⟩, by simp, by simp, rfl⟩⟩
  rw [beq_eq_false_iff_ne.2 h]; simp only [iteO_false, cond_false, decide178 N hN op v hv ha, bindO_some]
  exact ⟨trivial, fun _ => truthV_ok _⟩
/-! ### Models -/
def lookR (name : ByteArray) (args : List Val) (srt : Int) : List Entry → Val
  | [] => ⟨srt, 0, [], [], []⟩
  | x :: m => bif (x.entryName.toList == name.toList) && ((x.entryVal.valSort == srt) && sameVs x.entryArgs args) then x.entryVal else lookR name args srt m
structure MOk (m : List Entry) : Prop where
  len : m.length ≤ 1048576
  args : ∀ e ∈ m, e.entryArgs.length ≤ 1048576 ∧ (∀ a ∈ e.entryArgs, VOk a) ∧ VOk e.entryVal
theorem look159 (N : Nat) (hN : 1048600 < N) (m : List Entry) (hm : MOk m) (name : ByteArray) (args : List Val) (srt : Int) : F159 N m name args srt = some (lookR name args srt m) := by
  have key : ∀ (l : List Entry) (M i : Nat), l.length < M → (∀ e ∈ l, e ∈ m) → foldN (F159_s1 N args name srt) (F159_f1 srt) M l i () = some (lookR name args srt l) := by
    intro l
    induction l with
    | nil =>
      intro M i hM _
      obtain ⟨K, rfl⟩ : ∃ K, M = K + 1 := ⟨M - 1, by simp at hM; omega⟩
      rfl
    | cons e l ih =>
      intro M i hM he
      obtain ⟨K, rfl⟩ : ∃ K, M = K + 1 := ⟨M - 1, by simp at hM; omega⟩
      have h1 := ih K (i + 1) (by simp at hM; omega) fun k hk => he k (by simp [hk])
      obtain ⟨h2, h3, _⟩ := hm.args e (he e (by simp))
      simp only [foldN, F159_s1, lookR, sameArgs172 N (by omega) e.entryArgs args (by omega) fun a ha => (h3 a ha).small]
      cases e.entryName.toList == name.toList with
      | false => exact h1
      | true =>
        cases e.entryVal.valSort == srt with
        | false => exact h1
        | true =>
          simp only [iteO_true, bindO_some, Bool.true_and]
          cases sameVs e.entryArgs args with
          | true => rfl
          | false => exact h1
  exact key m N 0 (by have := hm.len; omega) fun _ h => h
theorem look_ok {m : List Entry} (hm : ∀ e ∈ m, VOk e.entryVal) (name : ByteArray) (args : List Val) (srt : Int) : VOk (lookR name args srt m) := by
  induction m with
  | nil => exact ⟨by show (-1152921504606846976 : Int) ≤ 0 ∧ (0 : Int) ≤ 1152921504606846976; decide, by simp [lookR], by simp [lookR], rfl⟩
  | cons e m ih =>
    rw [lookR]
    cases (e.entryName.toList == name.toList) && ((e.entryVal.valSort == srt) && sameVs e.entryArgs args) with
    | true => exact hm e (by simp)
    | false => exact ih fun k hk => hm k (by simp [hk])
mutual
def evalR (m : List Entry) : Node → Val × Bool
  | ⟨op, s, nm, num, ks⟩ =>
    bif (evalL m ks).all (·.2) then (bif (op == 1) || (op == 3) then (lookR nm ((evalL m ks).map (·.1)) s m, true) else applyR op num ((evalL m ks).map (·.1)))
    else (⟨sortS ⟨op, s, nm, num, ks⟩, 0, [], [], []⟩, false)
def evalL (m : List Entry) : List Node → List (Val × Bool)
  | [] => []
  | k :: ks => evalR m k :: evalL m ks
end
theorem evalL_eq (m : List Entry) : ∀ ks : List Node, evalL m ks = ks.map (evalR m)
  | [] => by simp only [evalL, List.map_nil]
  | k :: ks => by simp only [evalL, List.map_cons, evalL_eq m ks]
theorem evalR_eq (m : List Entry) (n : Node) : evalR m n = bif (n.kids.map (evalR m)).all (·.2) then (bif (n.op == 1) || (n.op == 3) then (lookR n.name ((n.kids.map (evalR m)).map (·.1)) n.sortf m, true) else applyR n.op n.num ((n.kids.map (evalR m)).map (·.1))) else (⟨sortS n, 0, [], [], []⟩, false) := by
  cases n; simp only [evalR, evalL_eq]
/-- what a sorted node has -/
structure Fine (n : Node) : Prop where
  ar : ((n.op == 1) || (n.op == 3)) = false → arity n.op ≤ n.kids.length
  num : n.op = 2 ∨ n.op = 7 → -1000000000000 ≤ n.num ∧ n.num ≤ 1000000000000
theorem fold127 (N : Nat) (self : Node → List Entry → Option (Val × Bool)) (m : List Entry) (fin : List Val × Bool → Option (Val × Bool)) : ∀ (l : List Node) (M i : Nat) (vs : List Val) (ok : Bool), l.length < M → vs.length + l.length ≤ 4194304 → (∀ k ∈ l, self k m = some (evalR m k)) →
    foldN (F127_s1 self m) fin M l i (vs, ok) = fin (vs ++ (l.map (evalR m)).map (·.1), ok && (l.map (evalR m)).all (·.2))
  | [], M, i, vs, ok, hM, _, _ => by
    obtain ⟨K, rfl⟩ : ∃ K, M = K + 1 := ⟨M - 1, by simp at hM; omega⟩
    simp [foldN]
  | k :: l, M, i, vs, ok, hM, hl, hs => by
    obtain ⟨K, rfl⟩ : ∃ K, M = K + 1 := ⟨M - 1, by simp at hM; omega⟩
    simp only [List.length_cons] at hM hl
    have ih := fun b => fold127 N self m fin l K (i + 1) (vs ++ [(evalR m k).1]) b (by omega) (by simp; omega) fun x hx => hs x (by simp [hx])
    simp only [foldN, F127_s1, hs k (by simp), bindO_some, fits88 (show vs.length + 1 ≤ 4194304 by omega), iteO_true, List.map_cons, List.all_cons]
    cases ok with
    | true => exact (ih _).trans (by simp)
    | false => exact (ih _).trans (by simp)
theorem evals_ok {m : List Entry} {ks : List Node} (hall : (ks.map (evalR m)).all (·.2) = true) (h : ∀ k ∈ ks, (evalR m k).2 = true → VOk (evalR m k).1) : ∀ x ∈ (ks.map (evalR m)).map (·.1), VOk x := by
  intro x hx
  obtain ⟨y, hy, rfl⟩ := List.mem_map.1 hx
  obtain ⟨k, hk, rfl⟩ := List.mem_map.1 hy
  exact h k hk (List.all_eq_true.1 hall _ hy)
theorem eval127 (m : List Entry) (hm : MOk m) : ∀ (N : Nat) (n : Node), 1048600 + n.size < N → n.size ≤ 1048576 → (∀ x ∈ nodes n, Fine x) → F127 N n m = some (evalR m n) ∧ ((evalR m n).2 = true → VOk (evalR m n).1)
  | 0, n, h, _, _ => absurd h (Nat.not_lt_zero _)
  | N + 1, n, h, hb, hf => by
    have hk : ∀ k ∈ n.kids, F127 N k m = some (evalR m k) ∧ ((evalR m k).2 = true → VOk (evalR m k).1) := fun k hk => by
      have := kids_size hk
      exact eval127 m hm N k (by omega) (by omega) fun x hx => hf x (by
        cases n with
        | mk o s nm nu ks =>
          rw [nodes]
          have : ∀ (l : List Node), k ∈ l → x ∈ nodesL l := by
            intro l
            induction l with
            | nil => intro h; cases h
            | cons y l ih =>
              intro h
              rw [nodesL]
              rcases List.mem_cons.1 h with rfl | h
              · simp [hx]
              · simp [ih h]
          exact List.mem_cons_of_mem _ (this ks hk))
    have hlen := kids_len n
    have hn := hf n (by cases n; rw [nodes]; simp)
    have h1 := fold127 N (F127 N) m (F127_f1 N m n) n.kids N 0 [] true (by omega) (by simp; omega) fun k hk' => (hk k hk').1
    show F127b (F127 N) N n m = _ ∧ _
    rw [F127b, h1, List.nil_append, Bool.true_and, evalR_eq]
    cases hall : (n.kids.map (evalR m)).all (·.2) with
    | false =>
      simp only [F127_f1, iteO_false, cond_false, sort28 N n (by omega), bindO_some]
      exact ⟨trivial, fun h => by cases h⟩
    | true =>
      have hv := evals_ok hall fun k hk' => (hk k hk').2
      have hlk := fun srt => look159 N (by omega) m hm n.name ((n.kids.map (evalR m)).map (·.1)) srt
      simp only [F127_f1, iteO_true, cond_true, hlk, bindO_some]
      cases e1 : n.op == 1 with
      | true => exact ⟨rfl, fun _ => look_ok (fun e he => (hm.args e he).2.2) _ _ _⟩
      | false =>
        cases e3 : n.op == 3 with
        | true => exact ⟨rfl, fun _ => look_ok (fun e he => (hm.args e he).2.2) _ _ _⟩
        | false =>
          have ha := hn.ar (by rw [e1, e3]; rfl)
          obtain ⟨h2, h3⟩ := apply160 N (by omega) n _ hv (by simpa using ha) hn.num
          simp only [iteO_false, Bool.or_self, cond_false, h2, bindO_some]
          exact ⟨trivial, h3⟩
end Go.Abs.Try
namespace Go.Abs.Try
set_option linter.unusedSimpArgs false
set_option linter.unusedVariables false
set_option maxRecDepth 100000
/-! ### Orders -/
def cB (x y : List UInt8) : Int := if x < y then -1 else if x = y then 0 else 1
theorem cmpB_eq : ∀ x y : List UInt8, Lib.compareBytes x y = cB x y
  | [], [] => by simp [Lib.compareBytes, cB]
  | [], b :: y => by simp [Lib.compareBytes, cB]
  | a :: x, [] => by simp [Lib.compareBytes, cB]
  | a :: x, b :: y => by
    have ih := cmpB_eq x y
    simp only [cB] at ih
    simp only [Lib.compareBytes, cB, List.cons_lt_cons_iff, List.cons.injEq, ih]
    by_cases h1 : a < b
    · simp [h1]
    · by_cases h2 : b < a
      · have h3 : a ≠ b := fun e => by subst e; exact UInt8.lt_irrefl _ h2
        simp [h1, h2, h3]
      · have h3 : a = b := UInt8.le_antisymm (UInt8.not_lt.1 h2) (UInt8.not_lt.1 h1)
        simp [h3, UInt8.lt_irrefl]
def sg (a b : Int) : Int := if a < b then -1 else if a > b then 1 else 0
theorem sg78 (a b : Int) : F78 a b = some (sg a b) := by
  simp only [F78, sg, iteO_if, decide_eq_true_eq]
  repeat' split
  all_goals rfl
theorem sg80 (a b : Int) : F80 a b = some (sg a b) := by
  simp only [F80, sg, iteO_if, decide_eq_true_eq]
  repeat' split
  all_goals rfl
theorem sg81 (a b : Int) : F81 a b = some (sg a b) := by
  simp only [F81, sg, iteO_if, decide_eq_true_eq]
  repeat' split
  all_goals rfl
theorem s79 (a b : ByteArray) : F79 a b = some (cB a.toList b.toList) := by
  rw [F79, cmpS, cmpB_eq, ba_toList, ba_toList]
def cmb (u v : Int) : Int := if u = 0 then v else u
def TT (x y z : Int) : Prop := (x = 0 → y = 0 → z = 0) ∧ (x ≤ 0 → y ≤ 0 → z ≤ 0 ∧ (z = 0 → x = 0 ∧ y = 0))
theorem cmb_neg (u v : Int) : cmb (-u) (-v) = -cmb u v := by
  unfold cmb; split <;> split <;> omega
theorem cmb_TT {x y z x' y' z' : Int} (h : TT x y z) (h' : x = 0 → y = 0 → TT x' y' z') : TT (cmb x x') (cmb y y') (cmb z z') := by
  obtain ⟨h1, h2⟩ := h
  by_cases hx : x = 0
  · by_cases hy : y = 0
    · have hz := h1 hx hy
      obtain ⟨h3, h4⟩ := h' hx hy
      simp only [cmb, hx, hy, hz, if_true]
      exact ⟨h3, h4⟩
    · simp only [cmb, hx, hy, if_true, if_false]
      refine ⟨fun _ h => absurd h hy, fun _ h4 => ?_⟩
      obtain ⟨h5, h6⟩ := h2 (by omega) h4
      have hz : z ≠ 0 := fun e => hy (h6 e).2
      rw [if_neg hz]
      exact ⟨h5, fun e => absurd e hz⟩
  · by_cases hy : y = 0
    · simp only [cmb, hx, hy, if_true, if_false]
      refine ⟨fun h => absurd h hx, fun h3 _ => ?_⟩
      obtain ⟨h5, h6⟩ := h2 h3 (by omega)
      have hz : z ≠ 0 := fun e => hx (h6 e).1
      rw [if_neg hz]
      exact ⟨h5, fun e => absurd e hz⟩
    · simp only [cmb, hx, hy, if_false]
      refine ⟨fun h => absurd h hx, fun h3 h4 => ?_⟩
      obtain ⟨h5, h6⟩ := h2 h3 h4
      have hz : z ≠ 0 := fun e => hx (h6 e).1
      rw [if_neg hz]
      exact ⟨h5, fun e => absurd e hz⟩
theorem sg_neg (a b : Int) : sg b a = -sg a b := by
  unfold sg
  by_cases h1 : a < b
  · have h2 : ¬ b < a := by omega
    simp [h1, h2]
  · by_cases h2 : b < a
    · simp [h1, h2]
    · simp [h1, h2]
theorem sg_spec (a b : Int) : (sg a b = -1 ∧ a < b) ∨ (sg a b = 0 ∧ a = b) ∨ (sg a b = 1 ∧ a > b) := by
  unfold sg
  by_cases h1 : a < b
  · exact .inl ⟨if_pos h1, h1⟩
  · by_cases h2 : a > b
    · exact .inr (.inr ⟨by rw [if_neg h1, if_pos h2], h2⟩)
    · exact .inr (.inl ⟨by rw [if_neg h1, if_neg h2], by omega⟩)
theorem sg_TT (a b c : Int) : TT (sg a b) (sg b c) (sg a c) := by
  have h1 := sg_spec a b
  have h2 := sg_spec b c
  have h3 := sg_spec a c
  exact ⟨fun x y => by omega, fun x y => ⟨by omega, fun z => ⟨by omega, by omega⟩⟩⟩
theorem cB_neg (x y : List UInt8) : cB y x = -cB x y := by
  unfold cB
  rcases list_tri x y with h | h | h
  · have h2 : ¬ y < x := fun h' => List.lt_irrefl x (List.lt_trans h h')
    have h3 : y ≠ x := fun e => by subst e; exact List.lt_irrefl _ h
    simp [h, h2, h3]
  · subst h; simp [List.lt_irrefl]
  · have h2 : ¬ x < y := fun h' => List.lt_irrefl x (List.lt_trans h' h)
    have h3 : x ≠ y := fun e => by subst e; exact List.lt_irrefl _ h
    simp [h, h2, h3]
theorem cB_zero {x y : List UInt8} (h : cB x y = 0) : x = y := by
  unfold cB at h
  by_cases h1 : x < y
  · simp [h1] at h
  · by_cases h2 : x = y
    · exact h2
    · simp [h1, h2] at h
theorem cB_self (x : List UInt8) : cB x x = 0 := by simp [cB, List.lt_irrefl]
theorem cB_lt {x y : List UInt8} (h : x < y) : cB x y = -1 := by simp [cB, h]
theorem cB_le {x y : List UInt8} (h : cB x y ≤ 0) : x < y ∨ x = y := by
  unfold cB at h
  by_cases h1 : x < y
  · exact .inl h1
  · by_cases h2 : x = y
    · exact .inr h2
    · simp [h1, h2] at h
theorem cB_TT (x y z : List UInt8) : TT (cB x y) (cB y z) (cB x z) := by
  constructor
  · intro h1 h2
    rw [cB_zero h1, cB_zero h2, cB_self]
  · intro h1 h2
    rcases cB_le h1 with h1 | h1 <;> rcases cB_le h2 with h2 | h2
    · rw [cB_lt (List.lt_trans h1 h2)]; exact ⟨by omega, fun h => by omega⟩
    · subst h2; rw [cB_lt h1]; exact ⟨by omega, fun h => by omega⟩
    · subst h1; rw [cB_lt h2]; exact ⟨by omega, fun h => by omega⟩
    · subst h1; subst h2; rw [cB_self]; exact ⟨by omega, fun _ => ⟨rfl, rfl⟩⟩
mutual
def cmpR : Node → Node → Int
  | ⟨o, s, nm, nu, ks⟩, b => cmb (sg o b.op) (cmb (sg s b.sortf) (cmb (cB nm.toList b.name.toList) (cmb (sg nu b.num) (cmb (sg ks.length b.kids.length) (cmpL ks b.kids)))))
def cmpL : List Node → List Node → Int
  | [], _ => 0
  | x :: xs, l => match l with
    | [] => 0
    | y :: ys => cmb (cmpR x y) (cmpL xs ys)
end
mutual
theorem cmpR_neg : ∀ a b : Node, cmpR b a = -cmpR a b
  | ⟨o, s, nm, nu, ks⟩, ⟨o', s', nm', nu', ks'⟩ => by
    simp only [cmpR, ← cmb_neg, sg_neg o o', sg_neg s s', cB_neg nm.toList nm'.toList, sg_neg nu nu', sg_neg (ks.length : Int) ks'.length, cmpL_neg ks ks']
theorem cmpL_neg : ∀ a b : List Node, cmpL b a = -cmpL a b
  | [], [] => by simp [cmpL]
  | [], y :: ys => by simp [cmpL]
  | x :: xs, [] => by simp [cmpL]
  | x :: xs, y :: ys => by simp only [cmpL, ← cmb_neg, cmpR_neg x y, cmpL_neg xs ys]
end
theorem sg_zero {a b : Int} (h : sg a b = 0) : a = b := by
  unfold sg at h
  by_cases h1 : a < b
  · simp [h1] at h
  · by_cases h2 : a > b
    · simp [h1, h2] at h
    · omega
mutual
theorem cmpR_TT : ∀ a b c : Node, TT (cmpR a b) (cmpR b c) (cmpR a c)
  | ⟨o, s, nm, nu, ks⟩, ⟨o', s', nm', nu', ks'⟩, ⟨o2, s2, nm2, nu2, ks2⟩ => by
    simp only [cmpR]
    refine cmb_TT (sg_TT _ _ _) fun _ _ => cmb_TT (sg_TT _ _ _) fun _ _ => cmb_TT (cB_TT _ _ _) fun _ _ => cmb_TT (sg_TT _ _ _) fun _ _ => cmb_TT (sg_TT _ _ _) fun h1 h2 => ?_
    have h1 := sg_zero h1
    have h2 := sg_zero h2
    exact cmpL_TT ks ks' ks2 (by omega) (by omega)
theorem cmpL_TT : ∀ a b c : List Node, a.length = b.length → b.length = c.length → TT (cmpL a b) (cmpL b c) (cmpL a c)
  | [], [], [], _, _ => by simp [cmpL, TT]
  | x :: xs, y :: ys, z :: zs, h1, h2 => by
    simp only [cmpL]
    exact cmb_TT (cmpR_TT x y z) fun _ _ => cmpL_TT xs ys zs (by simpa using h1) (by simpa using h2)
  | [], _ :: _, _, h1, _ => by simp at h1
  | _ :: _, [], _, h1, _ => by simp at h1
  | _, [], _ :: _, _, h2 => by simp at h2
  | _, _ :: _, [], _, h2 => by simp at h2
end
theorem cmpR_self (a : Node) : cmpR a a = 0 := by
  have := cmpR_neg a a
  omega
end Go.Abs.Try
namespace Go.Abs.Try
set_option linter.unusedSimpArgs false
set_option linter.unusedVariables false
set_option maxRecDepth 100000
theorem cmpR_eq (a b : Node) : cmpR a b = cmb (sg a.op b.op) (cmb (sg a.sortf b.sortf) (cmb (cB a.name.toList b.name.toList) (cmb (sg a.num b.num) (cmb (sg a.kids.length b.kids.length) (cmpL a.kids b.kids))))) := by
  cases a; simp only [cmpR]
theorem iteO_cmb (u : Int) (x : Option Int) (v : Int) (h : u = 0 → x = some v) : iteO (u == 0) x (some u) = some (cmb u v) := by
  by_cases hu : u = 0
  · have e : (u == 0) = true := beq_iff_eq.2 hu
    rw [e, iteO_true, h hu, cmb, if_pos hu]
  · have e : (u == 0) = false := beq_eq_false_iff_ne.2 hu
    rw [e, iteO_false, cmb, if_neg hu]
theorem kids18 (self : Node → Node → Option Int) (b : Node) : ∀ (ks : List Node) (N i : Nat), (∀ x ∈ ks, ∀ y, self x y = some (cmpR x y)) → ks.length = (b.kids.drop i).length → ks.length < N → foldN (F18_s1 self b) F18_f1 N ks i () = some (cmpL ks (b.kids.drop i))
  | [], N, i, _, _, hN => by
    obtain ⟨M, rfl⟩ : ∃ M, N = M + 1 := ⟨N - 1, by simp at hN; omega⟩
    simp only [foldN, F18_f1, cmpL]
  | x :: xs, N, i, hs, hl, hN => by
    obtain ⟨M, rfl⟩ : ∃ M, N = M + 1 := ⟨N - 1, by simp at hN; omega⟩
    simp only [List.length_cons] at hl hN
    have hi : i < b.kids.length := by simp at hl; omega
    have hd := List.drop_eq_getElem_cons hi
    have ha : atO b.kids (i : Int) = some b.kids[i] := atO_get (List.getElem?_eq_getElem hi)
    have ih := kids18 self b xs M (i + 1) (fun x hx => hs x (by simp [hx])) (by simp at hl ⊢; omega) (by omega)
    rw [hd, cmpL]
    simp only [foldN, F18_s1, ha, bindO_some, hs x (by simp)]
    by_cases hz : cmpR x b.kids[i] = 0
    · have e : (cmpR x b.kids[i] == 0) = true := beq_iff_eq.2 hz
      simp only [e, iteO_true, bindO_some, cmb, hz, if_true]
      exact ih
    · have e : (cmpR x b.kids[i] == 0) = false := beq_eq_false_iff_ne.2 hz
      simp only [e, iteO_false, bindO_some, cmb, hz, if_false]
theorem cmp18 : ∀ (N : Nat) (a b : Node), a.size < N → F18 N a b = some (cmpR a b)
  | 0, a, _, h => absurd h (Nat.not_lt_zero _)
  | N + 1, a, b, h => by
    have hk := kids_len a
    show F18b (F18 N) N a b = _
    rw [cmpR_eq]
    simp only [F18b, sg78, sg80, s79, bindO_some]
    refine iteO_cmb _ _ _ fun _ => iteO_cmb _ _ _ fun _ => iteO_cmb _ _ _ fun _ => iteO_cmb _ _ _ fun _ => iteO_cmb _ _ _ fun hl => ?_
    have hl := sg_zero hl
    have := kids18 (F18 N) b a.kids N 0 (fun x hx y => cmp18 N x y (by have := kids_size hx; omega)) (by simp; omega) (by omega)
    simpa using this
theorem kids19 (self : Node → Node → Option Int) (a b : Node) (hle : a.kids.length ≤ 4000000) (hl : a.kids.length = b.kids.length) (hs : ∀ x ∈ a.kids, ∀ y, self x y = some (cmpR x y)) : ∀ (m i N : Nat) (k : Int), i + m = a.kids.length → m + 1 < N → whileN (F19_s3 self a b) N (k, (i : Int)) = some (cmb k (cmpL (a.kids.drop i) (b.kids.drop i)))
  | 0, i, N, k, h, hN => by
    obtain ⟨M, rfl⟩ : ∃ M, N = M + 1 := ⟨N - 1, by omega⟩
    have hd : decide ((i : Int) < (a.kids.length : Int)) = false := decide_eq_false (by omega)
    have h0 : a.kids.drop i = [] := List.drop_eq_nil_iff.2 (by omega)
    rw [h0, cmpL]
    simp only [whileN, F19_s3, hd, iteO_false]
    by_cases hk : k = 0
    · subst hk; rfl
    · have e : (k == 0) = false := beq_eq_false_iff_ne.2 hk
      simp only [e, iteO_false, bindO_some, cmb, hk, if_false]
  | m + 1, i, N, k, h, hN => by
    obtain ⟨M, rfl⟩ : ∃ M, N = M + 1 := ⟨N - 1, by omega⟩
    have h1 : i < a.kids.length := by omega
    have h2 : i < b.kids.length := by omega
    have hd : decide ((i : Int) < (a.kids.length : Int)) = true := decide_eq_true (by omega)
    have a1 : atO a.kids (i : Int) = some a.kids[i] := atO_get (List.getElem?_eq_getElem h1)
    have a2 : atO b.kids (i : Int) = some b.kids[i] := atO_get (List.getElem?_eq_getElem h2)
    have hw : IntKind.i64.wrap ((i : Int) + 1) = ((i + 1 : Nat) : Int) := by rw [wrap_id (by omega)]; omega
    have ih := kids19 self a b hle hl hs m (i + 1) M (cmpR a.kids[i] b.kids[i]) (by omega) (by omega)
    rw [List.drop_eq_getElem_cons h1, List.drop_eq_getElem_cons h2, cmpL]
    by_cases hk : k = 0
    · subst hk
      have e : ((0 : Int) == 0) = true := rfl
      simp only [whileN, F19_s3, e, hd, iteO_true, a1, a2, bindO_some, hs _ (List.getElem_mem h1), hw, ih, cmb, if_true]
    · have e : (k == 0) = false := beq_eq_false_iff_ne.2 hk
      simp only [whileN, F19_s3, e, iteO_false, bindO_some, cmb, hk, if_false]
theorem cmp19 : ∀ (N : Nat) (a b : Node), a.size + 1 < N → a.size ≤ 1048576 → F19 N a b = some (cmpR a b)
  | 0, a, _, h, _ => absurd h (Nat.not_lt_zero _)
  | N + 1, a, b, h, hb => by
    have hk := kids_len a
    have hp := size_pos a
    obtain ⟨M, rfl⟩ : ∃ M, N = M + 1 := ⟨N - 1, by omega⟩
    show F19b (F19 (M + 1)) (M + 1) a b = _
    rw [cmpR_eq]
    simp only [F19b, sg81, bindO_some]
    have w4 : ∀ z : Int, whileN (F19_s4 z) (M + 1) () = some z := fun z => rfl
    have w5 : ∀ z : Int, whileN (F19_s5 z) (M + 1) () = some z := fun z => rfl
    have w6 : ∀ z : Int, whileN (F19_s6 z) (M + 1) () = some z := fun z => rfl
    have w1 : whileN F19_s1 (M + 1) () = some (-1) := rfl
    have w2 : whileN F19_s2 (M + 1) () = some 1 := rfl
    simp only [w1, w2, w4, w5, w6]
    refine iteO_cmb _ _ _ fun _ => iteO_cmb _ _ _ fun _ => ?_
    rw [bytes_lt]
    by_cases h1 : a.name.toList < b.name.toList
    · rw [decide_eq_true h1, iteO_true, cB_lt h1]; rfl
    · rw [decide_eq_false h1, iteO_false]
      by_cases h2 : a.name.toList = b.name.toList
      · have e : (a.name.toList == b.name.toList) = true := beq_iff_eq.2 h2
        rw [e, Bool.false_or, iteO_true, h2, cB_self]
        have : ∀ v, cmb 0 v = v := fun v => if_pos rfl
        rw [this]
        refine iteO_cmb _ _ _ fun _ => ?_
        by_cases hl : a.kids.length = b.kids.length
        · have := kids19 (F19 (M + 1)) a b (by omega) hl (fun x hx y => cmp19 (M + 1) x y (by have := kids_size hx; omega) (by have := kids_size hx; omega)) a.kids.length 0 (M + 1) (sg a.kids.length b.kids.length) (by omega) (by omega)
          simpa using this
        · have hz : sg (a.kids.length : Int) b.kids.length ≠ 0 := fun e => hl (by have := sg_zero e; omega)
          have e : (sg (a.kids.length : Int) b.kids.length == 0) = false := beq_eq_false_iff_ne.2 hz
          simp only [whileN, F19_s3, e, iteO_false, bindO_some, cmb, hz, if_false]
      · have e : (a.name.toList == b.name.toList) = false := beq_eq_false_iff_ne.2 h2
        rw [e, Bool.false_or, iteO_false]
        have : cB a.name.toList b.name.toList = 1 := by simp [cB, h1, h2]
        rw [this]; rfl
theorem cmb_range {u v : Int} (hu : -1 ≤ u ∧ u ≤ 1) (hv : -1 ≤ v ∧ v ≤ 1) : -1 ≤ cmb u v ∧ cmb u v ≤ 1 := by
  unfold cmb; split <;> assumption
theorem sg_range (a b : Int) : -1 ≤ sg a b ∧ sg a b ≤ 1 := by
  have := sg_spec a b; omega
theorem cB_range (x y : List UInt8) : -1 ≤ cB x y ∧ cB x y ≤ 1 := by
  unfold cB; split
  · decide
  · split <;> decide
mutual
theorem sg_cmb_range : ∀ a b : Node, -1 ≤ cmpR a b ∧ cmpR a b ≤ 1
  | ⟨o, s, nm, nu, ks⟩, b => by
    simp only [cmpR]
    exact cmb_range (sg_range _ _) (cmb_range (sg_range _ _) (cmb_range (cB_range _ _) (cmb_range (sg_range _ _) (cmb_range (sg_range _ _) (sg_cmb_rangeL ks b.kids)))))
theorem sg_cmb_rangeL : ∀ a b : List Node, -1 ≤ cmpL a b ∧ cmpL a b ≤ 1
  | [], _ => by simp [cmpL]
  | _ :: _, [] => by simp [cmpL]
  | x :: xs, y :: ys => by simp only [cmpL]; exact cmb_range (sg_cmb_range x y) (sg_cmb_rangeL xs ys)
end
end Go.Abs.Try
namespace Go.Abs.Try
set_option linter.unusedSimpArgs false
set_option linter.unusedVariables false
set_option maxRecDepth 100000
/-! ### Copies -/
theorem fits64_ok {n : Nat} (h : n ≤ 1048577) : fits n 64 = true := by
  simp only [fits, roomMax]; exact decide_eq_true (by omega)
theorem foldl_app (g : Node → Node) : ∀ (l s : List Node), l.foldl (fun s x => s ++ [g x]) s = s ++ l.map g
  | [], s => by simp
  | x :: xs, s => by rw [List.foldl_cons, foldl_app g xs]; simp
theorem app_fold {β : Type} (self : Node → Option Node) (g : Node → Node) (step : List Node → Nat → Node → Option (Sum (List Node) β)) (hstep : ∀ s i x, step s i x = bindO (self x) fun r => iteO (fits (s.length + 1) 64) (some (.inl (s ++ [r]))) none) (fin : List Node → Option β)
    (ks : List Node) (N : Nat) (hN : ks.length < N) (hb : ks.length ≤ 1048576) (hs : ∀ k ∈ ks, self k = some (g k)) : foldN step fin N ks 0 [] = fin (ks.map g) := by
  have := foldN_inl (step := step) (fin := fin) (fun (s : List Node) (k : Node) => s ++ [g k]) (fun l s => (∀ k ∈ l, k ∈ ks) ∧ s.length + l.length = ks.length)
    (fun x xs i s ⟨h1, h2⟩ => by
      simp only [List.length_cons] at h2
      refine ⟨by rw [hstep, hs x (h1 x (by simp)), bindO_some, fits64_ok (by omega), iteO_true], fun k hk => h1 k (by simp [hk]), by simp; omega⟩) ks N 0 [] hN ⟨fun _ h => h, by simp⟩
  rw [this.1, foldl_app, List.nil_append]
theorem copied82 : ∀ (N : Nat) (n : Node), n.size < N → n.size ≤ 1048576 → F82 N n = some n
  | 0, n, h, _ => absurd h (Nat.not_lt_zero _)
  | N + 1, n, h, hb => by
    have hk := kids_len n
    show F82b (F82 N) N n = _
    have hf : fits n.kids.length 64 = true := fits64_ok (by omega)
    simp only [F82b, hf, iteO_true, Int.toNat_natCast]
    refine foldN_idx (step := F82_s1 (F82 N)) (fin := F82_f1 n) (fun s _ _ => s) (fun i l s => s = n.kids ∧ i + l.length = n.kids.length) (fun r => r = some n) ?_ ?_ (List.range n.kids.length) N 0 n.kids (by simp; omega) ⟨rfl, by simp⟩
    · intro x xs i s ⟨h1, h2⟩
      subst h1
      simp only [List.length_cons] at h2
      have hi : i < n.kids.length := by omega
      have hm := List.getElem_mem hi
      have hs := kids_size hm
      have ha : atO n.kids (i : Int) = some n.kids[i] := atO_get (List.getElem?_eq_getElem hi)
      refine ⟨?_, rfl, by omega⟩
      simp only [F82_s1, ha, bindO_some, copied82 N n.kids[i] (by omega) (by omega), List.set_getElem_self]
    · intro i s ⟨h1, _⟩
      subst h1
      cases n; rfl
/-! ### Substitution -/
def firstM (nm : ByteArray) : List ByteArray → List Node → Option Node
  | a :: ays', w :: ws => bif a.toList == nm.toList then some w else firstM nm ays' ws
  | _, _ => none
theorem firstM_mem (nm : ByteArray) : ∀ (a : List ByteArray) (ws : List Node) (w : Node), firstM nm a ws = some w → w ∈ ws
  | [], _, _, h => by simp [firstM] at h
  | _ :: _, [], _, h => by simp [firstM] at h
  | a :: ays', w :: ws, v, h => by
    simp only [firstM] at h
    cases he : a.toList == nm.toList with
    | true => rw [he] at h; injection h with h; subst h; simp
    | false => rw [he] at h; exact List.mem_cons_of_mem _ (firstM_mem nm ays' ws v h)
def orElseO (o : Option Node) (d : Option Node) : Option Node := match o with
  | some w => some w
  | none => d
theorem search22 (N : Nat) (n : Node) (names : List ByteArray) (ws : List Node) (fin : Unit → Option Node) (hw : ∀ w ∈ ws, w.size < N ∧ w.size ≤ 1048576) : ∀ (l : List Nat) (M i : Nat), i + l.length = min names.length ws.length → l.length < M → foldN (F22_s1 N n names ws) fin M l i () = orElseO (firstM n.name (names.drop i) (ws.drop i)) (fin ())
  | [], M, i, h, hM => by
    obtain ⟨K, rfl⟩ : ∃ K, M = K + 1 := ⟨M - 1, by simp at hM; omega⟩
    have : firstM n.name (names.drop i) (ws.drop i) = none := by
      simp only [List.length_nil] at h
      by_cases hn : names.length ≤ ws.length
      · rw [List.drop_eq_nil_iff.2 (show names.length ≤ i by omega)]; rfl
      · rw [List.drop_eq_nil_iff.2 (show ws.length ≤ i by omega)]
        cases names.drop i <;> rfl
    rw [this]; rfl
  | x :: xs, M, i, h, hM => by
    obtain ⟨K, rfl⟩ : ∃ K, M = K + 1 := ⟨M - 1, by simp at hM; omega⟩
    simp only [List.length_cons] at h hM
    have h1 : i < names.length := by omega
    have h2 : i < ws.length := by omega
    have a1 : atO names (i : Int) = some names[i] := atO_get (List.getElem?_eq_getElem h1)
    have a2 : atO ws (i : Int) = some ws[i] := atO_get (List.getElem?_eq_getElem h2)
    have hc := copied82 N ws[i] (hw _ (List.getElem_mem h2)).1 (hw _ (List.getElem_mem h2)).2
    have ih := search22 N n names ws fin hw xs K (i + 1) (by omega) (by omega)
    rw [List.drop_eq_getElem_cons h1, List.drop_eq_getElem_cons h2, firstM]
    simp only [foldN, F22_s1, a1, a2, hc, bindO_some]
    cases names[i].toList == n.name.toList with
    | true => rfl
    | false => simp only [iteO_false, bindO_some, cond_false]; exact ih
mutual
def substR (names : List ByteArray) (ws : List Node) : Node → Node
  | ⟨op, s, nm, k, ks⟩ => match (bif op == 1 then firstM nm names ws else none) with
    | some w => w
    | none => ⟨op, s, nm, k, substL names ws ks⟩
def substL (names : List ByteArray) (ws : List Node) : List Node → List Node
  | [] => []
  | k :: ks => substR names ws k :: substL names ws ks
end
theorem substL_eq (names : List ByteArray) (ws : List Node) : ∀ ks : List Node, substL names ws ks = ks.map (substR names ws)
  | [] => rfl
  | k :: ks => by rw [substL, substL_eq names ws ks]; rfl
theorem substR_eq (names : List ByteArray) (ws : List Node) (n : Node) : some (substR names ws n) = orElseO (bif n.op == 1 then firstM n.name names ws else none) (some ⟨n.op, n.sortf, n.name, n.num, n.kids.map (substR names ws)⟩) := by
  cases n with
  | mk op s nm k ks =>
    simp only [substR, substL_eq]
    cases (bif op == 1 then firstM nm names ws else none) <;> rfl
theorem subst22 (names : List ByteArray) (ws : List Node) (hl : names.length ≤ 1048576 ∧ ws.length ≤ 1048576) : ∀ (N : Nat) (n : Node), 1048600 + n.size < N → n.size ≤ 1048576 → (∀ w ∈ ws, w.size ≤ 1048576) → F22 N n names ws = some (substR names ws n)
  | 0, n, h, _, _ => absurd h (Nat.not_lt_zero _)
  | N + 1, n, h, hb, hw => by
    have hk := kids_len n
    show F22b (F22 N) N n names ws = _
    rw [substR_eq]
    have hd : decide ((0 : Nat) ≤ 0 ∧ 0 ≤ (n.kids.length : Int) ∧ (n.kids.length : Int) * 64 ≤ 140737488355328 ∧ (n.kids.length : Int) ≤ 9223372036854775807) = true := decide_eq_true (by omega)
    have ih : ∀ k ∈ n.kids, (fun k => F22 N k names ws) k = some (substR names ws k) := fun k hk => subst22 names ws hl N k (by have := kids_size hk; omega) (by have := kids_size hk; omega) hw
    have f2 := app_fold (fun k => F22 N k names ws) (substR names ws) (F22_s2 (F22 N) names ws) (fun _ _ _ => rfl) (F22_f2 n) n.kids N (by omega) (by omega) ih
    have f3 := app_fold (fun k => F22 N k names ws) (substR names ws) (F22_s3 (F22 N) names ws) (fun _ _ _ => rfl) (F22_f3 n) n.kids N (by omega) (by omega) ih
    cases h1 : n.op == 1 with
    | true =>
      have hm : (min (names.length : Int) (ws.length : Int)).toNat = min names.length ws.length := by omega
      have := search22 N n names ws (F22_f1 (F22 N) N n names ws) (fun w hw' => ⟨by have := hw w hw'; omega, hw w hw'⟩) (List.range (min names.length ws.length)) N 0 (by simp) (by simp; omega)
      simp only [F22b, h1, iteO_true, cond_true, hm]
      rw [this]
      simp only [F22_f1, hd, iteO_true, f2, List.drop_zero]
      rfl
    | false =>
      simp only [F22b, h1, iteO_false, cond_false, hd, iteO_true, f3]
      rfl
end Go.Abs.Try
namespace Go.Abs.Try
set_option linter.unusedSimpArgs false
set_option linter.unusedVariables false
set_option maxRecDepth 100000
/-! ### Atoms -/
theorem check_sorted (N : Nat) (n : Node) (hN : N = 4611686018427387904) (hb : n.size ≤ 1048576) (h : F15 N n 0 = some 0) : sortedR n = true := by
  obtain ⟨k, hk, _, _⟩ := levels39 N n (by omega) (by omega)
  have h27 := size27 N n (by omega) (by omega)
  have h72 := sorted72 N n (by omega)
  have h0 : decide ((0 : Int) < 0) = false := rfl
  have h5 : decide ((0 : Int) > 5) = false := rfl
  simp only [F15, h0, h5, iteO_false, hk, h27, h72, bindO_some] at h
  cases hs : sortedR n with
  | true => rfl
  | false =>
    rw [hs] at h
    cases hx : decide ((n.size : Int) > 4000) with
    | true => rw [hx] at h; simp only [iteO_true] at h; injection h with h; omega
    | false =>
      cases hy : decide (k > 100) with
      | true => rw [hx, hy] at h; simp only [iteO_true, iteO_false] at h; injection h with h; omega
      | false => rw [hx, hy] at h; simp only [iteO_true, iteO_false] at h; injection h with h; omega
def atomB (n : Node) : Bool := (F63 4611686018427387904 n).getD false
theorem atom_same (N : Nat) (n : Node) (hN : N = 4611686018427387904) (hb : n.size ≤ 1048576) : F62 N n = some (atomB n) ∧ F63 N n = some (atomB n) := by
  obtain ⟨r, h14, h15⟩ := check_same N n 0 hN hb
  have h36 := sort36n N n (by omega)
  have h28 := sort28 N n (by omega)
  have key : ∃ b, F62 N n = some b ∧ F63 N n = some b := by
    simp only [F62, F63, h14, h15, h36, h28, bindO_some]
    cases n.op == 2 <;> cases n.op == 4 <;> cases n.op == 5 <;> cases n.op == 6 <;> cases n.op == 7 <;> cases r == 0 <;> cases sortS n == 1 <;> exact ⟨_, rfl, rfl⟩
  obtain ⟨b, h1, h2⟩ := key
  have : atomB n = b := by rw [atomB, ← hN, h2]; rfl
  rw [this]; exact ⟨h1, h2⟩
theorem atom_sorted (n : Node) (hb : n.size ≤ 1048576) (h : atomB n = true) : sortedR n = true := by
  obtain ⟨r, h14, h15⟩ := check_same 4611686018427387904 n 0 rfl hb
  have h63 := (atom_same 4611686018427387904 n rfl hb).2
  rw [h] at h63
  by_cases hr : r = 0
  · rw [hr] at h15; exact check_sorted _ n rfl hb h15
  · have e : (r == 0) = false := beq_eq_false_iff_ne.2 hr
    have h28 := sort28 4611686018427387904 n (by omega)
    simp only [F63, h15, h28, bindO_some, e] at h63
    generalize (n.op == 2) = x2 at h63
    generalize (n.op == 4) = x4 at h63
    generalize (n.op == 5) = x5 at h63
    generalize (n.op == 6) = x6 at h63
    generalize (n.op == 7) = x7 at h63
    cases x2 <;> cases x4 <;> cases x5 <;> cases x6 <;> cases x7 <;> simp only [iteO_true, iteO_false] at h63 <;> injection h63 with h63 <;> cases h63
/-! ### Copies of atoms -/
def zeroN : Node := ⟨0, 0, (⟨#[]⟩ : ByteArray), 0, []⟩
theorem own_name (n : Node) (h : ownA n = true) (ho : n.op = 1) : n.name.size ≠ 0 := by
  intro hs
  have h1 := own118A 30 n (Nat.le_refl _)
  rw [h] at h1
  have e : (n.op == 1) = true := beq_iff_eq.2 ho
  have e2 : F17 30 n.name = some false := by
    have : ((n.name.size : Int) == 0) = true := by simp [hs]
    simp only [F17, this, iteO_true]
  simp only [F118, e, iteO_true, e2, bindO_some, iteO_false] at h1
  cases h1
theorem empty_ne (s : ByteArray) (h : s.size ≠ 0) : ((⟨#[]⟩ : ByteArray).toList == s.toList) = false := by
  rw [beq_eq_false_iff_ne]
  intro e
  have h1 := congrArg List.length e
  rw [ba_len, ba_len] at h1
  exact h h1.symm
mutual
theorem subst_id : ∀ n : Node, sortedR n = true → substR [(⟨#[]⟩ : ByteArray)] [zeroN] n = n
  | ⟨op, s, nm, k, ks⟩, h => by
    rw [sortedR] at h
    simp only [Bool.and_eq_true, nodeB] at h
    have hf : (bif op == 1 then firstM nm [(⟨#[]⟩ : ByteArray)] [zeroN] else none) = none := by
      cases h1 : op == 1 with
      | false => rfl
      | true =>
        have := own_name _ h.1.1 (eq_of_beq h1)
        simp only [cond_true, firstM, empty_ne nm this, cond_false]
    simp only [substR, hf, substL_id ks h.2]
theorem substL_id : ∀ ks : List Node, allR ks = true → substL [(⟨#[]⟩ : ByteArray)] [zeroN] ks = ks
  | [], _ => rfl
  | k :: ks, h => by
    simp only [allR, Bool.and_eq_true] at h
    rw [substL, subst_id k h.1, substL_id ks h.2]
end
theorem copy24 (N : Nat) (n : Node) (hN : 1048600 + n.size < N) (hb : n.size ≤ 1048576) (h : atomB n = true) : F24 N n (⟨#[]⟩ : ByteArray) zeroN = some n := by
  have hz : zeroN.size ≤ 1048576 := by decide
  simp only [F24, subst22 [(⟨#[]⟩ : ByteArray)] [zeroN] ⟨by simp, by simp⟩ N n hN hb (fun w hw => by rw [List.mem_singleton.1 hw]; exact hz), bindO_some, subst_id n (atom_sorted n hb h)]
end Go.Abs.Try
namespace Go.Abs.Try
set_option linter.unusedSimpArgs false
set_option linter.unusedVariables false
set_option maxRecDepth 100000
/-! ### Valid -/
def fitsC (x : Int) : Bool := decide (x ≥ (-9007199254740992)) && decide (x ≤ 9007199254740992)
theorem fits112 (x : Int) : F112 x = some (fitsC x) := by
  simp only [F112, fitsC]
  cases decide (x ≥ (-9007199254740992)) <;> rfl
theorem fits130 (x : Int) : F130 x = some (fitsC x) := by
  simp only [F130, fitsC]
  cases decide (x ≥ (-9007199254740992)) <;> rfl
def prevB (p : Option Node) (n : Node) : Bool := match p with
  | none => true
  | some q => !decide (cmpR q n ≥ 0)
def validL : Option Node → List Mono → Bool
  | _, [] => true
  | p, m :: ms => !(m.monoCoef == 0) && (fitsC m.monoCoef && (atomB m.monoAtom && (prevB p m.monoAtom && validL (some m.monoAtom) ms)))
def Good (f : Lin) : Prop := f.linMonos.length ≤ 1048576 ∧ ∀ m ∈ f.linMonos, m.monoAtom.size ≤ 1048576
def validB (f : Lin) : Bool := validL none f.linMonos && fitsC f.linConst
theorem valid_fold (f : Lin) (hg : Good f) (A : Int → Option Bool) (B : Node → Option Bool) (C : Node → Node → Option Int) (hA : ∀ x, A x = some (fitsC x)) (hB : ∀ n : Node, n.size ≤ 1048576 → B n = some (atomB n)) (hC : ∀ a b : Node, a.size ≤ 1048576 → C a b = some (cmpR a b))
    (step : Unit → Nat → Mono → Option (Sum Unit Bool)) (hstep : ∀ s (i : Nat) (x2 : Mono), step s i x2 = iteO (x2.monoCoef == 0) (some (.inr false)) (bindO (A x2.monoCoef) fun r4 => iteO r4 (bindO (B x2.monoAtom) fun r5 => iteO r5
      (iteO (decide ((i : Int) > 0)) (bindO (atO f.linMonos (IntKind.i64.wrap ((i : Int) - 1))) fun x6 => bindO (C x6.monoAtom x2.monoAtom) fun r7 => iteO (decide (r7 ≥ 0)) (some (.inr false)) (some (.inl ()))) (some (.inl ()))) (some (.inr false))) (some (.inr false))))
    (fin : Unit → Option Bool) (hfin : fin () = some (fitsC f.linConst)) : ∀ (l : List Mono) (N i : Nat), l.length < N → f.linMonos.drop i = l → foldN step fin N l i () = some (validL (if i = 0 then none else (f.linMonos[i - 1]?).map Mono.monoAtom) l && fitsC f.linConst)
  | [], N, i, hN, _ => by
    obtain ⟨M, rfl⟩ : ∃ M, N = M + 1 := ⟨N - 1, by simp at hN; omega⟩
    simp only [foldN, hfin, validL, Bool.true_and]
  | x :: xs, N, i, hN, hd => by
    obtain ⟨M, rfl⟩ : ∃ M, N = M + 1 := ⟨N - 1, by simp at hN; omega⟩
    obtain ⟨hx, hxs⟩ := drop_cons hd
    obtain ⟨hi, hx'⟩ := List.getElem?_eq_some_iff.1 hx
    have hm : x ∈ f.linMonos := hx' ▸ List.getElem_mem hi
    have hsz := hg.2 x hm
    have hlen := hg.1
    have ih := valid_fold f hg A B C hA hB hC step hstep fin hfin xs M (i + 1) (by simp at hN; omega) hxs
    have hp : (if i + 1 = 0 then none else (f.linMonos[i + 1 - 1]?).map Mono.monoAtom) = some x.monoAtom := by
      rw [if_neg (by omega), Nat.add_sub_cancel, hx]; rfl
    rw [hp] at ih
    simp only [foldN, hstep, hA, hB _ hsz, bindO_some, validL]
    cases x.monoCoef == 0 with
    | true => rfl
    | false =>
      cases fitsC x.monoCoef with
      | false => rfl
      | true =>
        cases atomB x.monoAtom with
        | false => rfl
        | true =>
          simp only [iteO_true, iteO_false, Bool.not_false, Bool.true_and]
          by_cases h0 : i = 0
          · subst h0
            have : decide (((0 : Nat) : Int) > 0) = false := rfl
            rw [this, iteO_false, if_pos rfl]
            simp only [bindO_some, prevB, Bool.true_and]
            exact ih
          · have e : decide ((i : Int) > 0) = true := decide_eq_true (by omega)
            have hi1 : i - 1 < f.linMonos.length := by omega
            have hq : f.linMonos[i - 1]? = some f.linMonos[i - 1] := List.getElem?_eq_getElem hi1
            have ha : atO f.linMonos (IntKind.i64.wrap ((i : Int) - 1)) = some f.linMonos[i - 1] := by
              rw [wrap_id (by omega)]
              exact atO_lit (i := i - 1) (by omega) hq
            have hc := hC f.linMonos[i - 1].monoAtom x.monoAtom (hg.2 _ (List.getElem_mem hi1))
            rw [e, iteO_true, ha, if_neg h0, hq]
            simp only [bindO_some, hc, Option.map_some, prevB]
            cases decide (cmpR f.linMonos[i - 1].monoAtom x.monoAtom ≥ 0) with
            | true => rfl
            | false =>
              simp only [iteO_false, bindO_some, Bool.not_false, Bool.true_and]
              exact ih
theorem valid64 (N : Nat) (f : Lin) (hN : N = 4611686018427387904) (hg : Good f) : F64 N f = some (validB f) := by
  have := valid_fold f hg F112 (F62 N) (F18 N) fits112 (fun n h => (atom_same N n hN h).1) (fun a b h => cmp18 N a b (by omega)) (F64_s1 N f) (fun _ _ _ => rfl) (F64_f1 f) (by simp only [F64_f1, fits112, bindO_some]) f.linMonos N 0 (by have := hg.1; omega) rfl
  exact this
theorem valid89 (N : Nat) (f : Lin) (hN : N = 4611686018427387904) (hg : Good f) : F89 N f = some (validB f) := by
  have := valid_fold f hg F130 (F63 N) (F19 N) fits130 (fun n h => (atom_same N n hN h).2) (fun a b h => cmp19 N a b (by omega) h) (F89_s1 N f) (fun _ _ _ => rfl) (F89_f1 f) (by simp only [F89_f1, fits130, bindO_some]) f.linMonos N 0 (by have := hg.1; omega) rfl
  exact this
end Go.Abs.Try
namespace Go.Abs.Try
set_option linter.unusedSimpArgs false
set_option linter.unusedVariables false
/-! ### Sorted lists of monomials -/
theorem cmp_trans {a b c : Node} (h1 : cmpR a b ≤ 0) (h2 : cmpR b c ≤ 0) : cmpR a c ≤ 0 := ((cmpR_TT a b c).2 h1 h2).1
theorem cmp_lt1 {a b c : Node} (h1 : cmpR a b < 0) (h2 : cmpR b c ≤ 0) : cmpR a c < 0 := by
  have h := (cmpR_TT a b c).2 (by omega) h2
  rcases Int.lt_or_eq_of_le h.1 with h3 | h3
  · exact h3
  · have := (h.2 h3).1; omega
theorem cmp_lt2 {a b c : Node} (h1 : cmpR a b ≤ 0) (h2 : cmpR b c < 0) : cmpR a c < 0 := by
  have h := (cmpR_TT a b c).2 h1 (by omega)
  rcases Int.lt_or_eq_of_le h.1 with h3 | h3
  · exact h3
  · have := (h.2 h3).2; omega
theorem cmp_eq {a b c : Node} (h1 : cmpR a b = 0) (h2 : cmpR b c = 0) : cmpR a c = 0 := (cmpR_TT a b c).1 h1 h2
theorem cmp_sym {a b : Node} (h : cmpR a b = 0) : cmpR b a = 0 := by rw [cmpR_neg, h]; rfl
theorem cmp_congr {a b : Node} (h : cmpR a b = 0) (c : Node) : (cmpR c a = 0 ↔ cmpR c b = 0) := ⟨fun h1 => cmp_eq h1 h, fun h1 => cmp_eq h1 (cmp_sym h)⟩
def Srt (l : List Mono) : Prop := l.Pairwise fun m k => cmpR m.monoAtom k.monoAtom < 0
def coefL : List Mono → Node → Int
  | [], _ => 0
  | m :: l, a => bif cmpR m.monoAtom a == 0 then m.monoCoef else coefL l a
theorem coefL_congr {a b : Node} (h : cmpR a b = 0) : ∀ l : List Mono, coefL l a = coefL l b
  | [] => rfl
  | m :: l => by
    have : (cmpR m.monoAtom a == 0) = (cmpR m.monoAtom b == 0) := by
      rw [Bool.eq_iff_iff, beq_iff_eq, beq_iff_eq]; exact cmp_congr h _
    rw [coefL, coefL, this, coefL_congr h l]
theorem coefL_none {a : Node} : ∀ {l : List Mono}, (∀ m ∈ l, cmpR m.monoAtom a ≠ 0) → coefL l a = 0
  | [], _ => rfl
  | m :: l, h => by
    have : (cmpR m.monoAtom a == 0) = false := beq_eq_false_iff_ne.2 (h m (by simp))
    rw [coefL, this, cond_false, coefL_none fun k hk => h k (by simp [hk])]
theorem coefL_head {m : Mono} {l : List Mono} {a : Node} (h : cmpR m.monoAtom a = 0) : coefL (m :: l) a = m.monoCoef := by
  have : (cmpR m.monoAtom a == 0) = true := beq_iff_eq.2 h
  rw [coefL, this, cond_true]
theorem coefL_tail {m : Mono} {l : List Mono} {a : Node} (h : cmpR m.monoAtom a ≠ 0) : coefL (m :: l) a = coefL l a := by
  have : (cmpR m.monoAtom a == 0) = false := beq_eq_false_iff_ne.2 h
  rw [coefL, this, cond_false]
theorem srt_above {m : Mono} {l : List Mono} (h : Srt (m :: l)) {a : Node} (ha : cmpR a m.monoAtom ≤ 0) : ∀ k ∈ l, cmpR k.monoAtom a ≠ 0 := by
  intro k hk e
  have h1 := (List.pairwise_cons.1 h).1 k hk
  have h2 := cmp_lt2 ha h1
  rw [cmpR_neg, e] at h2
  omega
theorem coefL_self : ∀ {l : List Mono}, Srt l → ∀ m ∈ l, coefL l m.monoAtom = m.monoCoef
  | k :: l, h, m, hm => by
    rcases List.mem_cons.1 hm with rfl | hm
    · exact coefL_head (cmpR_self _)
    · have h1 := (List.pairwise_cons.1 h).1 m hm
      rw [coefL_tail (by omega), coefL_self (List.pairwise_cons.1 h).2 m hm]
/-- a property that holds of 0 holds of all coefficients of the list iff it does of the coefficients of all atoms -/
theorem all_coef {p : Int → Bool} (h0 : p 0 = true) {l : List Mono} (h : Srt l) : (l.all fun m => p m.monoCoef) = true ↔ ∀ a, p (coefL l a) = true := by
  rw [List.all_eq_true]
  constructor
  · intro h1 a
    by_cases e : ∀ m ∈ l, cmpR m.monoAtom a ≠ 0
    · rw [coefL_none e, h0]
    · simp only [Classical.not_forall, Classical.not_not] at e
      obtain ⟨m, hm, e⟩ := e
      rw [← coefL_congr e, coefL_self h m hm]
      exact h1 m hm
  · intro h1 m hm
    have := h1 m.monoAtom
    rwa [coefL_self h m hm] at this
def eqM : List Mono → List Mono → Prop
  | [], [] => True
  | m :: l, k :: r => m.monoCoef = k.monoCoef ∧ cmpR m.monoAtom k.monoAtom = 0 ∧ eqM l r
  | _, _ => False
theorem eqM_of : ∀ {l r : List Mono}, Srt l → Srt r → (∀ m ∈ l, m.monoCoef ≠ 0) → (∀ m ∈ r, m.monoCoef ≠ 0) → (∀ a, coefL l a = coefL r a) → eqM l r
  | [], [], _, _, _, _, _ => trivial
  | [], k :: r, _, _, _, hr, h => by
    have := h k.monoAtom
    rw [coefL_head (cmpR_self _)] at this
    exact absurd this.symm (hr k (by simp))
  | m :: l, [], _, _, hl, _, h => by
    have := h m.monoAtom
    rw [coefL_head (cmpR_self _)] at this
    exact absurd this (hl m (by simp))
  | m :: l, k :: r, sl, sr, hl, hr, h => by
    have hm := h m.monoAtom
    have hk := h k.monoAtom
    rw [coefL_head (cmpR_self _)] at hm
    rw [coefL_head (m := k) (cmpR_self _)] at hk
    by_cases e : cmpR m.monoAtom k.monoAtom = 0
    · rw [coefL_head (cmp_sym e)] at hm
      refine ⟨hm, e, eqM_of (List.pairwise_cons.1 sl).2 (List.pairwise_cons.1 sr).2 (fun x hx => hl x (by simp [hx])) (fun x hx => hr x (by simp [hx])) fun a => ?_⟩
      by_cases ea : cmpR m.monoAtom a = 0
      · have ek : cmpR k.monoAtom a = 0 := cmp_eq (cmp_sym e) ea
        rw [coefL_none (srt_above sl (by rw [cmpR_neg, ea]; omega)), coefL_none (srt_above sr (by rw [cmpR_neg, ek]; omega))]
      · have ek : cmpR k.monoAtom a ≠ 0 := fun x => ea (cmp_eq e x)
        have := h a
        rwa [coefL_tail ea, coefL_tail ek] at this
    · rcases Int.lt_or_gt_of_ne e with e | e
      · have : coefL (k :: r) m.monoAtom = 0 := by
          refine coefL_none fun x hx => ?_
          rcases List.mem_cons.1 hx with rfl | hx
          · rw [cmpR_neg]; omega
          · exact srt_above sr (by omega) x hx
        rw [this] at hm
        exact absurd hm (hl m (by simp))
      · have e' : cmpR k.monoAtom m.monoAtom < 0 := by rw [cmpR_neg]; omega
        have : coefL (m :: l) k.monoAtom = 0 := by
          refine coefL_none fun x hx => ?_
          rcases List.mem_cons.1 hx with rfl | hx
          · omega
          · exact srt_above sl (by omega) x hx
        rw [this] at hk
        exact absurd hk.symm (hr k (by simp))
/-- without those of coefficient 0 -/
def nz (l : List Mono) : List Mono := l.filter fun m => !(m.monoCoef == 0)
theorem nz_srt {l : List Mono} (h : Srt l) : Srt (nz l) := List.Pairwise.filter _ h
theorem nz_ne {l : List Mono} : ∀ m ∈ nz l, m.monoCoef ≠ 0 := by
  intro m hm
  have := (List.mem_filter.1 hm).2
  simpa using this
theorem nz_coef : ∀ {l : List Mono}, Srt l → ∀ a, coefL (nz l) a = coefL l a
  | [], _, _ => rfl
  | m :: l, h, a => by
    have ih := nz_coef (List.pairwise_cons.1 h).2 a
    by_cases h0 : m.monoCoef = 0
    · have : nz (m :: l) = nz l := by simp [nz, h0]
      rw [this, ih]
      by_cases ea : cmpR m.monoAtom a = 0
      · rw [coefL_head ea, h0, coefL_none (srt_above h (by rw [cmpR_neg, ea]; omega))]
      · rw [coefL_tail ea]
    · have : nz (m :: l) = m :: nz l := by simp [nz, h0]
      rw [this, coefL, coefL, ih]
theorem nz_nz (l : List Mono) : nz (nz l) = nz l := by simp [nz]
/-- sums are told by their coefficients -/
theorem sums_eq {l r : List Mono} (sl : Srt l) (sr : Srt r) (h : ∀ a, coefL l a = coefL r a) : eqM (nz l) (nz r) :=
  eqM_of (nz_srt sl) (nz_srt sr) nz_ne nz_ne fun a => by rw [nz_coef sl, nz_coef sr, h]
/-- p times a list and q times another one -/
def mrg (p q : Int) : List Mono → List Mono → List Mono
  | [], bs => bs.map fun m => ⟨q * m.monoCoef, m.monoAtom⟩
  | a :: us, [] => (a :: us).map fun m => ⟨p * m.monoCoef, m.monoAtom⟩
  | a :: us, b :: bs =>
    if cmpR a.monoAtom b.monoAtom < 0 then ⟨p * a.monoCoef, a.monoAtom⟩ :: mrg p q us (b :: bs)
    else if cmpR a.monoAtom b.monoAtom = 0 then ⟨p * a.monoCoef + q * b.monoCoef, b.monoAtom⟩ :: mrg p q us bs
    else ⟨q * b.monoCoef, b.monoAtom⟩ :: mrg p q (a :: us) bs
termination_by us bs => us.length + bs.length
theorem map_coef (p : Int) (a : Node) : ∀ l : List Mono, coefL (l.map fun m => (⟨p * m.monoCoef, m.monoAtom⟩ : Mono)) a = p * coefL l a
  | [] => by simp [coefL]
  | m :: l => by
    rw [List.map_cons, coefL, coefL, map_coef p a l]
    cases cmpR m.monoAtom a == 0 <;> rfl
theorem map_srt (p : Int) {l : List Mono} (h : Srt l) : Srt (l.map fun m => (⟨p * m.monoCoef, m.monoAtom⟩ : Mono)) := by
  rw [Srt, List.pairwise_map]; exact h
theorem mrg_mem (p q : Int) : ∀ (us bs : List Mono), ∀ m ∈ mrg p q us bs, ∃ k, (k ∈ us ∨ k ∈ bs) ∧ m.monoAtom = k.monoAtom := by
  intro us bs
  induction us, bs using mrg.induct with
  | case1 bs =>
    intro m hm
    rw [mrg] at hm
    obtain ⟨k, hk, rfl⟩ := List.mem_map.1 hm
    exact ⟨k, .inr hk, rfl⟩
  | case2 a us =>
    intro m hm
    rw [mrg] at hm
    obtain ⟨k, hk, rfl⟩ := List.mem_map.1 hm
    exact ⟨k, .inl hk, rfl⟩
  | case3 a us b bs h ih =>
    intro m hm
    rw [mrg, if_pos h] at hm
    rcases List.mem_cons.1 hm with rfl | hm
    · exact ⟨a, by simp, rfl⟩
    · obtain ⟨k, hk, e⟩ := ih m hm
      exact ⟨k, by rcases hk with hk | hk <;> simp_all, e⟩
  | case4 a us b bs h h2 ih =>
    intro m hm
    rw [mrg, if_neg h, if_pos h2] at hm
    rcases List.mem_cons.1 hm with rfl | hm
    · exact ⟨b, by simp, rfl⟩
    · obtain ⟨k, hk, e⟩ := ih m hm
      exact ⟨k, by rcases hk with hk | hk <;> simp_all, e⟩
  | case5 a us b bs h h2 ih =>
    intro m hm
    rw [mrg, if_neg h, if_neg h2] at hm
    rcases List.mem_cons.1 hm with rfl | hm
    · exact ⟨b, by simp, rfl⟩
    · obtain ⟨k, hk, e⟩ := ih m hm
      exact ⟨k, by rcases hk with hk | hk <;> simp_all, e⟩
theorem mrg_srt (p q : Int) : ∀ (us bs : List Mono), Srt us → Srt bs → Srt (mrg p q us bs) := by
  intro us bs
  induction us, bs using mrg.induct with
  | case1 bs => intro _ h; rw [mrg]; exact map_srt q h
  | case2 a us => intro h _; rw [mrg]; exact map_srt p h
  | case3 a us b bs h ih =>
    intro ha hb
    rw [mrg, if_pos h]
    refine List.pairwise_cons.2 ⟨fun m hm => ?_, ih (List.pairwise_cons.1 ha).2 hb⟩
    obtain ⟨k, hk, e⟩ := mrg_mem p q _ _ m hm
    rw [e]
    show cmpR a.monoAtom _ < 0
    rcases hk with hk | hk
    · exact (List.pairwise_cons.1 ha).1 k hk
    · rcases List.mem_cons.1 hk with rfl | hk
      · exact h
      · exact cmp_lt2 (by omega) ((List.pairwise_cons.1 hb).1 k hk)
  | case4 a us b bs h h2 ih =>
    intro ha hb
    rw [mrg, if_neg h, if_pos h2]
    refine List.pairwise_cons.2 ⟨fun m hm => ?_, ih (List.pairwise_cons.1 ha).2 (List.pairwise_cons.1 hb).2⟩
    obtain ⟨k, hk, e⟩ := mrg_mem p q _ _ m hm
    rw [e]
    show cmpR b.monoAtom _ < 0
    rcases hk with hk | hk
    · exact cmp_lt2 (by rw [cmp_sym h2]; omega) ((List.pairwise_cons.1 ha).1 k hk)
    · exact (List.pairwise_cons.1 hb).1 k hk
  | case5 a us b bs h h2 ih =>
    intro ha hb
    rw [mrg, if_neg h, if_neg h2]
    refine List.pairwise_cons.2 ⟨fun m hm => ?_, ih ha (List.pairwise_cons.1 hb).2⟩
    have hba : cmpR b.monoAtom a.monoAtom < 0 := by rw [cmpR_neg]; omega
    obtain ⟨k, hk, e⟩ := mrg_mem p q _ _ m hm
    rw [e]
    show cmpR b.monoAtom _ < 0
    rcases hk with hk | hk
    · rcases List.mem_cons.1 hk with rfl | hk
      · exact hba
      · exact cmp_lt2 (by omega) ((List.pairwise_cons.1 ha).1 k hk)
    · exact (List.pairwise_cons.1 hb).1 k hk
theorem mrg_coef (p q : Int) (x : Node) : ∀ (us bs : List Mono), Srt us → Srt bs → coefL (mrg p q us bs) x = p * coefL us x + q * coefL bs x := by
  intro us bs
  induction us, bs using mrg.induct with
  | case1 bs => intro _ _; rw [mrg, map_coef]; simp [coefL]
  | case2 a us => intro _ _; rw [mrg, map_coef]; simp [coefL]
  | case3 a us b bs h ih =>
    intro ha hb
    rw [mrg, if_pos h]
    by_cases e : cmpR a.monoAtom x = 0
    · have hbx : coefL (b :: bs) x = 0 := by
        refine coefL_none fun k hk => ?_
        have hxa : cmpR x a.monoAtom = 0 := cmp_sym e
        have hxb : cmpR x b.monoAtom < 0 := cmp_lt2 (by omega) h
        rcases List.mem_cons.1 hk with rfl | hk
        · rw [cmpR_neg]; omega
        · exact srt_above hb (by omega) k hk
      rw [coefL_head (m := ⟨p * a.monoCoef, a.monoAtom⟩) e, coefL_head (m := a) e, hbx]; simp
    · rw [coefL_tail (m := ⟨p * a.monoCoef, a.monoAtom⟩) e, coefL_tail (m := a) e]
      exact ih (List.pairwise_cons.1 ha).2 hb
  | case4 a us b bs h h2 ih =>
    intro ha hb
    rw [mrg, if_neg h, if_pos h2]
    by_cases e : cmpR b.monoAtom x = 0
    · rw [coefL_head (m := ⟨p * a.monoCoef + q * b.monoCoef, b.monoAtom⟩) e, coefL_head (m := a) (cmp_eq h2 e), coefL_head (m := b) e]
    · have e2 : cmpR a.monoAtom x ≠ 0 := fun y => e (cmp_eq (cmp_sym h2) y)
      rw [coefL_tail (m := ⟨p * a.monoCoef + q * b.monoCoef, b.monoAtom⟩) e, coefL_tail (m := a) e2, coefL_tail (m := b) e]
      exact ih (List.pairwise_cons.1 ha).2 (List.pairwise_cons.1 hb).2
  | case5 a us b bs h h2 ih =>
    intro ha hb
    rw [mrg, if_neg h, if_neg h2]
    have hba : cmpR b.monoAtom a.monoAtom < 0 := by rw [cmpR_neg]; omega
    by_cases e : cmpR b.monoAtom x = 0
    · have hax : coefL (a :: us) x = 0 := by
        refine coefL_none fun k hk => ?_
        have hxb : cmpR x b.monoAtom = 0 := cmp_sym e
        have hxa : cmpR x a.monoAtom < 0 := cmp_lt2 (by omega) hba
        rcases List.mem_cons.1 hk with rfl | hk
        · rw [cmpR_neg]; omega
        · exact srt_above ha (by omega) k hk
      rw [coefL_head (m := ⟨q * b.monoCoef, b.monoAtom⟩) e, coefL_head (m := b) e, hax]; simp
    · rw [coefL_tail (m := ⟨q * b.monoCoef, b.monoAtom⟩) e, coefL_tail (m := b) e]
      exact ih ha (List.pairwise_cons.1 hb).2
end Go.Abs.Try
/-! Numbers of 128 bits by parts of 32 bits. -/
namespace Go.Abs
theorem wd_hi (a b c d : Nat) : (a * 18446744073709551616 + (b + c) * 4294967296 + d) / 18446744073709551616 = a + (b + d / 4294967296) / 4294967296 + ((b + d / 4294967296) % 4294967296 + c) / 4294967296 := by omega
theorem wd_lo (a b c d : Nat) : (a * 18446744073709551616 + (b + c) * 4294967296 + d) % 18446744073709551616 = (((b + d / 4294967296) % 4294967296 + c) % 4294967296) * 4294967296 + d % 4294967296 := by omega
theorem wd_mul (x1 x0 y1 y0 : Nat) : (x1 * 4294967296 + x0) * (y1 * 4294967296 + y0) = (x1 * y1) * 18446744073709551616 + (x1 * y0 + x0 * y1) * 4294967296 + x0 * y0 := by
  have e : (18446744073709551616 : Nat) = 4294967296 * 4294967296 := rfl
  rw [e, Nat.add_mul, Nat.mul_add, Nat.mul_add, Nat.add_mul]
  have h1 : x1 * 4294967296 * (y1 * 4294967296) = x1 * y1 * (4294967296 * 4294967296) := by rw [Nat.mul_mul_mul_comm]
  have h2 : x1 * 4294967296 * y0 = x1 * y0 * 4294967296 := by rw [Nat.mul_assoc, Nat.mul_comm 4294967296, ← Nat.mul_assoc]
  have h3 : x0 * (y1 * 4294967296) = x0 * y1 * 4294967296 := by rw [Nat.mul_assoc]
  rw [h1, h2, h3]
  omega
theorem wd_split (x : Nat) : x = x / 4294967296 * 4294967296 + x % 4294967296 := by omega
/-- The product of two numbers of 64 bits, by parts. -/
theorem wd_prod (x y : Nat) : x * y = (x / 4294967296 * (y / 4294967296)) * 18446744073709551616 + (x / 4294967296 * (y % 4294967296) + x % 4294967296 * (y / 4294967296)) * 4294967296 + x % 4294967296 * (y % 4294967296) := by
  have h := wd_mul (x / 4294967296) (x % 4294967296) (y / 4294967296) (y % 4294967296)
  rw [← wd_split, ← wd_split] at h
  exact h
theorem wd_bound {x y : Nat} (hx : x < 4294967296) (hy : y < 4294967296) : x * y ≤ 18446744065119617025 := Nat.mul_le_mul (show x ≤ 4294967295 by omega) (show y ≤ 4294967295 by omega)
end Go.Abs
namespace Go.Abs.Try
set_option linter.unusedSimpArgs false
set_option maxRecDepth 100000
theorem pow32 : ((2 : Int) ^ (min (32 : Int).toNat (IntKind.u64).bits)) = 4294967296 := by decide
theorem shr32 (n : Int) : (n.fdiv (2 ^ (min (32 : Int).toNat (IntKind.u64).bits))) = n / 4294967296 := by
  rw [pow32, Int.fdiv_eq_ediv_of_nonneg _ (by omega)]
theorem and32 (n : Int) : (((BitVec.ofInt (IntKind.u64).bits n &&& BitVec.ofInt (IntKind.u64).bits 4294967295).toNat : Nat) : Int) = n % 4294967296 := by
  have h1 : (BitVec.ofInt (IntKind.u64).bits n).toNat = (n % 18446744073709551616).toNat := by
    rw [BitVec.toNat_ofInt]
    rfl
  have h2 : (BitVec.ofInt (IntKind.u64).bits 4294967295).toNat = 2 ^ 32 - 1 := by decide
  rw [BitVec.toNat_and, h1, h2, Nat.and_two_pow_sub_one_eq_mod]
  omega
theorem wrapU (n : Int) : IntKind.u64.wrap n = n % 18446744073709551616 := by
  have e1 : (2 : Int) ^ 64 = 18446744073709551616 := by decide
  simp only [IntKind.wrap, IntKind.bits, IntKind.signed, e1, Bool.false_and, Bool.false_eq_true, if_false]
theorem mul161 (x y : Nat) (hx : x < 18446744073709551616) (hy : y < 18446744073709551616) : F161 x y = some (((x * y / 18446744073709551616 : Nat) : Int), ((x * y % 18446744073709551616 : Nat) : Int)) := by
  have ex1 : (x : Int) / 4294967296 = ((x / 4294967296 : Nat) : Int) := by omega
  have ex0 : (x : Int) % 4294967296 = ((x % 4294967296 : Nat) : Int) := by omega
  have ey1 : (y : Int) / 4294967296 = ((y / 4294967296 : Nat) : Int) := by omega
  have ey0 : (y : Int) % 4294967296 = ((y % 4294967296 : Nat) : Int) := by omega
  have fx0 : ((x % 4294967296 : Nat) : Int) % 18446744073709551616 = ((x % 4294967296 : Nat) : Int) := by omega
  have fy0 : ((y % 4294967296 : Nat) : Int) % 18446744073709551616 = ((y % 4294967296 : Nat) : Int) := by omega
  have hp := wd_prod x y
  have ha := wd_bound (show x / 4294967296 < 4294967296 by omega) (show y / 4294967296 < 4294967296 by omega)
  have hb := wd_bound (show x / 4294967296 < 4294967296 by omega) (show y % 4294967296 < 4294967296 by omega)
  have hc := wd_bound (show x % 4294967296 < 4294967296 by omega) (show y / 4294967296 < 4294967296 by omega)
  have hd := wd_bound (show x % 4294967296 < 4294967296 by omega) (show y % 4294967296 < 4294967296 by omega)
  simp only [F161, shr32, and32, wrapU, ex1, ex0, ey1, ey0, fx0, fy0, ← Int.natCast_mul]
  rw [hp]
  generalize x / 4294967296 * (y / 4294967296) = a at *
  generalize x / 4294967296 * (y % 4294967296) = b at *
  generalize x % 4294967296 * (y / 4294967296) = c at *
  generalize x % 4294967296 * (y % 4294967296) = d at *
  congr 2 <;> omega
end Go.Abs.Try
namespace Go.Abs.Try
set_option linter.unusedSimpArgs false
set_option maxRecDepth 100000
/-- a number of 128 bits in its two halves -/
def packS (v : Int) : LinearSum := ⟨v / 18446744073709551616, v % 18446744073709551616⟩
theorem wrapI (n : Int) (h : -9223372036854775808 ≤ n ∧ n < 27670116110564327424) : IntKind.i64.wrap n = if n ≥ 9223372036854775808 then n - 18446744073709551616 else n := by
  have e1 : (2 : Int) ^ 64 = 18446744073709551616 := by decide
  have e2 : (2 : Int) ^ 63 = 9223372036854775808 := by decide
  simp only [IntKind.wrap, IntKind.bits, IntKind.signed, e1, Bool.true_and, Nat.reduceSub, e2, decide_eq_true_eq, ge_iff_le]
  split <;> split <;> omega
theorem add162 (x y c : Int) (hx : 0 ≤ x) (hy : 0 ≤ y) (hc : 0 ≤ c ∧ c ≤ 1) : F162 x y c = some ((x + y + c) % 18446744073709551616, (x + y + c) / 18446744073709551616) := by
  rw [F162, decide_eq_true ⟨hx, hy, hc.1, hc.2⟩, iteO_true]
theorem mulU (a b : Int) (ha : -9223372036854775808 ≤ a ∧ a < 9223372036854775808) (hb : -9223372036854775808 ≤ b ∧ b < 9223372036854775808) :
    ∃ h l : Int, F161 (IntKind.u64.wrap a) (IntKind.u64.wrap b) = some (h, l) ∧ 0 ≤ h ∧ h < 18446744073709551616 ∧ l = (a * b) % 18446744073709551616 ∧
      (h - (if a < 0 then b % 18446744073709551616 else 0) - (if b < 0 then a % 18446744073709551616 else 0)) % 18446744073709551616 = ((a * b) / 18446744073709551616) % 18446744073709551616 := by
  obtain ⟨x, hx⟩ : ∃ x : Nat, (x : Int) = a % 18446744073709551616 := ⟨(a % 18446744073709551616).toNat, by omega⟩
  obtain ⟨y, hy⟩ : ∃ y : Nat, (y : Int) = b % 18446744073709551616 := ⟨(b % 18446744073709551616).toNat, by omega⟩
  have hm := mul161 x y (by omega) (by omega)
  have hlt : x * y / 18446744073709551616 < 18446744073709551616 := by
    have h1 : x * y ≤ 18446744073709551615 * 18446744073709551615 := Nat.mul_le_mul (show x ≤ 18446744073709551615 by omega) (show y ≤ 18446744073709551615 by omega)
    omega
  refine ⟨((x * y / 18446744073709551616 : Nat) : Int), ((x * y % 18446744073709551616 : Nat) : Int), by rw [wrapU, wrapU, ← hx, ← hy, hm], by omega, by omega, ?_⟩
  have hc : ((x * y : Nat) : Int) = (x : Int) * (y : Int) := by simp
  have key : ∃ P : Int, a * b = P ∧ ((x * y : Nat) : Int) = P + (if a < 0 then 18446744073709551616 * b else 0) + (if b < 0 then 18446744073709551616 * a else 0) + (if a < 0 then (if b < 0 then 340282366920938463463374607431768211456 else 0) else 0) := by
    refine ⟨a * b, rfl, ?_⟩
    rw [hc]
    by_cases h1 : a < 0
    · have ex : (x : Int) = a + 18446744073709551616 := by omega
      by_cases h2 : b < 0
      · have ey : (y : Int) = b + 18446744073709551616 := by omega
        rw [ex, ey, if_pos h1, if_pos h2, if_pos h1, if_pos h2, Int.add_mul, Int.mul_add]
        omega
      · have ey : (y : Int) = b := by omega
        rw [ex, ey, if_pos h1, if_neg h2, if_pos h1, if_neg h2, Int.add_mul]
        omega
    · have ex : (x : Int) = a := by omega
      by_cases h2 : b < 0
      · have ey : (y : Int) = b + 18446744073709551616 := by omega
        rw [ex, ey, if_neg h1, if_pos h2, if_neg h1, Int.mul_add]
        omega
      · have ey : (y : Int) = b := by omega
        rw [ex, ey, if_neg h1, if_neg h2, if_neg h1]
        omega
  obtain ⟨P, hP, hk⟩ := key
  rw [hP]
  generalize x * y = q at *
  constructor
  · by_cases h1 : a < 0 <;> by_cases h2 : b < 0 <;> simp only [h1, h2, if_true, if_false] at hk <;> omega
  · by_cases h1 : a < 0 <;> by_cases h2 : b < 0 <;> simp only [h1, h2, if_true, if_false] at hk ⊢ <;> omega
end Go.Abs.Try
namespace Go.Abs.Try
set_option linter.unusedSimpArgs false
set_option maxRecDepth 100000
/-- a sum that fits into 128 bits is exact -/
theorem plus128 (v a b : Int) (ha : -9223372036854775808 ≤ a ∧ a < 9223372036854775808) (hb : -9223372036854775808 ≤ b ∧ b < 9223372036854775808)
    (_hv : -170141183460469231731687303715884105728 ≤ v ∧ v < 170141183460469231731687303715884105728)
    (hs : -170141183460469231731687303715884105728 ≤ v + a * b ∧ v + a * b < 170141183460469231731687303715884105728) : F128 (packS v) a b = some (packS (v + a * b)) := by
  obtain ⟨h, l, hm, h0, h1, hl, hh⟩ := mulU a b ha hb
  generalize a * b = P at *
  have c0 : (0 : Int) ≤ 0 ∧ (0 : Int) ≤ 1 := by omega
  simp only [F128, hm, bindO_some, packS]
  have a1 := add162 (v % 18446744073709551616) l 0 (by omega) (by omega) c0
  rw [a1]
  simp only [bindO_some, wrapU]
  have fin : ∀ H : Int, 0 ≤ H → H < 18446744073709551616 → H = (P / 18446744073709551616) % 18446744073709551616 →
      (bindO (F162 (v / 18446744073709551616 % 18446744073709551616) H ((v % 18446744073709551616 + l + 0) / 18446744073709551616)) fun r3 => some (⟨IntKind.i64.wrap r3.1, (v % 18446744073709551616 + l + 0) % 18446744073709551616⟩ : LinearSum)) = some ⟨(v + P) / 18446744073709551616, (v + P) % 18446744073709551616⟩ := by
    intro H hH0 hH1 hH
    rw [add162 _ _ _ (by omega) hH0 (by omega)]
    simp only [bindO_some]
    rw [wrapI _ (by omega)]
    congr 2
    · split <;> omega
    · omega
  by_cases ha0 : a < 0
  · by_cases hb0 : b < 0
    · rw [decide_eq_true ha0, decide_eq_true hb0]
      simp only [iteO_true]
      rw [if_pos ha0, if_pos hb0] at hh
      exact fin _ (by omega) (by omega) (by omega)
    · rw [decide_eq_true ha0, decide_eq_false hb0]
      simp only [iteO_true, iteO_false]
      rw [if_pos ha0, if_neg hb0] at hh
      exact fin _ (by omega) (by omega) (by omega)
  · by_cases hb0 : b < 0
    · rw [decide_eq_false ha0, decide_eq_true hb0]
      simp only [iteO_true, iteO_false]
      rw [if_neg ha0, if_pos hb0] at hh
      exact fin _ (by omega) (by omega) (by omega)
    · rw [decide_eq_false ha0, decide_eq_false hb0]
      simp only [iteO_false]
      rw [if_neg ha0, if_neg hb0] at hh
      exact fin _ (by omega) (by omega) (by omega)
end Go.Abs.Try
namespace Go.Abs.Try
set_option linter.unusedSimpArgs false
set_option maxRecDepth 100000
def fitsW (x : Int) : Bool := decide (x ≥ (-9007199254740992)) && decide (x ≤ 9007199254740992)
theorem fitsW112 (x : Int) : F112 x = some (fitsW x) := by
  simp only [F112, fitsW]
  cases decide (x ≥ (-9007199254740992)) <;> rfl
/-- what a sum says as a number of a form: too great ones are told -/
theorem number129 (v : Int) (hv : -170141183460469231731687303715884105728 ≤ v ∧ v < 170141183460469231731687303715884105728) :
    ∃ n, F129 (packS v) = some (n, fitsW v) ∧ (fitsW v = true → n = v) := by
  have hx := wrapI (v % 18446744073709551616) (by omega)
  simp only [F129, packS, fitsW112, bindO_some, hx]
  generalize hX : (if v % 18446744073709551616 ≥ 9223372036854775808 then v % 18446744073709551616 - 18446744073709551616 else v % 18446744073709551616) = X
  have hXr : X = v % 18446744073709551616 ∧ X < 9223372036854775808 ∨ X = v % 18446744073709551616 - 18446744073709551616 ∧ v % 18446744073709551616 ≥ 9223372036854775808 := by
    rw [← hX]; split <;> omega
  have far : ¬ (-9223372036854775808 ≤ v ∧ v < 9223372036854775808) → fitsW v = false := by
    intro h
    simp only [fitsW, Bool.and_eq_false_iff, decide_eq_false_iff_not]
    omega
  by_cases hin : -9223372036854775808 ≤ v ∧ v < 9223372036854775808
  · have hXv : X = v := by omega
    rw [hXv]
    by_cases hn : v < 0
    · have e1 : (v / 18446744073709551616 == -1) = true := beq_iff_eq.2 (by omega)
      have e2 : decide (v ≥ 0) = false := decide_eq_false (by omega)
      rw [decide_eq_true hn, e1, e2]
      exact ⟨v, rfl, fun _ => rfl⟩
    · have e1 : (v / 18446744073709551616 == 0) = true := beq_iff_eq.2 (by omega)
      have e2 : decide (v ≥ 0) = true := decide_eq_true (by omega)
      rw [decide_eq_false hn, e1, e2]
      exact ⟨v, rfl, fun _ => rfl⟩
  · rw [far hin]
    refine ⟨0, ?_, fun h => by cases h⟩
    by_cases hn : X < 0
    · have e1 : (v / 18446744073709551616 == -1) = false := beq_eq_false_iff_ne.2 (by omega)
      rw [decide_eq_true hn, e1]; rfl
    · have e1 : (v / 18446744073709551616 == 0) = false := beq_eq_false_iff_ne.2 (by omega)
      have e2 : decide (X ≥ 0) = true := decide_eq_true (by omega)
      rw [decide_eq_false hn, e1, e2]; rfl
end Go.Abs.Try
