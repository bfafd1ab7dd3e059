import Derived.Test.YtjjajifecniidaaRD
/-! Numbers of 128 bits by parts of 32 bits. -/
namespace Go.Abs
theorem wd_hi (a b c d : Nat) : (a * 18446744073709551616 + (b + c) * 4294967296 + d) / 18446744073709551616 = a + (b + d / 4294967296) / 4294967296 + ((b + d / 4294967296) % 4294967296 + c) / 4294967296 := by omega
theorem wd_lo (a b c d : Nat) : (a * 18446744073709551616 + (b + c) * 4294967296 + d) % 18446744073709551616 = (((b + d / 4294967296) % 4294967296 + c) % 4294967296) * 4294967296 + d % 4294967296 := by omega
theorem wd_mul (x1 x0 y1 y0 : Nat) : (x1 * 4294967296 + x0) * (y1 * 4294967296 + y0) = (x1 * y1) * 18446744073709551616 + (x1 * y0 + x0 * y1) * 4294967296 + x0 * y0 := by
  have e : (18446744073709551616 : Nat) = 4294967296 * 4294967296 := rfl
  rw [e, Nat.add_mul, Nat.mul_add, Nat.mul_add, Nat.add_mul]
  have h1 : x1 * 4294967296 * (y1 * 4294967296) = x1 * y1 * (4294967296 * 4294967296) := by rw [Nat.mul_mul_mul_comm]
  have h2 : x1 * 4294967296 * y0 = x1 * y0 * 4294967296 := by rw [Nat.mul_assoc, Nat.mul_comm 4294967296, ← Nat.mul_assoc]
  have h3 : x0 * (y1 * 4294967296) = x0 * y1 * 4294967296 := by rw [Nat.mul_assoc]
  rw [h1, h2, h3]
  omega
theorem wd_split (x : Nat) : x = x / 4294967296 * 4294967296 + x % 4294967296 := by omega
/-- The product of two numbers of 64 bits, by parts. -/
theorem wd_prod (x y : Nat) : x * y = (x / 4294967296 * (y / 4294967296)) * 18446744073709551616 + (x / 4294967296 * (y % 4294967296) + x % 4294967296 * (y / 4294967296)) * 4294967296 + x % 4294967296 * (y % 4294967296) := by
  have h := wd_mul (x / 4294967296) (x % 4294967296) (y / 4294967296) (y % 4294967296)
  rw [← wd_split, ← wd_split] at h
  exact h
theorem wd_bound {x y : Nat} (hx : x < 4294967296) (hy : y < 4294967296) : x * y ≤ 18446744065119617025 := Nat.mul_le_mul (show x ≤ 4294967295 by omega) (show y ≤ 4294967295 by omega)
end Go.Abs
namespace Go.Abs.Try
set_option linter.unusedSimpArgs false
set_option maxRecDepth 100000
theorem pow32 : ((2 : Int) ^ (min (32 : Int).toNat (IntKind.u64).bits)) = 4294967296 := by decide
theorem shr32 (n : Int) : (n.fdiv (2 ^ (min (32 : Int).toNat (IntKind.u64).bits))) = n / 4294967296 := by
  rw [pow32, Int.fdiv_eq_ediv_of_nonneg _ (by omega)]
theorem and32 (n : Int) : (((BitVec.ofInt (IntKind.u64).bits n &&& BitVec.ofInt (IntKind.u64).bits 4294967295).toNat : Nat) : Int) = n % 4294967296 := by
  have h1 : (BitVec.ofInt (IntKind.u64).bits n).toNat = (n % 18446744073709551616).toNat := by
    rw [BitVec.toNat_ofInt]
    rfl
  have h2 : (BitVec.ofInt (IntKind.u64).bits 4294967295).toNat = 2 ^ 32 - 1 := by decide
  rw [BitVec.toNat_and, h1, h2, Nat.and_two_pow_sub_one_eq_mod]
  omega
theorem wrapU (n : Int) : IntKind.u64.wrap n = n % 18446744073709551616 := by
  have e1 : (2 : Int) ^ 64 = 18446744073709551616 := by decide
  simp only [IntKind.wrap, IntKind.bits, IntKind.signed, e1, Bool.false_and, Bool.false_eq_true, if_false]
theorem mul161 (x y : Nat) (hx : x < 18446744073709551616) (hy : y < 18446744073709551616) : F161 x y = some (((x * y / 18446744073709551616 : Nat) : Int), ((x * y % 18446744073709551616 : Nat) : Int)) := by
  have ex1 : (x : Int) / 4294967296 = ((x / 4294967296 : Nat) : Int) := by omega
  have ex0 : (x : Int) % 4294967296 = ((x % 4294967296 : Nat) : Int) := by omega
  have ey1 : (y : Int) / 4294967296 = ((y / 4294967296 : Nat) : Int) := by omega
  have ey0 : (y : Int) % 4294967296 = ((y % 4294967296 : Nat) : Int) := by omega
  have fx0 : ((x % 4294967296 : Nat) : Int) % 18446744073709551616 = ((x % 4294967296 : Nat) : Int) := by omega
  have fy0 : ((y % 4294967296 : Nat) : Int) % 18446744073709551616 = ((y % 4294967296 : Nat) : Int) := by omega
  have hp := wd_prod x y
  have ha := wd_bound (show x / 4294967296 < 4294967296 by omega) (show y / 4294967296 < 4294967296 by omega)
  have hb := wd_bound (show x / 4294967296 < 4294967296 by omega) (show y % 4294967296 < 4294967296 by omega)
  have hc := wd_bound (show x % 4294967296 < 4294967296 by omega) (show y / 4294967296 < 4294967296 by omega)
  have hd := wd_bound (show x % 4294967296 < 4294967296 by omega) (show y % 4294967296 < 4294967296 by omega)
  simp only [F161, shr32, and32, wrapU, ex1, ex0, ey1, ey0, fx0, fy0, ← Int.natCast_mul]
  rw [hp]
  generalize x / 4294967296 * (y / 4294967296) = a at *
  generalize x / 4294967296 * (y % 4294967296) = b at *
  generalize x % 4294967296 * (y / 4294967296) = c at *
  generalize x % 4294967296 * (y % 4294967296) = d at *
  congr 2 <;> omega
end Go.Abs.Try
namespace Go.Abs.Try
set_option linter.unusedSimpArgs false
set_option maxRecDepth 100000
/-- a number of 128 bits in its two halves -/
def packS (v : Int) : LinearSum := ⟨v / 18446744073709551616, v % 18446744073709551616⟩
theorem wrapI (n : Int) (h : -9223372036854775808 ≤ n ∧ n < 27670116110564327424) : IntKind.i64.wrap n = if n ≥ 9223372036854775808 then n - 18446744073709551616 else n := by
  have e1 : (2 : Int) ^ 64 = 18446744073709551616 := by decide
  have e2 : (2 : Int) ^ 63 = 9223372036854775808 := by decide
  simp only [IntKind.wrap, IntKind.bits, IntKind.signed, e1, Bool.true_and, Nat.reduceSub, e2, decide_eq_true_eq, ge_iff_le]
  split <;> split <;> omega
theorem add162 (x y c : Int) (hx : 0 ≤ x) (hy : 0 ≤ y) (hc : 0 ≤ c ∧ c ≤ 1) : F162 x y c = some ((x + y + c) % 18446744073709551616, (x + y + c) / 18446744073709551616) := by
  rw [F162, decide_eq_true ⟨hx, hy, hc.1, hc.2⟩, iteO_true]
theorem mulU (a b : Int) (ha : -9223372036854775808 ≤ a ∧ a < 9223372036854775808) (hb : -9223372036854775808 ≤ b ∧ b < 9223372036854775808) :
    ∃ h l : Int, F161 (IntKind.u64.wrap a) (IntKind.u64.wrap b) = some (h, l) ∧ 0 ≤ h ∧ h < 18446744073709551616 ∧ l = (a * b) % 18446744073709551616 ∧
      (h - (if a < 0 then b % 18446744073709551616 else 0) - (if b < 0 then a % 18446744073709551616 else 0)) % 18446744073709551616 = ((a * b) / 18446744073709551616) % 18446744073709551616 := by
  obtain ⟨x, hx⟩ : ∃ x : Nat, (x : Int) = a % 18446744073709551616 := ⟨(a % 18446744073709551616).toNat, by omega⟩
  obtain ⟨y, hy⟩ : ∃ y : Nat, (y : Int) = b % 18446744073709551616 := ⟨(b % 18446744073709551616).toNat, by omega⟩
  have hm := mul161 x y (by omega) (by omega)
  have hlt : x * y / 18446744073709551616 < 18446744073709551616 := by
    have h1 : x * y ≤ 18446744073709551615 * 18446744073709551615 := Nat.mul_le_mul (show x ≤ 18446744073709551615 by omega) (show y ≤ 18446744073709551615 by omega)
    omega
  refine ⟨((x * y / 18446744073709551616 : Nat) : Int), ((x * y % 18446744073709551616 : Nat) : Int), by rw [wrapU, wrapU, ← hx, ← hy, hm], by omega, by omega, ?_⟩
  have hc : ((x * y : Nat) : Int) = (x : Int) * (y : Int) := by simp
  have key : ∃ P : Int, a * b = P ∧ ((x * y : Nat) : Int) = P + (if a < 0 then 18446744073709551616 * b else 0) + (if b < 0 then 18446744073709551616 * a else 0) + (if a < 0 then (if b < 0 then 340282366920938463463374607431768211456 else 0) else 0) := by
    refine ⟨a * b, rfl, ?_⟩
    rw [hc]
    by_cases h1 : a < 0
    · have ex : (x : Int) = a + 18446744073709551616 := by omega
      by_cases h2 : b < 0
      · have ey : (y : Int) = b + 18446744073709551616 := by omega
        rw [ex, ey, if_pos h1, if_pos h2, if_pos h1, if_pos h2, Int.add_mul, Int.mul_add]
        omega
      · have ey : (y : Int) = b := by omega
        rw [ex, ey, if_pos h1, if_neg h2, if_pos h1, if_neg h2, Int.add_mul]
        omega
    · have ex : (x : Int) = a := by omega
      by_cases h2 : b < 0
      · have ey : (y : Int) = b + 18446744073709551616 := by omega
        rw [ex, ey, if_neg h1, if_pos h2, if_neg h1, Int.mul_add]
        omega
      · have ey : (y : Int) = b := by omega
        rw [ex, ey, if_neg h1, if_neg h2, if_neg h1]
        omega
  obtain ⟨P, hP, hk⟩ := key
  rw [hP]
  generalize x * y = q at *
  constructor
  · by_cases h1 : a < 0 <;> by_cases h2 : b < 0 <;> simp only [h1, h2, if_true, if_false] at hk <;> omega
  · by_cases h1 : a < 0 <;> by_cases h2 : b < 0 <;> simp only [h1, h2, if_true, if_false] at hk ⊢ <;> omega
end Go.Abs.Try
namespace Go.Abs.Try
set_option linter.unusedSimpArgs false
set_option maxRecDepth 100000
/-- a sum that fits into 128 bits is exact -/
theorem plus128 (v a b : Int) (ha : -9223372036854775808 ≤ a ∧ a < 9223372036854775808) (hb : -9223372036854775808 ≤ b ∧ b < 9223372036854775808)
    (_hv : -170141183460469231731687303715884105728 ≤ v ∧ v < 170141183460469231731687303715884105728)
    (hs : -170141183460469231731687303715884105728 ≤ v + a * b ∧ v + a * b < 170141183460469231731687303715884105728) : F128 (packS v) a b = some (packS (v + a * b)) := by
  obtain ⟨h, l, hm, h0, h1, hl, hh⟩ := mulU a b ha hb
  generalize a * b = P at *
  have c0 : (0 : Int) ≤ 0 ∧ (0 : Int) ≤ 1 := by omega
  simp only [F128, hm, bindO_some, packS]
  have a1 := add162 (v % 18446744073709551616) l 0 (by omega) (by omega) c0
  rw [a1]
  simp only [bindO_some, wrapU]
  have fin : ∀ H : Int, 0 ≤ H → H < 18446744073709551616 → H = (P / 18446744073709551616) % 18446744073709551616 →
      (bindO (F162 (v / 18446744073709551616 % 18446744073709551616) H ((v % 18446744073709551616 + l + 0) / 18446744073709551616)) fun r3 => some (⟨IntKind.i64.wrap r3.1, (v % 18446744073709551616 + l + 0) % 18446744073709551616⟩ : LinearSum)) = some ⟨(v + P) / 18446744073709551616, (v + P) % 18446744073709551616⟩ := by
    intro H hH0 hH1 hH
    rw [add162 _ _ _ (by omega) hH0 (by omega)]
    simp only [bindO_some]
    rw [wrapI _ (by omega)]
    congr 2
    · split <;> omega
    · omega
  by_cases ha0 : a < 0
  · by_cases hb0 : b < 0
    · rw [decide_eq_true ha0, decide_eq_true hb0]
      simp only [iteO_true]
      rw [if_pos ha0, if_pos hb0] at hh
      exact fin _ (by omega) (by omega) (by omega)
    · rw [decide_eq_true ha0, decide_eq_false hb0]
      simp only [iteO_true, iteO_false]
      rw [if_pos ha0, if_neg hb0] at hh
      exact fin _ (by omega) (by omega) (by omega)
  · by_cases hb0 : b < 0
    · rw [decide_eq_false ha0, decide_eq_true hb0]
      simp only [iteO_true, iteO_false]
      rw [if_neg ha0, if_pos hb0] at hh
      exact fin _ (by omega) (by omega) (by omega)
    · rw [decide_eq_false ha0, decide_eq_false hb0]
      simp only [iteO_false]
      rw [if_neg ha0, if_neg hb0] at hh
      exact fin _ (by omega) (by omega) (by omega)
end Go.Abs.Try
namespace Go.Abs.Try
set_option linter.unusedSimpArgs false
set_option maxRecDepth 100000
def fitsW (x : Int) : Bool := decide (x ≥ (-9007199254740992)) && decide (x ≤ 9007199254740992)
theorem fitsW112 (x : Int) : F112 x = some (fitsW x) := by
  simp only [F112, fitsW]
  cases decide (x ≥ (-9007199254740992)) <;> rfl
/-- what a sum says as a number of a form: too great ones are told -/
theorem number129 (v : Int) (hv : -170141183460469231731687303715884105728 ≤ v ∧ v < 170141183460469231731687303715884105728) :
    ∃ n, F129 (packS v) = some (n, fitsW v) ∧ (fitsW v = true → n = v) := by
  have hx := wrapI (v % 18446744073709551616) (by omega)
  simp only [F129, packS, fitsW112, bindO_some, hx]
  generalize hX : (if v % 18446744073709551616 ≥ 9223372036854775808 then v % 18446744073709551616 - 18446744073709551616 else v % 18446744073709551616) = X
  have hXr : X = v % 18446744073709551616 ∧ X < 9223372036854775808 ∨ X = v % 18446744073709551616 - 18446744073709551616 ∧ v % 18446744073709551616 ≥ 9223372036854775808 := by
    rw [← hX]; split <;> omega
  have far : ¬ (-9223372036854775808 ≤ v ∧ v < 9223372036854775808) → fitsW v = false := by
    intro h
    simp only [fitsW, Bool.and_eq_false_iff, decide_eq_false_iff_not]
    omega
  by_cases hin : -9223372036854775808 ≤ v ∧ v < 9223372036854775808
  · have hXv : X = v := by omega
    rw [hXv]
    by_cases hn : v < 0
    · have e1 : (v / 18446744073709551616 == -1) = true := beq_iff_eq.2 (by omega)
      have e2 : decide (v ≥ 0) = false := decide_eq_false (by omega)
      rw [decide_eq_true hn, e1, e2]
      exact ⟨v, rfl, fun _ => rfl⟩
    · have e1 : (v / 18446744073709551616 == 0) = true := beq_iff_eq.2 (by omega)
      have e2 : decide (v ≥ 0) = true := decide_eq_true (by omega)
      rw [decide_eq_false hn, e1, e2]
      exact ⟨v, rfl, fun _ => rfl⟩
  · rw [far hin]
    refine ⟨0, ?_, fun h => by cases h⟩
    by_cases hn : X < 0
    · have e1 : (v / 18446744073709551616 == -1) = false := beq_eq_false_iff_ne.2 (by omega)
      rw [decide_eq_true hn, e1]; rfl
    · have e1 : (v / 18446744073709551616 == 0) = false := beq_eq_false_iff_ne.2 (by omega)
      have e2 : decide (X ≥ 0) = true := decide_eq_true (by omega)
      rw [decide_eq_false hn, e1, e2]; rfl
end Go.Abs.Try
namespace Go.Abs.Try
set_option linter.unusedSimpArgs false
set_option linter.unusedVariables false
set_option maxRecDepth 100000
/-- a number as sign and amount -/
def packW (v : Int) : Quantaleref04Wide := ⟨decide (v < 0), (v.natAbs : Int) / 18446744073709551616, (v.natAbs : Int) % 18446744073709551616⟩
theorem amount165 (n : Int) (h : -9223372036854775808 ≤ n ∧ n < 9223372036854775808) : F165 n = some (n.natAbs : Int) := by
  by_cases hn : n < 0
  · simp only [F165, decide_eq_true hn, iteO_true, wrapU]
    rw [wrap_id (n := n + 1) (by omega), wrap_id (n := 0 - (n + 1)) (by omega)]
    congr 1; omega
  · simp only [F165, decide_eq_false hn, iteO_false, wrapU]
    congr 1; omega
theorem less163 (u v : Int) : F163 (packW u) (packW v) = some (decide (u.natAbs < v.natAbs)) := by
  show iteO (decide (((u.natAbs : Int) / 18446744073709551616) < ((v.natAbs : Int) / 18446744073709551616))) (some true) (iteO (((u.natAbs : Int) / 18446744073709551616) == ((v.natAbs : Int) / 18446744073709551616)) (some (decide (((u.natAbs : Int) % 18446744073709551616) < ((v.natAbs : Int) % 18446744073709551616)))) (some false)) = _
  by_cases h1 : (u.natAbs : Int) / 18446744073709551616 < (v.natAbs : Int) / 18446744073709551616
  · rw [decide_eq_true h1, iteO_true, decide_eq_true (show u.natAbs < v.natAbs by omega)]
  · rw [decide_eq_false h1, iteO_false]
    by_cases h2 : (u.natAbs : Int) / 18446744073709551616 = (v.natAbs : Int) / 18446744073709551616
    · have e : ((u.natAbs : Int) / 18446744073709551616 == (v.natAbs : Int) / 18446744073709551616) = true := beq_iff_eq.2 h2
      rw [e, iteO_true]
      congr 1
      rw [decide_eq_decide]
      omega
    · have e : ((u.natAbs : Int) / 18446744073709551616 == (v.natAbs : Int) / 18446744073709551616) = false := beq_eq_false_iff_ne.2 h2
      rw [e, iteO_false, decide_eq_false (show ¬ u.natAbs < v.natAbs by omega)]
theorem narrow134 (v : Int) (hv : v.natAbs < 340282366920938463463374607431768211456) : F134 (packW v) = some (bif fitsW v then v else 0, fitsW v) := by
  show iteO (((v.natAbs : Int) / 18446744073709551616) == 0) (iteO (decide (((v.natAbs : Int) % 18446744073709551616) > 9007199254740992)) (some (0, false)) (iteO (decide (v < 0)) (some (IntKind.i64.wrap (0 - (IntKind.i64.wrap ((v.natAbs : Int) % 18446744073709551616))), true)) (some (IntKind.i64.wrap ((v.natAbs : Int) % 18446744073709551616), true)))) (some (0, false)) = _
  by_cases h1 : (v.natAbs : Int) / 18446744073709551616 = 0
  · have e : ((v.natAbs : Int) / 18446744073709551616 == 0) = true := beq_iff_eq.2 h1
    rw [e, iteO_true]
    by_cases h2 : (v.natAbs : Int) % 18446744073709551616 > 9007199254740992
    · have hf : fitsW v = false := by simp only [fitsW, Bool.and_eq_false_iff, decide_eq_false_iff_not]; omega
      rw [decide_eq_true h2, hf]; rfl
    · have hf : fitsW v = true := by simp only [fitsW, Bool.and_eq_true, decide_eq_true_eq]; omega
      rw [decide_eq_false h2, hf, iteO_false]
      by_cases h3 : v < 0
      · rw [decide_eq_true h3, iteO_true, wrap_id (n := (v.natAbs : Int) % 18446744073709551616) (by omega), wrap_id (by omega)]
        simp only [cond_true]
        congr 2; omega
      · rw [decide_eq_false h3, iteO_false, wrap_id (by omega)]
        simp only [cond_true]
        congr 2; omega
  · have e : ((v.natAbs : Int) / 18446744073709551616 == 0) = false := beq_eq_false_iff_ne.2 h1
    have hf : fitsW v = false := by simp only [fitsW, Bool.and_eq_false_iff, decide_eq_false_iff_not]; omega
    rw [e, hf]; rfl
end Go.Abs.Try
namespace Go.Abs.Try
set_option linter.unusedSimpArgs false
set_option linter.unusedVariables false
set_option maxRecDepth 100000
def wide (s : Bool) (n : Int) : Quantaleref04Wide := ⟨s, n / 18446744073709551616, n % 18446744073709551616⟩
theorem packW_wide (v : Int) : packW v = wide (decide (v < 0)) v.natAbs := rfl
theorem minus164 (s t : Bool) (a b : Int) (hb : 0 ≤ b) (hab : b ≤ a) (ha : a < 340282366920938463463374607431768211456) : F164 (wide s a) (wide t b) = some (wide s (a - b)) := by
  show iteO (decide (a % 18446744073709551616 < b % 18446744073709551616))
    (some (⟨s, IntKind.u64.wrap ((IntKind.u64.wrap (a / 18446744073709551616 - b / 18446744073709551616)) - 1), IntKind.u64.wrap (a % 18446744073709551616 - b % 18446744073709551616)⟩ : Quantaleref04Wide))
    (some (⟨s, IntKind.u64.wrap (a / 18446744073709551616 - b / 18446744073709551616), IntKind.u64.wrap (a % 18446744073709551616 - b % 18446744073709551616)⟩ : Quantaleref04Wide)) = some ⟨s, (a - b) / 18446744073709551616, (a - b) % 18446744073709551616⟩
  simp only [wrapU]
  by_cases h : a % 18446744073709551616 < b % 18446744073709551616
  · rw [decide_eq_true h, iteO_true]
    congr 2 <;> omega
  · rw [decide_eq_false h, iteO_false]
    congr 2 <;> omega
/-- a sign of zero is taken away -/
def tidy (r : Quantaleref04Wide) : Option Quantaleref04Wide :=
  iteO (r.quantaleref04WideHi == 0) (iteO (r.quantaleref04WideLo == 0) (some (⟨false, r.quantaleref04WideHi, r.quantaleref04WideLo⟩ : Quantaleref04Wide)) (some r)) (some r)
theorem tidy_wide (s : Bool) (n v : Int) (hn : n = v.natAbs) (hs : v ≠ 0 → s = decide (v < 0)) : tidy (wide s n) = some (packW v) := by
  subst hn
  by_cases h0 : v = 0
  · subst h0; rfl
  · rw [hs h0, packW_wide]
    show iteO ((v.natAbs : Int) / 18446744073709551616 == 0) (iteO ((v.natAbs : Int) % 18446744073709551616 == 0) _ _) _ = _
    by_cases h1 : (v.natAbs : Int) / 18446744073709551616 = 0
    · have e1 : ((v.natAbs : Int) / 18446744073709551616 == 0) = true := beq_iff_eq.2 h1
      have e2 : ((v.natAbs : Int) % 18446744073709551616 == 0) = false := beq_eq_false_iff_ne.2 (by omega)
      rw [e1, e2]; rfl
    · have e1 : ((v.natAbs : Int) / 18446744073709551616 == 0) = false := beq_eq_false_iff_ne.2 h1
      rw [e1]; rfl
end Go.Abs.Try
namespace Go.Abs.Try
set_option linter.unusedSimpArgs false
set_option linter.unusedVariables false
set_option maxRecDepth 100000
theorem plus_text (a b : Quantaleref04Wide) : F132 a b = iteO (a.quantaleref04WideNeg == b.quantaleref04WideNeg)
    (iteO (decide ((IntKind.u64.wrap (a.quantaleref04WideLo + b.quantaleref04WideLo)) < a.quantaleref04WideLo))
      (tidy ⟨a.quantaleref04WideNeg, IntKind.u64.wrap ((IntKind.u64.wrap (a.quantaleref04WideHi + b.quantaleref04WideHi)) + 1), IntKind.u64.wrap (a.quantaleref04WideLo + b.quantaleref04WideLo)⟩)
      (tidy ⟨a.quantaleref04WideNeg, IntKind.u64.wrap (a.quantaleref04WideHi + b.quantaleref04WideHi), IntKind.u64.wrap (a.quantaleref04WideLo + b.quantaleref04WideLo)⟩))
    (bindO (F163 a b) fun r1 => iteO r1 (bindO (F164 b a) tidy) (bindO (F164 a b) tidy)) := rfl
theorem plus132 (u v : Int) (h : u.natAbs + v.natAbs < 340282366920938463463374607431768211456) : F132 (packW u) (packW v) = some (packW (u + v)) := by
  rw [plus_text]
  by_cases hs : decide (u < 0) = decide (v < 0)
  · have e : ((packW u).quantaleref04WideNeg == (packW v).quantaleref04WideNeg) = true := beq_iff_eq.2 hs
    have hsg : (u < 0 ↔ v < 0) := decide_eq_decide.1 hs
    have key : tidy (wide (decide (u < 0)) ((u.natAbs : Int) + v.natAbs)) = some (packW (u + v)) := tidy_wide _ _ _ (by omega) fun h0 => decide_eq_decide.2 (by omega)
    rw [e, iteO_true, ← key]
    show iteO (decide ((IntKind.u64.wrap ((u.natAbs : Int) % 18446744073709551616 + (v.natAbs : Int) % 18446744073709551616)) < (u.natAbs : Int) % 18446744073709551616))
      (tidy ⟨decide (u < 0), IntKind.u64.wrap ((IntKind.u64.wrap ((u.natAbs : Int) / 18446744073709551616 + (v.natAbs : Int) / 18446744073709551616)) + 1), IntKind.u64.wrap ((u.natAbs : Int) % 18446744073709551616 + (v.natAbs : Int) % 18446744073709551616)⟩)
      (tidy ⟨decide (u < 0), IntKind.u64.wrap ((u.natAbs : Int) / 18446744073709551616 + (v.natAbs : Int) / 18446744073709551616), IntKind.u64.wrap ((u.natAbs : Int) % 18446744073709551616 + (v.natAbs : Int) % 18446744073709551616)⟩)
      = tidy ⟨decide (u < 0), ((u.natAbs : Int) + v.natAbs) / 18446744073709551616, ((u.natAbs : Int) + v.natAbs) % 18446744073709551616⟩
    simp only [wrapU]
    by_cases hc : ((u.natAbs : Int) % 18446744073709551616 + (v.natAbs : Int) % 18446744073709551616) % 18446744073709551616 < (u.natAbs : Int) % 18446744073709551616
    · rw [decide_eq_true hc, iteO_true]
      congr 2 <;> omega
    · rw [decide_eq_false hc, iteO_false]
      congr 2 <;> omega
  · have e : ((packW u).quantaleref04WideNeg == (packW v).quantaleref04WideNeg) = false := beq_eq_false_iff_ne.2 hs
    have hsg : ¬ (u < 0 ↔ v < 0) := fun hh => hs (decide_eq_decide.2 hh)
    rw [e, iteO_false, less163, bindO_some]
    by_cases hl : u.natAbs < v.natAbs
    · rw [decide_eq_true hl, iteO_true, packW_wide u, packW_wide v, minus164 _ _ _ _ (by omega) (by omega) (by omega), bindO_some]
      exact tidy_wide _ _ _ (by omega) fun h0 => decide_eq_decide.2 (by omega)
    · rw [decide_eq_false hl, iteO_false, packW_wide u, packW_wide v, minus164 _ _ _ _ (by omega) (by omega) (by omega), bindO_some]
      exact tidy_wide _ _ _ (by omega) fun h0 => decide_eq_decide.2 (by omega)
end Go.Abs.Try
namespace Go.Abs.Try
set_option linter.unusedSimpArgs false
set_option linter.unusedVariables false
set_option maxRecDepth 100000
def hiE (r1 r2 : Int) : Int := IntKind.u64.wrap ((IntKind.u64.wrap ((IntKind.u64.wrap ((r1.fdiv (2 ^ (min (32 : Int).toNat (IntKind.u64).bits))) * (r2.fdiv (2 ^ (min (32 : Int).toNat (IntKind.u64).bits))))) + ((IntKind.u64.wrap ((IntKind.u64.wrap ((r1.fdiv (2 ^ (min (32 : Int).toNat (IntKind.u64).bits))) * (IntKind.u64.wrap ((BitVec.ofInt (IntKind.u64).bits r2 &&& BitVec.ofInt (IntKind.u64).bits 4294967295).toNat)))) + ((IntKind.u64.wrap ((IntKind.u64.wrap ((BitVec.ofInt (IntKind.u64).bits r1 &&& BitVec.ofInt (IntKind.u64).bits 4294967295).toNat)) * (IntKind.u64.wrap ((BitVec.ofInt (IntKind.u64).bits r2 &&& BitVec.ofInt (IntKind.u64).bits 4294967295).toNat)))).fdiv (2 ^ (min (32 : Int).toNat (IntKind.u64).bits))))).fdiv (2 ^ (min (32 : Int).toNat (IntKind.u64).bits))))) + ((IntKind.u64.wrap ((IntKind.u64.wrap ((IntKind.u64.wrap ((BitVec.ofInt (IntKind.u64).bits r1 &&& BitVec.ofInt (IntKind.u64).bits 4294967295).toNat)) * (r2.fdiv (2 ^ (min (32 : Int).toNat (IntKind.u64).bits))))) + (IntKind.u64.wrap ((BitVec.ofInt (IntKind.u64).bits (IntKind.u64.wrap ((IntKind.u64.wrap ((r1.fdiv (2 ^ (min (32 : Int).toNat (IntKind.u64).bits))) * (IntKind.u64.wrap ((BitVec.ofInt (IntKind.u64).bits r2 &&& BitVec.ofInt (IntKind.u64).bits 4294967295).toNat)))) + ((IntKind.u64.wrap ((IntKind.u64.wrap ((BitVec.ofInt (IntKind.u64).bits r1 &&& BitVec.ofInt (IntKind.u64).bits 4294967295).toNat)) * (IntKind.u64.wrap ((BitVec.ofInt (IntKind.u64).bits r2 &&& BitVec.ofInt (IntKind.u64).bits 4294967295).toNat)))).fdiv (2 ^ (min (32 : Int).toNat (IntKind.u64).bits))))) &&& BitVec.ofInt (IntKind.u64).bits 4294967295).toNat)))).fdiv (2 ^ (min (32 : Int).toNat (IntKind.u64).bits))))
def loE (r1 r2 : Int) : Int := IntKind.u64.wrap ((BitVec.ofInt (IntKind.u64).bits (IntKind.u64.wrap ((IntKind.u64.wrap ((IntKind.u64.wrap ((IntKind.u64.wrap ((BitVec.ofInt (IntKind.u64).bits r1 &&& BitVec.ofInt (IntKind.u64).bits 4294967295).toNat)) * (r2.fdiv (2 ^ (min (32 : Int).toNat (IntKind.u64).bits))))) + (IntKind.u64.wrap ((BitVec.ofInt (IntKind.u64).bits (IntKind.u64.wrap ((IntKind.u64.wrap ((r1.fdiv (2 ^ (min (32 : Int).toNat (IntKind.u64).bits))) * (IntKind.u64.wrap ((BitVec.ofInt (IntKind.u64).bits r2 &&& BitVec.ofInt (IntKind.u64).bits 4294967295).toNat)))) + ((IntKind.u64.wrap ((IntKind.u64.wrap ((BitVec.ofInt (IntKind.u64).bits r1 &&& BitVec.ofInt (IntKind.u64).bits 4294967295).toNat)) * (IntKind.u64.wrap ((BitVec.ofInt (IntKind.u64).bits r2 &&& BitVec.ofInt (IntKind.u64).bits 4294967295).toNat)))).fdiv (2 ^ (min (32 : Int).toNat (IntKind.u64).bits))))) &&& BitVec.ofInt (IntKind.u64).bits 4294967295).toNat)))) * 2 ^ (min (32 : Int).toNat (IntKind.u64).bits))) ||| BitVec.ofInt (IntKind.u64).bits (IntKind.u64.wrap ((BitVec.ofInt (IntKind.u64).bits (IntKind.u64.wrap ((IntKind.u64.wrap ((BitVec.ofInt (IntKind.u64).bits r1 &&& BitVec.ofInt (IntKind.u64).bits 4294967295).toNat)) * (IntKind.u64.wrap ((BitVec.ofInt (IntKind.u64).bits r2 &&& BitVec.ofInt (IntKind.u64).bits 4294967295).toNat)))) &&& BitVec.ofInt (IntKind.u64).bits 4294967295).toNat))).toNat)
theorem times_text (a b : Int) : F133 a b = bindO (F165 a) fun r1 => bindO (F165 b) fun r2 => tidy ⟨(!((decide (a < 0)) == (decide (b < 0)))), hiE r1 r2, loE r1 r2⟩ := rfl
theorem or32 (n m : Int) (hm : 0 ≤ m ∧ m < 4294967296) : (((BitVec.ofInt (IntKind.u64).bits ((n * 4294967296) % 18446744073709551616) ||| BitVec.ofInt (IntKind.u64).bits m).toNat : Nat) : Int) = (n % 4294967296) * 4294967296 + m := by
  have h1 : (BitVec.ofInt (IntKind.u64).bits ((n * 4294967296) % 18446744073709551616)).toNat = 2 ^ 32 * (n % 4294967296).toNat := by
    rw [BitVec.toNat_ofInt]
    show (((n * 4294967296) % 18446744073709551616) % 18446744073709551616 : Int).toNat = _
    omega
  have h2 : (BitVec.ofInt (IntKind.u64).bits m).toNat = m.toNat := by
    rw [BitVec.toNat_ofInt]
    show (m % 18446744073709551616 : Int).toNat = _
    omega
  rw [BitVec.toNat_or, h1, h2, ← Nat.two_pow_add_eq_or_of_lt (show m.toNat < 2 ^ 32 by omega)]
  omega
theorem parts (x y : Nat) (hx : x < 18446744073709551616) (hy : y < 18446744073709551616) : hiE x y = ((x * y / 18446744073709551616 : Nat) : Int) ∧ loE x y = ((x * y % 18446744073709551616 : Nat) : Int) := by
  have ex1 : (x : Int) / 4294967296 = ((x / 4294967296 : Nat) : Int) := by omega
  have ex0 : (x : Int) % 4294967296 = ((x % 4294967296 : Nat) : Int) := by omega
  have ey1 : (y : Int) / 4294967296 = ((y / 4294967296 : Nat) : Int) := by omega
  have ey0 : (y : Int) % 4294967296 = ((y % 4294967296 : Nat) : Int) := by omega
  have fx0 : ((x % 4294967296 : Nat) : Int) % 18446744073709551616 = ((x % 4294967296 : Nat) : Int) := by omega
  have fy0 : ((y % 4294967296 : Nat) : Int) % 18446744073709551616 = ((y % 4294967296 : Nat) : Int) := by omega
  have hp := wd_prod x y
  have ha := wd_bound (show x / 4294967296 < 4294967296 by omega) (show y / 4294967296 < 4294967296 by omega)
  have hb := wd_bound (show x / 4294967296 < 4294967296 by omega) (show y % 4294967296 < 4294967296 by omega)
  have hc := wd_bound (show x % 4294967296 < 4294967296 by omega) (show y / 4294967296 < 4294967296 by omega)
  have hd := wd_bound (show x % 4294967296 < 4294967296 by omega) (show y % 4294967296 < 4294967296 by omega)
  simp only [hiE, loE, shr32, and32, wrapU]
  simp only [pow32, ex1, ex0, ey1, ey0, fx0, fy0, ← Int.natCast_mul]
  rw [hp]
  generalize x / 4294967296 * (y / 4294967296) = a at *
  generalize x / 4294967296 * (y % 4294967296) = b at *
  generalize x % 4294967296 * (y / 4294967296) = c at *
  generalize x % 4294967296 * (y % 4294967296) = d at *
  refine ⟨by omega, ?_⟩
  rw [or32 _ _ (by omega)]
  omega
theorem times133 (a b : Int) (ha : -9223372036854775808 ≤ a ∧ a < 9223372036854775808) (hb : -9223372036854775808 ≤ b ∧ b < 9223372036854775808) : F133 a b = some (packW (a * b)) := by
  rw [times_text, amount165 a ha, bindO_some, amount165 b hb, bindO_some]
  obtain ⟨h1, h2⟩ := parts a.natAbs b.natAbs (by omega) (by omega)
  rw [h1, h2]
  have hn : ((a.natAbs * b.natAbs : Nat) : Int) = (a * b).natAbs := by rw [Int.natAbs_mul]
  have : (⟨(!((decide (a < 0)) == (decide (b < 0)))), ((a.natAbs * b.natAbs / 18446744073709551616 : Nat) : Int), ((a.natAbs * b.natAbs % 18446744073709551616 : Nat) : Int)⟩ : Quantaleref04Wide) = wide (!((decide (a < 0)) == (decide (b < 0)))) ((a.natAbs * b.natAbs : Nat) : Int) := by
    simp only [wide, Int.natCast_ediv, Int.natCast_emod]; rfl
  rw [this]
  refine tidy_wide _ _ _ hn fun h0 => ?_
  have hs : a * b < 0 ↔ ¬ (a < 0 ↔ b < 0) := by
    have a0 : a ≠ 0 := fun e => h0 (by rw [e, Int.zero_mul])
    have b0 : b ≠ 0 := fun e => h0 (by rw [e, Int.mul_zero])
    by_cases h1 : a < 0 <;> by_cases h2 : b < 0
    · have := Int.mul_pos_of_neg_of_neg h1 h2; constructor <;> intro hh <;> omega
    · have := Int.mul_neg_of_neg_of_pos h1 (show 0 < b by omega); constructor <;> intro hh <;> omega
    · have := Int.mul_neg_of_pos_of_neg (show 0 < a by omega) h2; constructor <;> intro hh <;> omega
    · have := Int.mul_pos (show 0 < a by omega) (show 0 < b by omega); constructor <;> intro hh <;> omega
  rw [Bool.eq_iff_iff, Bool.not_eq_true', beq_eq_false_iff_ne, decide_eq_true_eq, hs, ne_eq, decide_eq_decide]
end Go.Abs.Try
