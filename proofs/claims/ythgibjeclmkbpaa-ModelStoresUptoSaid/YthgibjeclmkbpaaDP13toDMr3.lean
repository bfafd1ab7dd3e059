import Derived.Test.YthgibjeclmkbpaaDMod2toDVal30
import Derived.Test.YthgibjeclmkbpaaDD
import Derived.Test.YthgibjeclmkbpaaDMs4toDMs8
import Derived.Test.YthgibjeclmkbpaaDMr1
import Derived.Test.YthgibjeclmkbpaaDP11c
set_option linter.unusedSimpArgs false
set_option linter.unusedVariables false
namespace Go.Abs.Try
set_option maxRecDepth 100000
end Go.Abs.Try
namespace Go.Abs.Try
end Go.Abs.Try
namespace Go.Abs
theorem wd_mul (x1 x0 y1 y0 : Nat) : (x1 * 4294967296 + x0) * (y1 * 4294967296 + y0) = (x1 * y1) * 18446744073709551616 + (x1 * y0 + x0 * y1) * 4294967296 + x0 * y0 := by
 have e : (18446744073709551616 : Nat) = 4294967296 * 4294967296 := rfl
 rw [e, Nat.add_mul, Nat.mul_add, Nat.mul_add, Nat.add_mul]
 have h1 : x1 * 4294967296 * (y1 * 4294967296) = x1 * y1 * (4294967296 * 4294967296) := by rw [Nat.mul_mul_mul_comm]
 have h2 : x1 * 4294967296 * y0 = x1 * y0 * 4294967296 := by rw [Nat.mul_assoc, Nat.mul_comm 4294967296, ← Nat.mul_assoc]
 have h3 : x0 * (y1 * 4294967296) = x0 * y1 * 4294967296 := by rw [Nat.mul_assoc]
 rw [h1, h2, h3]
 omega
theorem wd_split (x : Nat) : x = x / 4294967296 * 4294967296 + x % 4294967296 := by omega
theorem wd_prod (x y : Nat) : x * y = (x / 4294967296 * (y / 4294967296)) * 18446744073709551616 + (x / 4294967296 * (y % 4294967296) + x % 4294967296 * (y / 4294967296)) * 4294967296 + x % 4294967296 * (y % 4294967296) := by
 have h := wd_mul (x / 4294967296) (x % 4294967296) (y / 4294967296) (y % 4294967296)
 rw [← wd_split, ← wd_split] at h
 exact h
theorem wd_bound {x y : Nat} (hx : x < 4294967296) (hy : y < 4294967296) : x * y ≤ 18446744065119617025 := Nat.mul_le_mul (show x ≤ 4294967295 by omega) (show y ≤ 4294967295 by omega)
end Go.Abs
namespace Go.Abs.Try
set_option maxRecDepth 100000
theorem pow32 : ((2 : Int) ^ (min (32 : Int).toNat (IntKind.u64).bits)) = 4294967296 := by decide
theorem shr32 (n : Int) : (n.fdiv (2 ^ (min (32 : Int).toNat (IntKind.u64).bits))) = n / 4294967296 := by
 rw [pow32, Int.fdiv_eq_ediv_of_nonneg _ (by omega)]
theorem and32 (n : Int) : (((BitVec.ofInt (IntKind.u64).bits n &&& BitVec.ofInt (IntKind.u64).bits 4294967295).toNat : Nat) : Int) = n % 4294967296 := by
 have h1 : (BitVec.ofInt (IntKind.u64).bits n).toNat = (n % 18446744073709551616).toNat := by
   rw [BitVec.toNat_ofInt]
   rfl
 have h2 : (BitVec.ofInt (IntKind.u64).bits 4294967295).toNat = 2 ^ 32 - 1 := by decide
 rw [BitVec.toNat_and, h1, h2, Nat.and_two_pow_sub_one_eq_mod]
 omega
theorem wrapU (n : Int) : IntKind.u64.wrap n = n % 18446744073709551616 := by
 have e1 : (2 : Int) ^ 64 = 18446744073709551616 := by decide
 simp only [IntKind.wrap, IntKind.bits, IntKind.signed, e1, Bool.false_and, Bool.false_eq_true, if_false]
end Go.Abs.Try
namespace Go.Abs.Try
set_option maxRecDepth 100000
end Go.Abs.Try
namespace Go.Abs.Try
set_option maxRecDepth 100000
end Go.Abs.Try
namespace Go.Abs.Try
set_option maxRecDepth 100000
end Go.Abs.Try
namespace Go.Abs.Try
set_option maxRecDepth 100000
theorem drop_nil {α : Type} {l : List α} {i : Nat} (hi : i ≤ l.length) (h : l.drop i = []) : i = l.length := by
 have := congrArg List.length h
 simp at this; omega
end Go.Abs.Try
namespace Go.Abs.Try
set_option maxRecDepth 100000
end Go.Abs.Try
namespace Go.Abs.Try
set_option maxRecDepth 100000
end Go.Abs.Try
namespace Go.Abs.Try
set_option maxRecDepth 100000
end Go.Abs.Try
namespace Go.Abs.Try
set_option maxRecDepth 100000
end Go.Abs.Try
namespace Go.Abs.Try
set_option maxRecDepth 100000
def hiE (r1 r2 : Int) : Int := IntKind.u64.wrap ((IntKind.u64.wrap ((IntKind.u64.wrap ((r1.fdiv (2 ^ (min (32 : Int).toNat (IntKind.u64).bits))) * (r2.fdiv (2 ^ (min (32 : Int).toNat (IntKind.u64).bits))))) + ((IntKind.u64.wrap ((IntKind.u64.wrap ((r1.fdiv (2 ^ (min (32 : Int).toNat (IntKind.u64).bits))) * (IntKind.u64.wrap ((BitVec.ofInt (IntKind.u64).bits r2 &&& BitVec.ofInt (IntKind.u64).bits 4294967295).toNat)))) + ((IntKind.u64.wrap ((IntKind.u64.wrap ((BitVec.ofInt (IntKind.u64).bits r1 &&& BitVec.ofInt (IntKind.u64).bits 4294967295).toNat)) * (IntKind.u64.wrap ((BitVec.ofInt (IntKind.u64).bits r2 &&& BitVec.ofInt (IntKind.u64).bits 4294967295).toNat)))).fdiv (2 ^ (min (32 : Int).toNat (IntKind.u64).bits))))).fdiv (2 ^ (min (32 : Int).toNat (IntKind.u64).bits))))) + ((IntKind.u64.wrap ((IntKind.u64.wrap ((IntKind.u64.wrap ((BitVec.ofInt (IntKind.u64).bits r1 &&& BitVec.ofInt (IntKind.u64).bits 4294967295).toNat)) * (r2.fdiv (2 ^ (min (32 : Int).toNat (IntKind.u64).bits))))) + (IntKind.u64.wrap ((BitVec.ofInt (IntKind.u64).bits (IntKind.u64.wrap ((IntKind.u64.wrap ((r1.fdiv (2 ^ (min (32 : Int).toNat (IntKind.u64).bits))) * (IntKind.u64.wrap ((BitVec.ofInt (IntKind.u64).bits r2 &&& BitVec.ofInt (IntKind.u64).bits 4294967295).toNat)))) + ((IntKind.u64.wrap ((IntKind.u64.wrap ((BitVec.ofInt (IntKind.u64).bits r1 &&& BitVec.ofInt (IntKind.u64).bits 4294967295).toNat)) * (IntKind.u64.wrap ((BitVec.ofInt (IntKind.u64).bits r2 &&& BitVec.ofInt (IntKind.u64).bits 4294967295).toNat)))).fdiv (2 ^ (min (32 : Int).toNat (IntKind.u64).bits))))) &&& BitVec.ofInt (IntKind.u64).bits 4294967295).toNat)))).fdiv (2 ^ (min (32 : Int).toNat (IntKind.u64).bits))))
def loE (r1 r2 : Int) : Int := IntKind.u64.wrap ((BitVec.ofInt (IntKind.u64).bits (IntKind.u64.wrap ((IntKind.u64.wrap ((IntKind.u64.wrap ((IntKind.u64.wrap ((BitVec.ofInt (IntKind.u64).bits r1 &&& BitVec.ofInt (IntKind.u64).bits 4294967295).toNat)) * (r2.fdiv (2 ^ (min (32 : Int).toNat (IntKind.u64).bits))))) + (IntKind.u64.wrap ((BitVec.ofInt (IntKind.u64).bits (IntKind.u64.wrap ((IntKind.u64.wrap ((r1.fdiv (2 ^ (min (32 : Int).toNat (IntKind.u64).bits))) * (IntKind.u64.wrap ((BitVec.ofInt (IntKind.u64).bits r2 &&& BitVec.ofInt (IntKind.u64).bits 4294967295).toNat)))) + ((IntKind.u64.wrap ((IntKind.u64.wrap ((BitVec.ofInt (IntKind.u64).bits r1 &&& BitVec.ofInt (IntKind.u64).bits 4294967295).toNat)) * (IntKind.u64.wrap ((BitVec.ofInt (IntKind.u64).bits r2 &&& BitVec.ofInt (IntKind.u64).bits 4294967295).toNat)))).fdiv (2 ^ (min (32 : Int).toNat (IntKind.u64).bits))))) &&& BitVec.ofInt (IntKind.u64).bits 4294967295).toNat)))) * 2 ^ (min (32 : Int).toNat (IntKind.u64).bits))) ||| BitVec.ofInt (IntKind.u64).bits (IntKind.u64.wrap ((BitVec.ofInt (IntKind.u64).bits (IntKind.u64.wrap ((IntKind.u64.wrap ((BitVec.ofInt (IntKind.u64).bits r1 &&& BitVec.ofInt (IntKind.u64).bits 4294967295).toNat)) * (IntKind.u64.wrap ((BitVec.ofInt (IntKind.u64).bits r2 &&& BitVec.ofInt (IntKind.u64).bits 4294967295).toNat)))) &&& BitVec.ofInt (IntKind.u64).bits 4294967295).toNat))).toNat)
theorem or32 (n m : Int) (hm : 0 ≤ m ∧ m < 4294967296) : (((BitVec.ofInt (IntKind.u64).bits ((n * 4294967296) % 18446744073709551616) ||| BitVec.ofInt (IntKind.u64).bits m).toNat : Nat) : Int) = (n % 4294967296) * 4294967296 + m := by
 have h1 : (BitVec.ofInt (IntKind.u64).bits ((n * 4294967296) % 18446744073709551616)).toNat = 2 ^ 32 * (n % 4294967296).toNat := by
   rw [BitVec.toNat_ofInt]
   show (((n * 4294967296) % 18446744073709551616) % 18446744073709551616 : Int).toNat = _
   omega
 have h2 : (BitVec.ofInt (IntKind.u64).bits m).toNat = m.toNat := by
   rw [BitVec.toNat_ofInt]
   show (m % 18446744073709551616 : Int).toNat = _
   omega
 rw [BitVec.toNat_or, h1, h2, ← Nat.two_pow_add_eq_or_of_lt (show m.toNat < 2 ^ 32 by omega)]
 omega
theorem parts (x y : Nat) (hx : x < 18446744073709551616) (hy : y < 18446744073709551616) : hiE x y = ((x * y / 18446744073709551616 : Nat) : Int) ∧ loE x y = ((x * y % 18446744073709551616 : Nat) : Int) := by
 have ex1 : (x : Int) / 4294967296 = ((x / 4294967296 : Nat) : Int) := by omega
 have ex0 : (x : Int) % 4294967296 = ((x % 4294967296 : Nat) : Int) := by omega
 have ey1 : (y : Int) / 4294967296 = ((y / 4294967296 : Nat) : Int) := by omega
 have ey0 : (y : Int) % 4294967296 = ((y % 4294967296 : Nat) : Int) := by omega
 have fx0 : ((x % 4294967296 : Nat) : Int) % 18446744073709551616 = ((x % 4294967296 : Nat) : Int) := by omega
 have fy0 : ((y % 4294967296 : Nat) : Int) % 18446744073709551616 = ((y % 4294967296 : Nat) : Int) := by omega
 have hp := wd_prod x y
 have ha := wd_bound (show x / 4294967296 < 4294967296 by omega) (show y / 4294967296 < 4294967296 by omega)
 have hb := wd_bound (show x / 4294967296 < 4294967296 by omega) (show y % 4294967296 < 4294967296 by omega)
 have hc := wd_bound (show x % 4294967296 < 4294967296 by omega) (show y / 4294967296 < 4294967296 by omega)
 have hd := wd_bound (show x % 4294967296 < 4294967296 by omega) (show y % 4294967296 < 4294967296 by omega)
 simp only [hiE, loE, shr32, and32, wrapU]
 simp only [pow32, ex1, ex0, ey1, ey0, fx0, fy0, ← Int.natCast_mul]
 rw [hp]
 generalize x / 4294967296 * (y / 4294967296) = a at *
 generalize x / 4294967296 * (y % 4294967296) = b at *
 generalize x % 4294967296 * (y / 4294967296) = c at *
 generalize x % 4294967296 * (y % 4294967296) = d at *
 refine ⟨by omega, ?_⟩
 rw [or32 _ _ (by omega)]
 omega
end Go.Abs.Try
namespace Go.Abs.Try
set_option maxRecDepth 100000
end Go.Abs.Try
namespace Go.Abs.Try
set_option maxRecDepth 100000
theorem step182 (l : List Int) (hl : l.length ≤ 1048576) (i : Nat) (x : Int) (hx : l[i]? = some x) : (F182_s1 l () i x = some (.inl ()) ∨ F182_s1 l () i x = some (.inr false)) ∧ (F182_s1 l () i x = some (.inl ()) ↔ fitsG x = true ∧ ∀ k y, i = k + 1 → l[k]? = some y → y < x) := by
 have hi := (List.getElem?_eq_some_iff.1 hx).1
 simp only [F182_s1, fits181, bindO_some]
 cases fitsG x with
 | false => exact ⟨.inr rfl, ⟨fun h => by (cases h), fun h => by cases h.1⟩⟩
 | true =>
   by_cases h0 : (i : Int) > 0
   · have hi1 : i - 1 < l.length := by omega
     have ha : atO l (IntKind.i64.wrap ((i : Int) - 1)) = some l[i - 1] := by
       rw [wrap_id (by omega)]
       exact atO_lit (i := i - 1) (by omega) (List.getElem?_eq_getElem hi1)
     rw [decide_eq_true h0]
     simp only [iteO_true, ha, bindO_some]
     by_cases hd : l[i - 1] ≥ x
     · rw [decide_eq_true hd]
       exact ⟨.inr rfl, ⟨fun h => by (cases h), fun h => by
         have := h.2 (i - 1) l[i - 1] (by omega) (List.getElem?_eq_getElem hi1)
         omega⟩⟩
     · rw [decide_eq_false hd]
       refine ⟨.inl rfl, ⟨fun _ => ⟨by trivial, fun k y hk hy => ?_⟩, fun _ => rfl⟩⟩
       subst hk
       have e : l[k + 1 - 1] = y := (List.getElem?_eq_some_iff.1 hy).2
       rw [e] at hd
       omega
   · rw [decide_eq_false h0]
     exact ⟨.inl rfl, ⟨fun _ => ⟨rfl, fun k y hk _ => by omega⟩, fun _ => rfl⟩⟩
theorem iff182 (N : Nat) (l : List Int) (h1 : l.length < N) (hl : l.length ≤ 1048576) : F182 N l = some true ↔ (asc l ∧ (∀ t ∈ l, fitsG t = true) ∧ l.length ≤ 200) := by
 constructor
 · intro h
   have ha := asc_of182 N l h h1 hl
   rcases foldN_either (step := F182_s1 l) (fin := F182_f1 l) false l (fun i x hx => (step182 l hl i x hx).1) l N 0 rfl h1 with ⟨k1, k2⟩ | k1
   · refine ⟨ha, fun t ht => ?_, ?_⟩
     · obtain ⟨i, hi, ei⟩ := List.getElem_of_mem ht
       have hx : l[i]? = some t := by rw [List.getElem?_eq_getElem hi, ei]
       exact ((step182 l hl i t hx).2.1 (k2 i t (Nat.zero_le _) hx)).1
     · unfold F182 at h
       rw [k1] at h
       injection h with h
       have := of_decide_eq_true h
       omega
   · unfold F182 at h; rw [k1] at h; cases h
 · intro ⟨h2, h3, h4⟩
   unfold F182
   rw [foldN_go (step := F182_s1 l) (fin := F182_f1 l) l (fun i x hx => (step182 l hl i x hx).2.2 ⟨h3 x (List.mem_of_getElem? hx), fun k y hk hy => by
     subst hk
     have a1 := (List.getElem?_eq_some_iff.1 hy)
     have a2 := (List.getElem?_eq_some_iff.1 hx)
     obtain ⟨b1, b2⟩ := a1
     obtain ⟨c1, c2⟩ := a2
     rw [← b2, ← c2]
     exact List.pairwise_iff_getElem.1 h2 k (k + 1) b1 c1 (by omega)⟩) l N 0 rfl h1]
   unfold F182_f1
   rw [decide_eq_true (by omega)]
theorem step171 (i : Nat) (x : Int) : (F171_s1 () i x = some (.inl ()) ∨ F171_s1 () i x = some (.inr false)) ∧ (F171_s1 () i x = some (.inl ()) ↔ x ≠ 0 ∧ fitsG x = true) := by
 simp only [F171_s1, fits181, bindO_some]
 cases h0 : x == 0 with
 | true => exact ⟨.inr rfl, ⟨fun h => by (cases h), fun h => absurd (beq_iff_eq.1 h0) h.1⟩⟩
 | false =>
   have h0 := beq_eq_false_iff_ne.1 h0
   cases hf : fitsG x with
   | true => exact ⟨.inl rfl, ⟨fun _ => ⟨h0, rfl⟩, fun _ => rfl⟩⟩
   | false => exact ⟨.inr rfl, ⟨fun h => by (cases h), fun h => by cases h.2⟩⟩
theorem len_zero {α : Type} {l : List α} (h : ((l.length : Int) == 0) = true) : l = [] := List.eq_nil_of_length_eq_zero (by have := beq_iff_eq.1 h; omega)
theorem vv_of171 (N : Nat) (hN : 1048600 < N) (v : Val) (hv : VSmall v) (h : F171 N v = some true) : VV v := by
 unfold F171 at h
 obtain ⟨g1, h⟩ := ite_f h
 obtain ⟨g2, h⟩ := ite_f h
 obtain ⟨b1, gf, h⟩ := bind_t h
 obtain ⟨gb, h⟩ := ite_t h
 obtain ⟨b2, hs, h⟩ := bind_t h
 obtain ⟨e2, h⟩ := ite_t h
 obtain ⟨b3, ha, h⟩ := bind_t h
 obtain ⟨e3, h⟩ := ite_t h
 obtain ⟨hl, h⟩ := ite_t h
 rw [e2] at hs; rw [e3] at ha
 have g1 := of_decide_eq_false g1
 have g2 := of_decide_eq_false g2
 rw [fits181] at gf
 have gn : fitsG v.valNum = true := by rw [gb] at gf; injection gf
 have hl : v.valTo.length = v.valAt.length := by have := beq_iff_eq.1 hl; omega
 have ss := (iff182 N v.valSet (by have := hv.1; omega) hv.1).1 hs
 have aa := (iff182 N v.valAt (by have := hv.2.1; omega) hv.2.1).1 ha
 rcases foldN_either (step := F171_s1) (fin := F171_f1 v) false v.valTo (fun i x hx => (step171 i x).1) v.valTo N 0 rfl (by have := hv.2.2; omega) with ⟨k1, k2⟩ | k1
 · rw [k1] at h
   unfold F171_f1 at h
   have each : ∀ t ∈ v.valTo, t ≠ 0 ∧ fitsG t = true := fun t ht => by
     obtain ⟨i, hi, ei⟩ := List.getElem_of_mem ht
     have hx : v.valTo[i]? = some t := by rw [List.getElem?_eq_getElem hi, ei]
     exact (step171 i t).2.1 (k2 i t (Nat.zero_le _) hx)
   have fin : (v.valSort = 2 → v.valNum = 0 ∨ v.valNum = 1) ∧ (v.valSort = 5 → 0 ≤ v.valNum) ∧ (v.valSort = 4 → v.valNum = 0) ∧ (v.valSort ≠ 4 → v.valSet = []) ∧ (v.valSort ≠ 5 → v.valAt = []) := by
     by_cases q2 : v.valSort = 2
     · rw [q2, show ((2 : Int) == 2) = true from rfl, iteO_true] at h
       cases q0 : v.valNum == 0 with
       | true =>
         rw [q0, iteO_true] at h
         obtain ⟨y1, y2⟩ := ite_t h
         injection y2 with y2
         exact ⟨fun _ => .inl (beq_iff_eq.1 q0), by omega, by omega, fun _ => len_zero y1, fun _ => len_zero y2⟩
       | false =>
         rw [q0, iteO_false] at h
         obtain ⟨q1, h⟩ := ite_t h
         obtain ⟨y1, y2⟩ := ite_t h
         injection y2 with y2
         exact ⟨fun _ => .inr (beq_iff_eq.1 q1), by omega, by omega, fun _ => len_zero y1, fun _ => len_zero y2⟩
     · rw [beq_eq_false_iff_ne.2 q2, iteO_false] at h
       by_cases q5 : v.valSort = 5
       · rw [q5, show ((5 : Int) == 5) = true from rfl, iteO_true] at h
         obtain ⟨y0, y1⟩ := ite_t h
         injection y1 with y1
         exact ⟨by omega, fun _ => of_decide_eq_true y0, by omega, fun _ => len_zero y1, fun h => absurd q5 h⟩
       · rw [beq_eq_false_iff_ne.2 q5, iteO_false] at h
         by_cases q4 : v.valSort = 4
         · rw [q4, show ((4 : Int) == 4) = true from rfl, iteO_true] at h
           obtain ⟨y0, y1⟩ := ite_t h
           injection y1 with y1
           exact ⟨by omega, by omega, fun _ => beq_iff_eq.1 y0, fun h => absurd q4 h, fun _ => len_zero y1⟩
         · rw [beq_eq_false_iff_ne.2 q4, iteO_false] at h
           obtain ⟨y0, y1⟩ := ite_t h
           injection y1 with y1
           exact ⟨by omega, by omega, by omega, fun _ => len_zero y0, fun _ => len_zero y1⟩
   exact ⟨by omega, gn, ss, aa, ⟨hl, each⟩, fin.1, fin.2.1, fin.2.2.1, fin.2.2.2.1, fin.2.2.2.2⟩
 · rw [k1] at h; cases h
theorem vv_of126 (N : Nat) (hN : 2097200 < N) (m : List Entry) (hm : MSmall m) (h : F126 N m = some true) : ∀ e ∈ m, VV e.entryVal := fun e he => by
 have h := ((valid_iff N hN m hm).1 h).each e he
 unfold F157 at h
 obtain ⟨_, _, h⟩ := bind_t h
 obtain ⟨_, h⟩ := ite_t h
 obtain ⟨_, h⟩ := ite_f h
 obtain ⟨b, hb, h⟩ := bind_t h
 obtain ⟨e1, h⟩ := ite_t h
 rw [e1] at hb
 exact vv_of171 N (by omega) _ (hm.args e he).2.2 hb
end Go.Abs.Try
namespace Go.Abs.Try
set_option maxRecDepth 100000
structure Vld (N : Nat) (m : List Entry) (n : Node) (r : Val × Int) : Prop where
 ck : CK n
 hole : hol n = false
 mod : F126 N m = some true
 ev : evalR m n = (r.1, true)
 vv : VV r.1
 srt : r.1.valSort = sortS n
theorem val29 (N : Nat) (hN : loN ≤ N ∧ N ≤ hiN) (n : Node) (m : List Entry) (hm : MSmall m) (hz : n.size ≤ 1048576) : ∃ r, F1029 N n m = some r ∧ VSmall r.1 ∧ (r.2 = 0 → Vld N m n r) := by
 have hlo : loN = 4611686018400000000 := rfl
 have hhi : hiN = 4611686018427387904 := rfl
 obtain ⟨r, h1, h2, _, h4⟩ := val_1031 N hN n m 0 hm hz
 refine ⟨r, by unfold F1029; rw [h1]; rfl, h2, fun h0 => ?_⟩
 rcases h4 with ⟨g1, g2, g3, g4, g5, _⟩ | ⟨g, _⟩
 · have hck := ck_of15 N n 0 hN hz g1
   have he : evalR m n = (r.1, true) := by rw [g5]; exact Prod.ext rfl g4
   have := eval_vv m (vv_of126 N (by omega) m hm g3) (n.size + 1) n (by omega) hck.ord g4
   rw [he] at this
   exact ⟨hck, g2, g3, he, this.1, this.2⟩
 · exact absurd h0 g
theorem val_to (N : Nat) (hN : loN ≤ N ∧ N ≤ hiN) (n : Node) (m : List Entry) (hm : MSmall m) (hc : CK n) (hh : hol n = false) (hv : F126 N m = some true) (he : (evalR m n).2 = true) : F1029 N n m = some ((evalR m n).1, 0) := by
 have hlo : loN = 4611686018400000000 := rfl
 obtain ⟨r, h1, _, _, h4⟩ := val_1031 N hN n m 0 hm (by have := hc.size; omega)
 have h15 := ck_to15 N n hN hc
 rcases h4 with ⟨_, _, _, _, g5, _⟩ | ⟨_, g⟩
 · unfold F1029; rw [h1, g5]; rfl
 · rcases g 0 h15 with ⟨g, _⟩ | ⟨_, ⟨g, _⟩ | ⟨_, ⟨g, _⟩ | ⟨_, g, _⟩⟩⟩
   · exact absurd rfl g
   · rw [hh] at g; cases g
   · rw [hv] at g; cases g
   · rw [he] at g; cases g
end Go.Abs.Try
