import Derived.Test.YtjjajifecniidaaOrd
import Derived.Test.YtjjajifecniidaaWdtoWd8
namespace Go.Abs.Try
set_option linter.unusedSimpArgs false
set_option linter.unusedVariables false
set_option maxRecDepth 100000
/-! ### The program's merge -/
theorem fits72_le {n : Nat} (h : n ≤ 8388608) : fits n 72 = true := by
  simp only [fits, roomMax]; exact decide_eq_true (by omega)
theorem abs_mul {p c : Int} (hp : -9223372036854775808 ≤ p ∧ p < 9223372036854775808) (hc : -9007199254740992 ≤ c ∧ c ≤ 9007199254740992) : (p * c).natAbs ≤ 83076749736557242056487941267521536 := by
  rw [Int.natAbs_mul]
  have h1 : p.natAbs ≤ 9223372036854775808 := by omega
  have h2 : c.natAbs ≤ 9007199254740992 := by omega
  exact Nat.le_trans (Nat.mul_le_mul h1 h2) (by decide)
def I64 (p : Int) : Prop := -9223372036854775808 ≤ p ∧ p < 9223372036854775808
def F53 (c : Int) : Prop := -9007199254740992 ≤ c ∧ c ≤ 9007199254740992
theorem F53.i64 {c : Int} (h : F53 c) : I64 c := ⟨by have := h.1; omega, by have := h.2; omega⟩
theorem fitsC_iff (x : Int) : fitsC x = true ↔ -9007199254740992 ≤ x ∧ x ≤ 9007199254740992 := by
  simp only [fitsC, Bool.and_eq_true, decide_eq_true_eq, ge_iff_le]
theorem fitsC_F53 {c : Int} (h : fitsC c = true) : F53 c := (fitsC_iff c).1 h
theorem packS0 : (⟨0, 0⟩ : LinearSum) = packS 0 := rfl
theorem once128 {p c : Int} (hp : I64 p) (hc : F53 c) : F128 (⟨0, 0⟩ : LinearSum) p c = some (packS (p * c)) := by
  have := abs_mul hp hc
  rw [packS0, plus128 0 p c hp hc.i64 (by omega) (by omega)]
  simp
theorem more128 {s p c : Int} (hs : s.natAbs ≤ 83076749736557242056487941267521536 * 1024) (hp : I64 p) (hc : F53 c) : F128 (packS s) p c = some (packS (s + p * c)) := by
  have := abs_mul hp hc
  exact plus128 s p c hp hc.i64 (by omega) (by omega)
theorem num129 {s : Int} (hs : s.natAbs ≤ 83076749736557242056487941267521536 * 1024) : ∃ n, F129 (packS s) = some (n, fitsW s) ∧ (fitsW s = true → n = s) := number129 s (by omega)
def allW (l : List Mono) : Bool := l.all fun m => fitsW m.monoCoef
abbrev S88 := (List Mono) × Int × Int
theorem next88 {step : S88 → Option (Sum S88 (Lin × Bool))} {K : Nat} {s n v i j i0 j0 : Int} {at' : Node} {out rest : List Mono}
    (hs : step (out, i0, j0) = iteO (fitsW s) (iteO (n == 0) (some (.inl (out, i, j))) (iteO (fits (out.length + 1) 72) (some (.inl (out ++ [(⟨n, at'⟩ : Mono)], i, j))) none)) (some (.inr ((⟨[], 0⟩ : Lin), false))))
    (hn : fitsW s = true → n = s) (hf : fits (out.length + 1) 72 = true)
    (ih : ∀ o, (o = out ∨ o = out ++ [⟨s, at'⟩]) → ∃ r, whileN step K (o, i, j) = some r ∧ r.2 = (allW rest && fitsW v) ∧ (r.2 = true → r.1 = ⟨o ++ nz rest, v⟩)) :
    ∃ r, whileN step (K + 1) (out, i0, j0) = some r ∧ r.2 = (allW (⟨s, at'⟩ :: rest) && fitsW v) ∧ (r.2 = true → r.1 = ⟨out ++ nz (⟨s, at'⟩ :: rest), v⟩) := by
  show ∃ r, bindO (step (out, i0, j0)) _ = some r ∧ _
  rw [hs]
  cases hw : fitsW s with
  | false =>
    refine ⟨_, rfl, ?_, fun h => by cases h⟩
    simp [allW, hw]
  | true =>
    have := hn hw
    subst this
    have ha : allW (⟨n, at'⟩ :: rest) = allW rest := by simp [allW, hw]
    rw [ha]
    cases h0 : n == 0 with
    | true =>
      obtain ⟨r, h1, h2, h3⟩ := ih out (.inl rfl)
      refine ⟨r, h1, h2, fun h => ?_⟩
      rw [h3 h]
      simp [nz, h0]
    | false =>
      obtain ⟨r, h1, h2, h3⟩ := ih _ (.inr rfl)
      refine ⟨r, by simp only [iteO_true, iteO_false, hf, bindO_some]; exact h1, h2, fun h => ?_⟩
      rw [h3 h]
      simp [nz, h0]
theorem drop_nil {α : Type} {l : List α} {i : Nat} (hi : i ≤ l.length) (h : l.drop i = []) : i = l.length := by
  have := congrArg List.length h
  simp at this; omega
theorem loop88 (N : Nat) (a b : Lin) (p q : Int) (hp : I64 p) (hq : I64 q) (hN : N = 4611686018427387904) (ga : Good a) (gb : Good b)
    (fa : ∀ m ∈ a.linMonos, fitsC m.monoCoef = true) (fb : ∀ m ∈ b.linMonos, fitsC m.monoCoef = true) (ca : F53 a.linConst) (cb : F53 b.linConst) :
    ∀ (K : Nat) (us bs : List Mono) (i j : Nat) (out : List Mono), i ≤ a.linMonos.length → j ≤ b.linMonos.length → a.linMonos.drop i = us → b.linMonos.drop j = bs →
      us.length + bs.length < K → out.length + us.length + bs.length ≤ 4194304 →
      ∃ r, whileN (F88_s1 N a b p q) K (out, (i : Int), (j : Int)) = some r ∧ r.2 = (allW (mrg p q us bs) && fitsW (p * a.linConst + q * b.linConst)) ∧ (r.2 = true → r.1 = ⟨out ++ nz (mrg p q us bs), p * a.linConst + q * b.linConst⟩)
  | 0, _, _, _, _, _, _, _, _, _, h, _ => absurd h (Nat.not_lt_zero _)
  | K + 1, us, bs, i, j, out, hi, hj, hu, hb, hK, ho => by
    have la := ga.1
    have lb := gb.1
    have wi : i < a.linMonos.length → IntKind.i64.wrap ((i : Int) + 1) = ((i + 1 : Nat) : Int) := fun h => by rw [wrap_id (by omega)]; rfl
    have wj : j < b.linMonos.length → IntKind.i64.wrap ((j : Int) + 1) = ((j + 1 : Nat) : Int) := fun h => by rw [wrap_id (by omega)]; rfl
    cases us with
    | nil =>
      have e := drop_nil hi hu
      have d1 : decide ((i : Int) < (a.linMonos.length : Int)) = false := decide_eq_false (by omega)
      have d2 : ((i : Int) == (a.linMonos.length : Int)) = true := beq_iff_eq.2 (by omega)
      cases bs with
      | nil =>
        have e2 := drop_nil hj hb
        have d3 : decide ((j : Int) < (b.linMonos.length : Int)) = false := decide_eq_false (by omega)
        have hm := abs_mul hp ca
        have hm2 := abs_mul hq cb
        obtain ⟨n, hn, hv⟩ := num129 (s := p * a.linConst + q * b.linConst) (by omega)
        show ∃ r, bindO (F88_s1 N a b p q (out, (i : Int), (j : Int))) _ = some r ∧ _
        simp only [F88_s1, d1, d2, d3, iteO_true, iteO_false, once128 hp ca, more128 (s := p * a.linConst) (by omega) hq cb, hn, bindO_some]
        refine ⟨_, rfl, ?_, fun h => ?_⟩
        · simp [mrg, allW]
        · rw [show n = _ from hv h]; simp [mrg, nz]
      | cons y bs =>
        obtain ⟨hy, hys⟩ := drop_cons hb
        obtain ⟨hj', hy'⟩ := List.getElem?_eq_some_iff.1 hy
        have hym : y ∈ b.linMonos := hy' ▸ List.getElem_mem hj'
        have d3 : decide ((j : Int) < (b.linMonos.length : Int)) = true := decide_eq_true (by omega)
        have hc := fitsC_F53 (fb y hym)
        have hm := abs_mul hq hc
        obtain ⟨n, hn, hv⟩ := num129 (s := q * y.monoCoef) (by omega)
        simp only [List.length_nil, List.length_cons] at hK ho
        have := next88 (i0 := (i : Int)) (j0 := (j : Int)) (step := F88_s1 N a b p q) (K := K) (s := q * y.monoCoef) (n := n) (v := p * a.linConst + q * b.linConst) (i := (i : Int)) (j := ((j + 1 : Nat) : Int)) (at' := y.monoAtom) (out := out) (rest := mrg p q [] bs) (by simp only [F88_s1, d1, d2, d3, iteO_true, iteO_false, atO_get hy, once128 hq hc, hn, bindO_some, wj hj']) hv (fits72_le (by omega))
          (fun o h => loop88 N a b p q hp hq hN ga gb fa fb ca cb K [] bs i (j + 1) o hi (by omega) hu hys (by simp; omega) (by rcases h with rfl | rfl <;> (try simp only [List.length_append, List.length_cons, List.length_nil]) <;> omega))
        have em : mrg p q [] (y :: bs) = ⟨q * y.monoCoef, y.monoAtom⟩ :: mrg p q [] bs := by simp [mrg]
        rw [em]; exact this
    | cons x us =>
      obtain ⟨hx, hxs⟩ := drop_cons hu
      obtain ⟨hi', hx'⟩ := List.getElem?_eq_some_iff.1 hx
      have hxm : x ∈ a.linMonos := hx' ▸ List.getElem_mem hi'
      have hcx := fitsC_F53 (fa x hxm)
      have hmx := abs_mul hp hcx
      have d1 : decide ((i : Int) < (a.linMonos.length : Int)) = true := decide_eq_true (by omega)
      have d2 : ((i : Int) == (a.linMonos.length : Int)) = false := beq_eq_false_iff_ne.2 (by omega)
      cases bs with
      | nil =>
        have e2 := drop_nil hj hb
        have d3 : ((j : Int) == (b.linMonos.length : Int)) = true := beq_iff_eq.2 (by omega)
        obtain ⟨n, hn, hv⟩ := num129 (s := p * x.monoCoef) (by omega)
        simp only [List.length_nil, List.length_cons] at hK ho
        have := next88 (i0 := (i : Int)) (j0 := (j : Int)) (step := F88_s1 N a b p q) (K := K) (s := p * x.monoCoef) (n := n) (v := p * a.linConst + q * b.linConst) (i := ((i + 1 : Nat) : Int)) (j := (j : Int)) (at' := x.monoAtom) (out := out) (rest := mrg p q us []) (by simp only [F88_s1, d1, d2, d3, iteO_true, iteO_false, atO_get hx, once128 hp hcx, hn, bindO_some, wi hi']) hv (fits72_le (by omega))
          (fun o h => loop88 N a b p q hp hq hN ga gb fa fb ca cb K us [] (i + 1) j o (by omega) hj hxs hb (by simp; omega) (by rcases h with rfl | rfl <;> (try simp only [List.length_append, List.length_cons, List.length_nil]) <;> omega))
        have em : mrg p q (x :: us) [] = ⟨p * x.monoCoef, x.monoAtom⟩ :: mrg p q us [] := by cases us <;> simp [mrg]
        rw [em]; exact this
      | cons y bs =>
        obtain ⟨hy, hys⟩ := drop_cons hb
        obtain ⟨hj', hy'⟩ := List.getElem?_eq_some_iff.1 hy
        have hym : y ∈ b.linMonos := hy' ▸ List.getElem_mem hj'
        have hcy := fitsC_F53 (fb y hym)
        have hmy := abs_mul hq hcy
        have d3 : ((j : Int) == (b.linMonos.length : Int)) = false := beq_eq_false_iff_ne.2 (by omega)
        have hcmp := cmp18 N x.monoAtom y.monoAtom (by have := ga.2 x hxm; omega)
        simp only [List.length_cons] at hK ho
        by_cases l1 : cmpR x.monoAtom y.monoAtom < 0
        · have d4 : decide (cmpR x.monoAtom y.monoAtom ≤ 0) = true := decide_eq_true (by omega)
          have d5 : decide (cmpR x.monoAtom y.monoAtom ≥ 0) = false := decide_eq_false (by omega)
          obtain ⟨n, hn, hv⟩ := num129 (s := p * x.monoCoef) (by omega)
          have := next88 (i0 := (i : Int)) (j0 := (j : Int)) (step := F88_s1 N a b p q) (K := K) (s := p * x.monoCoef) (n := n) (v := p * a.linConst + q * b.linConst) (i := ((i + 1 : Nat) : Int)) (j := (j : Int)) (at' := x.monoAtom) (out := out) (rest := mrg p q us (y :: bs)) (by simp only [F88_s1, d1, d2, d3, iteO_true, iteO_false, atO_get hx, atO_get hy, hcmp, d4, d5, once128 hp hcx, hn, bindO_some, wi hi']) hv (fits72_le (by omega))
            (fun o h => loop88 N a b p q hp hq hN ga gb fa fb ca cb K us (y :: bs) (i + 1) j o (by omega) hj hxs hb (by simp; omega) (by rcases h with rfl | rfl <;> (try simp only [List.length_append, List.length_cons, List.length_nil]) <;> omega))
          have em : mrg p q (x :: us) (y :: bs) = ⟨p * x.monoCoef, x.monoAtom⟩ :: mrg p q us (y :: bs) := by rw [mrg, if_pos l1]
          rw [em]; exact this
        · by_cases l2 : cmpR x.monoAtom y.monoAtom = 0
          · have d4 : decide (cmpR x.monoAtom y.monoAtom ≤ 0) = true := decide_eq_true (by omega)
            have d5 : decide (cmpR x.monoAtom y.monoAtom ≥ 0) = true := decide_eq_true (by omega)
            obtain ⟨n, hn, hv⟩ := num129 (s := p * x.monoCoef + q * y.monoCoef) (by omega)
            have := next88 (i0 := (i : Int)) (j0 := (j : Int)) (step := F88_s1 N a b p q) (K := K) (s := p * x.monoCoef + q * y.monoCoef) (n := n) (v := p * a.linConst + q * b.linConst) (i := ((i + 1 : Nat) : Int)) (j := ((j + 1 : Nat) : Int)) (at' := y.monoAtom) (out := out) (rest := mrg p q us bs) (by simp only [F88_s1, d1, d2, d3, iteO_true, iteO_false, atO_get hx, atO_get hy, hcmp, d4, d5, once128 hp hcx, more128 (s := p * x.monoCoef) (by omega) hq hcy, hn, bindO_some, wi hi', wj hj']) hv (fits72_le (by omega))
              (fun o h => loop88 N a b p q hp hq hN ga gb fa fb ca cb K us bs (i + 1) (j + 1) o (by omega) (by omega) hxs hys (by omega) (by rcases h with rfl | rfl <;> (try simp only [List.length_append, List.length_cons, List.length_nil]) <;> omega))
            have em : mrg p q (x :: us) (y :: bs) = ⟨p * x.monoCoef + q * y.monoCoef, y.monoAtom⟩ :: mrg p q us bs := by rw [mrg, if_neg l1, if_pos l2]
            rw [em]; exact this
          · have d4 : decide (cmpR x.monoAtom y.monoAtom ≤ 0) = false := decide_eq_false (by omega)
            have d5 : decide (cmpR x.monoAtom y.monoAtom ≥ 0) = true := decide_eq_true (by omega)
            obtain ⟨n, hn, hv⟩ := num129 (s := q * y.monoCoef) (by omega)
            have := next88 (i0 := (i : Int)) (j0 := (j : Int)) (step := F88_s1 N a b p q) (K := K) (s := q * y.monoCoef) (n := n) (v := p * a.linConst + q * b.linConst) (i := (i : Int)) (j := ((j + 1 : Nat) : Int)) (at' := y.monoAtom) (out := out) (rest := mrg p q (x :: us) bs) (by simp only [F88_s1, d1, d2, d3, iteO_true, iteO_false, atO_get hx, atO_get hy, hcmp, d4, d5, once128 hq hcy, hn, bindO_some, wj hj']) hv (fits72_le (by omega))
              (fun o h => loop88 N a b p q hp hq hN ga gb fa fb ca cb K (x :: us) bs i (j + 1) o hi (by omega) hu hys (by simp; omega) (by rcases h with rfl | rfl <;> (try simp only [List.length_append, List.length_cons, List.length_nil]) <;> omega))
            have em : mrg p q (x :: us) (y :: bs) = ⟨q * y.monoCoef, y.monoAtom⟩ :: mrg p q (x :: us) bs := by rw [mrg, if_neg l1, if_neg l2]
            rw [em]; exact this
theorem merge88 (N : Nat) (a b : Lin) (p q : Int) (hp : I64 p) (hq : I64 q) (hN : N = 4611686018427387904) (ga : Good a) (gb : Good b)
    (fa : ∀ m ∈ a.linMonos, fitsC m.monoCoef = true) (fb : ∀ m ∈ b.linMonos, fitsC m.monoCoef = true) (ca : F53 a.linConst) (cb : F53 b.linConst) :
    ∃ r, F88 N a b p q = some r ∧ r.2 = (allW (mrg p q a.linMonos b.linMonos) && fitsW (p * a.linConst + q * b.linConst)) ∧ (r.2 = true → r.1 = ⟨nz (mrg p q a.linMonos b.linMonos), p * a.linConst + q * b.linConst⟩) := by
  have la := ga.1
  have lb := gb.1
  exact loop88 N a b p q hp hq hN ga gb fa fb ca cb N a.linMonos b.linMonos 0 0 [] (by omega) (by omega) rfl rfl (by omega) (by simp; omega)
end Go.Abs.Try
