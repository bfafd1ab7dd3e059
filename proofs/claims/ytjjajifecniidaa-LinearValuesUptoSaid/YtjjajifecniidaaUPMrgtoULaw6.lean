import Derived.Test.YtjjajifecniidaaUMod2toUWd4
namespace Go.Abs.Try
set_option linter.unusedSimpArgs false
set_option linter.unusedVariables false
set_option maxRecDepth 100000
/-! ### The program's merge -/
theorem fits72_le {n : Nat} (h : n ≤ 8388608) : fits n 72 = true := by
  simp only [fits, roomMax]; exact decide_eq_true (by omega)
theorem abs_mul {p c : Int} (hp : -9223372036854775808 ≤ p ∧ p < 9223372036854775808) (hc : -9007199254740992 ≤ c ∧ c ≤ 9007199254740992) : (p * c).natAbs ≤ 83076749736557242056487941267521536 := by
  rw [Int.natAbs_mul]
  have h1 : p.natAbs ≤ 9223372036854775808 := by omega
  have h2 : c.natAbs ≤ 9007199254740992 := by omega
  exact Nat.le_trans (Nat.mul_le_mul h1 h2) (by decide)
def I64 (p : Int) : Prop := -9223372036854775808 ≤ p ∧ p < 9223372036854775808
def F53 (c : Int) : Prop := -9007199254740992 ≤ c ∧ c ≤ 9007199254740992
theorem F53.i64 {c : Int} (h : F53 c) : I64 c := ⟨by have := h.1; omega, by have := h.2; omega⟩
theorem fitsC_iff (x : Int) : fitsC x = true ↔ -9007199254740992 ≤ x ∧ x ≤ 9007199254740992 := by
  simp only [fitsC, Bool.and_eq_true, decide_eq_true_eq, ge_iff_le]
theorem fitsC_F53 {c : Int} (h : fitsC c = true) : F53 c := (fitsC_iff c).1 h
theorem packS0 : (⟨0, 0⟩ : LinearSum) = packS 0 := rfl
theorem once128 {p c : Int} (hp : I64 p) (hc : F53 c) : F128 (⟨0, 0⟩ : LinearSum) p c = some (packS (p * c)) := by
  have := abs_mul hp hc
  rw [packS0, plus128 0 p c hp hc.i64 (by omega) (by omega)]
  simp
theorem more128 {s p c : Int} (hs : s.natAbs ≤ 83076749736557242056487941267521536 * 1024) (hp : I64 p) (hc : F53 c) : F128 (packS s) p c = some (packS (s + p * c)) := by
  have := abs_mul hp hc
  exact plus128 s p c hp hc.i64 (by omega) (by omega)
theorem num129 {s : Int} (hs : s.natAbs ≤ 83076749736557242056487941267521536 * 1024) : ∃ n, F129 (packS s) = some (n, fitsW s) ∧ (fitsW s = true → n = s) := number129 s (by omega)
def allW (l : List Mono) : Bool := l.all fun m => fitsW m.monoCoef
abbrev S88 := (List Mono) × Int × Int
theorem next88 {step : S88 → Option (Sum S88 (Lin × Bool))} {K : Nat} {s n v i j i0 j0 : Int} {at' : Node} {out rest : List Mono}
    (hs : step (out, i0, j0) = iteO (fitsW s) (iteO (n == 0) (some (.inl (out, i, j))) (iteO (fits (out.length + 1) 72) (some (.inl (out ++ [(⟨n, at'⟩ : Mono)], i, j))) none)) (some (.inr ((⟨[], 0⟩ : Lin), false))))
    (hn : fitsW s = true → n = s) (hf : fits (out.length + 1) 72 = true)
    (ih : ∀ o, (o = out ∨ o = out ++ [⟨s, at'⟩]) → ∃ r, whileN step K (o, i, j) = some r ∧ r.2 = (allW rest && fitsW v) ∧ (r.2 = true → r.1 = ⟨o ++ nz rest, v⟩)) :
    ∃ r, whileN step (K + 1) (out, i0, j0) = some r ∧ r.2 = (allW (⟨s, at'⟩ :: rest) && fitsW v) ∧ (r.2 = true → r.1 = ⟨out ++ nz (⟨s, at'⟩ :: rest), v⟩) := by
  show ∃ r, bindO (step (out, i0, j0)) _ = some r ∧ _
  rw [hs]
  cases hw : fitsW s with
  | false =>
    refine ⟨_, rfl, ?_, fun h => by cases h⟩
    simp [allW, hw]
  | true =>
    have := hn hw
    subst this
    have ha : allW (⟨n, at'⟩ :: rest) = allW rest := by simp [allW, hw]
    rw [ha]
    cases h0 : n == 0 with
    | true =>
      obtain ⟨r, h1, h2, h3⟩ := ih out (.inl rfl)
      refine ⟨r, h1, h2, fun h => ?_⟩
      rw [h3 h]
      simp [nz, h0]
    | false =>
      obtain ⟨r, h1, h2, h3⟩ := ih _ (.inr rfl)
      refine ⟨r, by simp only [iteO_true, iteO_false, hf, bindO_some]; exact h1, h2, fun h => ?_⟩
      rw [h3 h]
      simp [nz, h0]
theorem drop_nil {α : Type} {l : List α} {i : Nat} (hi : i ≤ l.length) (h : l.drop i = []) : i = l.length := by
  have := congrArg List.length h
  simp at this; omega
theorem loop88 (N : Nat) (a b : Lin) (p q : Int) (hp : I64 p) (hq : I64 q) (hN : 8388608 ≤ N) (ga : Good a) (gb : Good b)
    (fa : ∀ m ∈ a.linMonos, fitsC m.monoCoef = true) (fb : ∀ m ∈ b.linMonos, fitsC m.monoCoef = true) (ca : F53 a.linConst) (cb : F53 b.linConst) :
    ∀ (K : Nat) (us bs : List Mono) (i j : Nat) (out : List Mono), i ≤ a.linMonos.length → j ≤ b.linMonos.length → a.linMonos.drop i = us → b.linMonos.drop j = bs →
      us.length + bs.length < K → out.length + us.length + bs.length ≤ 4194304 →
      ∃ r, whileN (F88_s1 N a b p q) K (out, (i : Int), (j : Int)) = some r ∧ r.2 = (allW (mrg p q us bs) && fitsW (p * a.linConst + q * b.linConst)) ∧ (r.2 = true → r.1 = ⟨out ++ nz (mrg p q us bs), p * a.linConst + q * b.linConst⟩)
  | 0, _, _, _, _, _, _, _, _, _, h, _ => absurd h (Nat.not_lt_zero _)
  | K + 1, us, bs, i, j, out, hi, hj, hu, hb, hK, ho => by
    have la := ga.1
    have lb := gb.1
    have wi : i < a.linMonos.length → IntKind.i64.wrap ((i : Int) + 1) = ((i + 1 : Nat) : Int) := fun h => by rw [wrap_id (by omega)]; rfl
    have wj : j < b.linMonos.length → IntKind.i64.wrap ((j : Int) + 1) = ((j + 1 : Nat) : Int) := fun h => by rw [wrap_id (by omega)]; rfl
    cases us with
    | nil =>
      have e := drop_nil hi hu
      have d1 : decide ((i : Int) < (a.linMonos.length : Int)) = false := decide_eq_false (by omega)
      have d2 : ((i : Int) == (a.linMonos.length : Int)) = true := beq_iff_eq.2 (by omega)
      cases bs with
      | nil =>
        have e2 := drop_nil hj hb
        have d3 : decide ((j : Int) < (b.linMonos.length : Int)) = false := decide_eq_false (by omega)
        have hm := abs_mul hp ca
        have hm2 := abs_mul hq cb
        obtain ⟨n, hn, hv⟩ := num129 (s := p * a.linConst + q * b.linConst) (by omega)
        show ∃ r, bindO (F88_s1 N a b p q (out, (i : Int), (j : Int))) _ = some r ∧ _
        simp only [F88_s1, d1, d2, d3, iteO_true, iteO_false, once128 hp ca, more128 (s := p * a.linConst) (by omega) hq cb, hn, bindO_some]
        refine ⟨_, rfl, ?_, fun h => ?_⟩
        · simp [mrg, allW]
        · rw [show n = _ from hv h]; simp [mrg, nz]
      | cons y bs =>
        obtain ⟨hy, hys⟩ := drop_cons hb
        obtain ⟨hj', hy'⟩ := List.getElem?_eq_some_iff.1 hy
        have hym : y ∈ b.linMonos := hy' ▸ List.getElem_mem hj'
        have d3 : decide ((j : Int) < (b.linMonos.length : Int)) = true := decide_eq_true (by omega)
        have hc := fitsC_F53 (fb y hym)
        have hm := abs_mul hq hc
        obtain ⟨n, hn, hv⟩ := num129 (s := q * y.monoCoef) (by omega)
        simp only [List.length_nil, List.length_cons] at hK ho
        have := next88 (i0 := (i : Int)) (j0 := (j : Int)) (step := F88_s1 N a b p q) (K := K) (s := q * y.monoCoef) (n := n) (v := p * a.linConst + q * b.linConst) (i := (i : Int)) (j := ((j + 1 : Nat) : Int)) (at' := y.monoAtom) (out := out) (rest := mrg p q [] bs) (by simp only [F88_s1, d1, d2, d3, iteO_true, iteO_false, atO_get hy, once128 hq hc, hn, bindO_some, wj hj']) hv (fits72_le (by omega))
          (fun o h => loop88 N a b p q hp hq hN ga gb fa fb ca cb K [] bs i (j + 1) o hi (by omega) hu hys (by simp; omega) (by rcases h with rfl | rfl <;> (try simp only [List.length_append, List.length_cons, List.length_nil]) <;> omega))
        have em : mrg p q [] (y :: bs) = ⟨q * y.monoCoef, y.monoAtom⟩ :: mrg p q [] bs := by simp [mrg]
        rw [em]; exact this
    | cons x us =>
      obtain ⟨hx, hxs⟩ := drop_cons hu
      obtain ⟨hi', hx'⟩ := List.getElem?_eq_some_iff.1 hx
      have hxm : x ∈ a.linMonos := hx' ▸ List.getElem_mem hi'
      have hcx := fitsC_F53 (fa x hxm)
      have hmx := abs_mul hp hcx
      have d1 : decide ((i : Int) < (a.linMonos.length : Int)) = true := decide_eq_true (by omega)
      have d2 : ((i : Int) == (a.linMonos.length : Int)) = false := beq_eq_false_iff_ne.2 (by omega)
      cases bs with
      | nil =>
        have e2 := drop_nil hj hb
        have d3 : ((j : Int) == (b.linMonos.length : Int)) = true := beq_iff_eq.2 (by omega)
        obtain ⟨n, hn, hv⟩ := num129 (s := p * x.monoCoef) (by omega)
        simp only [List.length_nil, List.length_cons] at hK ho
        have := next88 (i0 := (i : Int)) (j0 := (j : Int)) (step := F88_s1 N a b p q) (K := K) (s := p * x.monoCoef) (n := n) (v := p * a.linConst + q * b.linConst) (i := ((i + 1 : Nat) : Int)) (j := (j : Int)) (at' := x.monoAtom) (out := out) (rest := mrg p q us []) (by simp only [F88_s1, d1, d2, d3, iteO_true, iteO_false, atO_get hx, once128 hp hcx, hn, bindO_some, wi hi']) hv (fits72_le (by omega))
          (fun o h => loop88 N a b p q hp hq hN ga gb fa fb ca cb K us [] (i + 1) j o (by omega) hj hxs hb (by simp; omega) (by rcases h with rfl | rfl <;> (try simp only [List.length_append, List.length_cons, List.length_nil]) <;> omega))
        have em : mrg p q (x :: us) [] = ⟨p * x.monoCoef, x.monoAtom⟩ :: mrg p q us [] := by cases us <;> simp [mrg]
        rw [em]; exact this
      | cons y bs =>
        obtain ⟨hy, hys⟩ := drop_cons hb
        obtain ⟨hj', hy'⟩ := List.getElem?_eq_some_iff.1 hy
        have hym : y ∈ b.linMonos := hy' ▸ List.getElem_mem hj'
        have hcy := fitsC_F53 (fb y hym)
        have hmy := abs_mul hq hcy
        have d3 : ((j : Int) == (b.linMonos.length : Int)) = false := beq_eq_false_iff_ne.2 (by omega)
        have hcmp := cmp18 N x.monoAtom y.monoAtom (by have := ga.2 x hxm; omega)
        simp only [List.length_cons] at hK ho
        by_cases l1 : cmpR x.monoAtom y.monoAtom < 0
        · have d4 : decide (cmpR x.monoAtom y.monoAtom ≤ 0) = true := decide_eq_true (by omega)
          have d5 : decide (cmpR x.monoAtom y.monoAtom ≥ 0) = false := decide_eq_false (by omega)
          obtain ⟨n, hn, hv⟩ := num129 (s := p * x.monoCoef) (by omega)
          have := next88 (i0 := (i : Int)) (j0 := (j : Int)) (step := F88_s1 N a b p q) (K := K) (s := p * x.monoCoef) (n := n) (v := p * a.linConst + q * b.linConst) (i := ((i + 1 : Nat) : Int)) (j := (j : Int)) (at' := x.monoAtom) (out := out) (rest := mrg p q us (y :: bs)) (by simp only [F88_s1, d1, d2, d3, iteO_true, iteO_false, atO_get hx, atO_get hy, hcmp, d4, d5, once128 hp hcx, hn, bindO_some, wi hi']) hv (fits72_le (by omega))
            (fun o h => loop88 N a b p q hp hq hN ga gb fa fb ca cb K us (y :: bs) (i + 1) j o (by omega) hj hxs hb (by simp; omega) (by rcases h with rfl | rfl <;> (try simp only [List.length_append, List.length_cons, List.length_nil]) <;> omega))
          have em : mrg p q (x :: us) (y :: bs) = ⟨p * x.monoCoef, x.monoAtom⟩ :: mrg p q us (y :: bs) := by rw [mrg, if_pos l1]
          rw [em]; exact this
        · by_cases l2 : cmpR x.monoAtom y.monoAtom = 0
          · have d4 : decide (cmpR x.monoAtom y.monoAtom ≤ 0) = true := decide_eq_true (by omega)
            have d5 : decide (cmpR x.monoAtom y.monoAtom ≥ 0) = true := decide_eq_true (by omega)
            obtain ⟨n, hn, hv⟩ := num129 (s := p * x.monoCoef + q * y.monoCoef) (by omega)
            have := next88 (i0 := (i : Int)) (j0 := (j : Int)) (step := F88_s1 N a b p q) (K := K) (s := p * x.monoCoef + q * y.monoCoef) (n := n) (v := p * a.linConst + q * b.linConst) (i := ((i + 1 : Nat) : Int)) (j := ((j + 1 : Nat) : Int)) (at' := y.monoAtom) (out := out) (rest := mrg p q us bs) (by simp only [F88_s1, d1, d2, d3, iteO_true, iteO_false, atO_get hx, atO_get hy, hcmp, d4, d5, once128 hp hcx, more128 (s := p * x.monoCoef) (by omega) hq hcy, hn, bindO_some, wi hi', wj hj']) hv (fits72_le (by omega))
              (fun o h => loop88 N a b p q hp hq hN ga gb fa fb ca cb K us bs (i + 1) (j + 1) o (by omega) (by omega) hxs hys (by omega) (by rcases h with rfl | rfl <;> (try simp only [List.length_append, List.length_cons, List.length_nil]) <;> omega))
            have em : mrg p q (x :: us) (y :: bs) = ⟨p * x.monoCoef + q * y.monoCoef, y.monoAtom⟩ :: mrg p q us bs := by rw [mrg, if_neg l1, if_pos l2]
            rw [em]; exact this
          · have d4 : decide (cmpR x.monoAtom y.monoAtom ≤ 0) = false := decide_eq_false (by omega)
            have d5 : decide (cmpR x.monoAtom y.monoAtom ≥ 0) = true := decide_eq_true (by omega)
            obtain ⟨n, hn, hv⟩ := num129 (s := q * y.monoCoef) (by omega)
            have := next88 (i0 := (i : Int)) (j0 := (j : Int)) (step := F88_s1 N a b p q) (K := K) (s := q * y.monoCoef) (n := n) (v := p * a.linConst + q * b.linConst) (i := (i : Int)) (j := ((j + 1 : Nat) : Int)) (at' := y.monoAtom) (out := out) (rest := mrg p q (x :: us) bs) (by simp only [F88_s1, d1, d2, d3, iteO_true, iteO_false, atO_get hx, atO_get hy, hcmp, d4, d5, once128 hq hcy, hn, bindO_some, wj hj']) hv (fits72_le (by omega))
              (fun o h => loop88 N a b p q hp hq hN ga gb fa fb ca cb K (x :: us) bs i (j + 1) o hi (by omega) hu hys (by simp; omega) (by rcases h with rfl | rfl <;> (try simp only [List.length_append, List.length_cons, List.length_nil]) <;> omega))
            have em : mrg p q (x :: us) (y :: bs) = ⟨q * y.monoCoef, y.monoAtom⟩ :: mrg p q (x :: us) bs := by rw [mrg, if_neg l1, if_neg l2]
            rw [em]; exact this
theorem merge88 (N : Nat) (a b : Lin) (p q : Int) (hp : I64 p) (hq : I64 q) (hN : 8388608 ≤ N) (ga : Good a) (gb : Good b)
    (fa : ∀ m ∈ a.linMonos, fitsC m.monoCoef = true) (fb : ∀ m ∈ b.linMonos, fitsC m.monoCoef = true) (ca : F53 a.linConst) (cb : F53 b.linConst) :
    ∃ r, F88 N a b p q = some r ∧ r.2 = (allW (mrg p q a.linMonos b.linMonos) && fitsW (p * a.linConst + q * b.linConst)) ∧ (r.2 = true → r.1 = ⟨nz (mrg p q a.linMonos b.linMonos), p * a.linConst + q * b.linConst⟩) := by
  have la := ga.1
  have lb := gb.1
  exact loop88 N a b p q hp hq hN ga gb fa fb ca cb N a.linMonos b.linMonos 0 0 [] (by omega) (by omega) rfl rfl (by omega) (by simp; omega)
end Go.Abs.Try
namespace Go.Abs.Try
set_option linter.unusedSimpArgs false
set_option linter.unusedVariables false
set_option maxRecDepth 100000
/-! ### Nodes that compare as equal are equal -/
theorem cmb_zero {u v : Int} (h : cmb u v = 0) : u = 0 ∧ v = 0 := by
  unfold cmb at h
  split at h
  · exact ⟨by assumption, h⟩
  · exact absurd h (by assumption)
mutual
theorem cmpR_zero : ∀ a b : Node, cmpR a b = 0 → a = b
  | ⟨o, s, nm, k, ks⟩, ⟨o', s', nm', k', ks'⟩, h => by
    rw [cmpR_eq] at h
    obtain ⟨h1, h⟩ := cmb_zero h
    obtain ⟨h2, h⟩ := cmb_zero h
    obtain ⟨h3, h⟩ := cmb_zero h
    obtain ⟨h4, h⟩ := cmb_zero h
    obtain ⟨h5, h⟩ := cmb_zero h
    have e1 := sg_zero h1; have e2 := sg_zero h2; have e3 := ba_inj (cB_zero h3); have e4 := sg_zero h4; have e5 := sg_zero h5
    simp only at e1 e2 e3 e4 e5 h
    have e6 := cmpL_zero ks ks' (by omega) h
    subst e1; subst e2; subst e3; subst e4; subst e6; rfl
theorem cmpL_zero : ∀ a b : List Node, a.length = b.length → cmpL a b = 0 → a = b
  | [], [], _, _ => rfl
  | [], _ :: _, h, _ => by simp at h
  | _ :: _, [], h, _ => by simp at h
  | a :: l, b :: r, hl, h => by
    rw [cmpL] at h
    obtain ⟨h1, h2⟩ := cmb_zero h
    rw [cmpR_zero a b h1, cmpL_zero l r (by simpa using hl) h2]
end
end Go.Abs.Try
namespace Go.Abs.Try
set_option linter.unusedSimpArgs false
set_option linter.unusedVariables false
set_option maxRecDepth 100000
/-! ### Values of sums -/
def lsum (w : Node → Int) : List Mono → Int
  | [] => 0
  | m :: l => m.monoCoef * w m.monoAtom + lsum w l
theorem lsum_nz (w : Node → Int) : ∀ l : List Mono, lsum w (nz l) = lsum w l
  | [] => rfl
  | m :: l => by
    have ih := lsum_nz w l
    by_cases h : m.monoCoef = 0
    · have : nz (m :: l) = nz l := by simp [nz, h]
      rw [this, ih, lsum, h]; simp
    · have : nz (m :: l) = m :: nz l := by simp [nz, h]
      rw [this, lsum, lsum, ih]
theorem lsum_map (w : Node → Int) (p : Int) : ∀ l : List Mono, lsum w (l.map fun m => (⟨p * m.monoCoef, m.monoAtom⟩ : Mono)) = p * lsum w l
  | [] => by simp [lsum]
  | m :: l => by rw [List.map_cons, lsum, lsum, lsum_map w p l, Int.mul_add, Int.mul_assoc]
theorem lsum_mrg (w : Node → Int) (p q : Int) : ∀ us bs : List Mono, lsum w (mrg p q us bs) = p * lsum w us + q * lsum w bs := by
  intro us bs
  induction us, bs using mrg.induct with
  | case1 bs => rw [mrg, lsum_map]; simp [lsum]
  | case2 a us => rw [mrg, lsum_map]; simp [lsum]
  | case3 a us b bs h ih => rw [mrg, if_pos h, lsum, ih]; simp only [lsum, Int.mul_add, Int.add_mul, Int.mul_assoc]; omega
  | case4 a us b bs h h2 ih =>
    rw [mrg, if_neg h, if_pos h2, lsum, ih]; simp only [lsum, cmpR_zero _ _ h2, Int.mul_add, Int.add_mul, Int.mul_assoc]; omega
  | case5 a us b bs h h2 ih => rw [mrg, if_neg h, if_neg h2, lsum, ih]; simp only [lsum, Int.mul_add, Int.add_mul, Int.mul_assoc]; omega
/-! ### What sorted nodes have -/
theorem sorted_kid {n k : Node} (h : sortedR n = true) (hk : k ∈ n.kids) : sortedR k = true := by
  rw [sortedR_eq, Bool.and_eq_true] at h
  exact List.all_eq_true.1 h.2 k hk
theorem own_num (n : Node) (h : ownA n = true) (ho : n.op = 2 ∨ n.op = 7) : -1000000000000 ≤ n.num ∧ n.num ≤ 1000000000000 := by
  have h1 := own118A 30 n (Nat.le_refl _)
  rw [h] at h1
  have e1 : (n.op == 1) = false := beq_eq_false_iff_ne.2 (by omega)
  have e3 : (n.op == 3) = false := beq_eq_false_iff_ne.2 (by omega)
  simp only [F118, e1, e3, iteO_false] at h1
  have key : ∀ z : Option Bool, iteO (n.op == 2) (iteO (decide (n.num ≥ (-1000000000000))) (some (decide (n.num ≤ 1000000000000))) (some false)) (iteO (n.op == 7) (iteO (decide (n.num ≥ (-1000000000000))) (some (decide (n.num ≤ 1000000000000))) (some false)) z) = some true → -1000000000000 ≤ n.num ∧ n.num ≤ 1000000000000 := by
    intro z hz
    have fin : iteO (decide (n.num ≥ (-1000000000000))) (some (decide (n.num ≤ 1000000000000))) (some false) = some true → -1000000000000 ≤ n.num ∧ n.num ≤ 1000000000000 := by
      intro hz
      by_cases hg : n.num ≥ -1000000000000
      · rw [decide_eq_true hg, iteO_true] at hz
        injection hz with hz
        have := of_decide_eq_true hz
        omega
      · rw [decide_eq_false hg] at hz; cases hz
    by_cases h2 : n.op = 2
    · rw [beq_iff_eq.2 h2, iteO_true] at hz; exact fin hz
    · rw [beq_eq_false_iff_ne.2 h2, iteO_false, beq_iff_eq.2 (by omega : n.op = 7), iteO_true] at hz; exact fin hz
  cases hx : n.name.toList == (⟨#[]⟩ : ByteArray).toList with
  | false => rw [hx] at h1; cases h1
  | true =>
    rw [hx, iteO_true] at h1
    cases hy : n.sortf == 0 with
    | false => rw [hy] at h1; cases h1
    | true => rw [hy, iteO_true] at h1; exact key _ h1
theorem shape_len (op : Int) (ss : List Int) (h : shapeB op ss = true) : arity op ≤ ss.length := by
  have two : ∀ w, F153 op = some (w, true) → w.length = arity op → arity op ≤ ss.length := by
    intro w hw hl
    simp only [shapeB, hw, Option.getD_some, cond_true, beq_iff_eq] at h
    rw [h, hl]; exact Nat.le_refl _
  by_cases h8 : op = 8
  · subst h8
    rcases three ss with ⟨a, b, c, rfl⟩ | ⟨_, h3⟩
    · exact Nat.le_refl 3
    · have : shapeB 8 ss = m3 (fun a b c => (a == 2) && ((b == c) && okB b)) false ss := rfl
      rw [this, h3] at h; cases h
  by_cases h37 : op = 37
  · subst h37
    rcases Try.two ss with ⟨a, b, rfl⟩ | ⟨_, h3⟩
    · exact Nat.le_refl 2
    · have : shapeB 37 ss = m2 (fun a b => (a == b) && okB a) false ss := rfl
      rw [this, h3] at h; cases h
  by_cases h4 : op = 4; · subst h4; exact two [1, 1] rfl rfl
  by_cases h5 : op = 5; · subst h5; exact two [1, 1] rfl rfl
  by_cases h6 : op = 6; · subst h6; exact two [1] rfl rfl
  by_cases h7 : op = 7; · subst h7; exact two [1] rfl rfl
  by_cases h10 : op = 10; · subst h10; exact two [1] rfl rfl
  by_cases h11 : op = 11; · subst h11; exact two [4, 4] rfl rfl
  by_cases h12 : op = 12; · subst h12; exact two [4, 4] rfl rfl
  by_cases h13 : op = 13; · subst h13; exact two [4, 4] rfl rfl
  by_cases h14 : op = 14; · subst h14; exact two [5, 1] rfl rfl
  by_cases h15 : op = 15; · subst h15; exact two [5, 1, 1] rfl rfl
  by_cases h16 : op = 16; · subst h16; exact two [5] rfl rfl
  by_cases h32 : op = 32; · subst h32; exact two [2] rfl rfl
  by_cases h33 : op = 33; · subst h33; exact two [2, 2] rfl rfl
  by_cases h34 : op = 34; · subst h34; exact two [2, 2] rfl rfl
  by_cases h35 : op = 35; · subst h35; exact two [2, 2] rfl rfl
  by_cases h36 : op = 36; · subst h36; exact two [2, 2] rfl rfl
  by_cases h38 : op = 38; · subst h38; exact two [1, 1] rfl rfl
  by_cases h39 : op = 39; · subst h39; exact two [1, 1] rfl rfl
  by_cases h40 : op = 40; · subst h40; exact two [1, 4] rfl rfl
  by_cases h41 : op = 41; · subst h41; exact two [4, 4] rfl rfl
  have : arity op = 0 := by
    simp only [arity, beq_eq_false_iff_ne.2 h4, beq_eq_false_iff_ne.2 h5, beq_eq_false_iff_ne.2 h6, beq_eq_false_iff_ne.2 h7, beq_eq_false_iff_ne.2 h8, beq_eq_false_iff_ne.2 h10, beq_eq_false_iff_ne.2 h11, beq_eq_false_iff_ne.2 h12, beq_eq_false_iff_ne.2 h13, beq_eq_false_iff_ne.2 h14, beq_eq_false_iff_ne.2 h15, beq_eq_false_iff_ne.2 h16,
      beq_eq_false_iff_ne.2 h32, beq_eq_false_iff_ne.2 h33, beq_eq_false_iff_ne.2 h34, beq_eq_false_iff_ne.2 h35, beq_eq_false_iff_ne.2 h36, beq_eq_false_iff_ne.2 h37, beq_eq_false_iff_ne.2 h38, beq_eq_false_iff_ne.2 h39, beq_eq_false_iff_ne.2 h40, beq_eq_false_iff_ne.2 h41, Bool.or_self, cond_false]
  omega
theorem fine_own {n : Node} (h : sortedR n = true) : Fine n := by
  rw [sortedR_eq, Bool.and_eq_true, nodeB, Bool.and_eq_true] at h
  exact ⟨fun _ => by have := shape_len _ _ h.1.2; simpa using this, own_num n h.1.1⟩
mutual
theorem fine_all : ∀ n : Node, sortedR n = true → ∀ x ∈ nodes n, Fine x
  | ⟨o, s, nm, k, ks⟩, h, x, hx => by
    rw [nodes] at hx
    rcases List.mem_cons.1 hx with rfl | hx
    · exact fine_own h
    · exact fine_allL ks (fun k hk => sorted_kid h hk) x hx
theorem fine_allL : ∀ ks : List Node, (∀ k ∈ ks, sortedR k = true) → ∀ x ∈ nodesL ks, Fine x
  | [], _, x, hx => by cases hx
  | k :: ks, h, x, hx => by
    rw [nodesL] at hx
    rcases List.mem_append.1 hx with hx | hx
    · exact fine_all k (h k (by simp)) x hx
    · exact fine_allL ks (fun y hy => h y (by simp [hy])) x hx
end
/-! ### The form of a term -/
structure VF (b : Nat) (f : Lin) : Prop where
  len : f.linMonos.length ≤ b
  mon : ∀ m ∈ f.linMonos, fitsC m.monoCoef = true ∧ m.monoAtom.size ≤ b ∧ sortedR m.monoAtom = true
  con : F53 f.linConst
theorem VF.good {b : Nat} {f : Lin} (h : VF b f) (hb : b ≤ 1048576) : Good f := ⟨by have := h.len; omega, fun m hm => by have := (h.mon m hm).2.1; omega⟩
def wV (m : List Entry) (a : Node) : Int := (evalR m a).1.valNum
theorem mrg_len (p q : Int) : ∀ us bs : List Mono, (mrg p q us bs).length ≤ us.length + bs.length := by
  intro us bs
  induction us, bs using mrg.induct with
  | case1 bs => rw [mrg]; simp
  | case2 a us => rw [mrg]; simp
  | case3 a us b bs h ih => rw [mrg, if_pos h]; simp only [List.length_cons] at ih ⊢; omega
  | case4 a us b bs h h2 ih => rw [mrg, if_neg h, if_pos h2]; simp only [List.length_cons] at ih ⊢; omega
  | case5 a us b bs h h2 ih => rw [mrg, if_neg h, if_neg h2]; simp only [List.length_cons] at ih ⊢; omega
theorem fitsW_F53 {x : Int} (h : fitsW x = true) : F53 x := fitsC_F53 h
theorem zero_vf (b : Nat) : VF b ⟨[], 0⟩ := ⟨by simp, by simp, ⟨by show (-9007199254740992 : Int) ≤ 0; decide, by show (0 : Int) ≤ 9007199254740992; decide⟩⟩
theorem merge_vf (N : Nat) (hN : 8388608 ≤ N) {a b : Lin} {x y z : Nat} (p q : Int) (hp : I64 p) (hq : I64 q) (ha : VF x a) (hb : VF y b) (hz : x + y ≤ z) (hzb : z ≤ 1048576) :
    ∃ r, F88 N a b p q = some r ∧ (r.2 = true → VF z r.1 ∧ ∀ w : Node → Int, r.1.linConst + lsum w r.1.linMonos = p * (a.linConst + lsum w a.linMonos) + q * (b.linConst + lsum w b.linMonos)) := by
  obtain ⟨r, h1, h2, h3⟩ := merge88 N a b p q hp hq hN (ha.good (by omega)) (hb.good (by omega)) (fun m hm => (ha.mon m hm).1) (fun m hm => (hb.mon m hm).1) ha.con hb.con
  refine ⟨r, h1, fun hr => ?_⟩
  have e := h3 hr
  rw [h2, Bool.and_eq_true] at hr
  have hlen := mrg_len p q a.linMonos b.linMonos
  have hnz : (nz (mrg p q a.linMonos b.linMonos)).length ≤ (mrg p q a.linMonos b.linMonos).length := List.length_filter_le _ _
  have l1 := ha.len; have l2 := hb.len
  rw [e]
  refine ⟨⟨by show (nz _).length ≤ z; omega, fun m hm => ?_, fitsW_F53 hr.2⟩, fun w => ?_⟩
  · have hm' := (List.mem_filter.1 hm).1
    have hw : fitsW m.monoCoef = true := List.all_eq_true.1 hr.1 m hm'
    obtain ⟨k, hk, ek⟩ := mrg_mem p q _ _ m hm'
    rw [ek]
    rcases hk with hk | hk
    · exact ⟨hw, by have := (ha.mon k hk).2.1; omega, (ha.mon k hk).2.2⟩
    · exact ⟨hw, by have := (hb.mon k hk).2.1; omega, (hb.mon k hk).2.2⟩
  · show p * a.linConst + q * b.linConst + lsum w (nz (mrg p q a.linMonos b.linMonos)) = _
    rw [lsum_nz, lsum_mrg, Int.mul_add, Int.mul_add]; omega
theorem eval_num (m : List Entry) (n : Node) (h : (evalR m n).2 = true) (h13 : ((n.op == 1) || (n.op == 3)) = false) : (∀ k ∈ n.kids, (evalR m k).2 = true) ∧ evalR m n = applyR n.op n.num ((n.kids.map (evalR m)).map (·.1)) := by
  rw [evalR_eq] at h ⊢
  cases hall : (n.kids.map (evalR m)).all (·.2) with
  | false => rw [hall] at h; cases h
  | true =>
    rw [cond_true, h13, cond_false]
    exact ⟨fun k hk => List.all_eq_true.1 hall _ (List.mem_map.2 ⟨k, hk, rfl⟩), rfl⟩
theorem gV_kid {m : List Entry} {n k : Node} {i : Nat} (h : n.kids[i]? = some k) : gV ((n.kids.map (evalR m)).map (·.1)) i = (evalR m k).1 := by
  rw [gV, List.getD_eq_getElem?_getD, List.getElem?_map, List.getElem?_map, h]; rfl
theorem kid_at {n : Node} {i : Nat} (h : i < n.kids.length) : ∃ k, n.kids[i]? = some k ∧ atO n.kids (i : Int) = some k ∧ k ∈ n.kids := by
  have e : n.kids[i]? = some n.kids[i] := List.getElem?_eq_getElem h
  exact ⟨_, e, atO_get e, List.getElem_mem h⟩
theorem two_sizes {n k0 k1 : Node} (h0 : n.kids[0]? = some k0) (h1 : n.kids[1]? = some k1) : k0.size + k1.size ≤ n.size := by
  obtain ⟨o, s, nm, k, ks⟩ := n
  rw [Node.size_eq ⟨o, s, nm, k, ks⟩]
  cases ks with
  | nil => simp at h0
  | cons a ks =>
    cases ks with
    | nil => simp at h1
    | cons b ks =>
      have h0 : a = k0 := by simpa using h0
      have h1 : b = k1 := by simpa using h1
      subst h0; subst h1
      show a.size + b.size ≤ 1 + (a.size + (b.size + (ks.map Node.size).sum)); omega
theorem eval_ok {m : List Entry} (hm : MOk m) {n : Node} (hb : n.size ≤ 1048576) (hs : sortedR n = true) (h : (evalR m n).2 = true) : VOk (evalR m n).1 :=
  (eval127 m hm (1048601 + n.size) n (by omega) hb (fine_all n hs)).2 h
theorem form85 (m : List Entry) (hm : MOk m) : ∀ (N : Nat) (n : Node), 8388608 + n.size < N → n.size ≤ 1048576 → sortedR n = true → ∃ f ok, F85 N n = some (f, ok) ∧ (ok = true → VF n.size f ∧ ((evalR m n).2 = true → wV m n = f.linConst + lsum (wV m) f.linMonos))
  | 0, n, h, _, _ => absurd h (Nat.not_lt_zero _)
  | N + 1, n, h, hb, hs => by
    show ∃ f ok, F85b (F85 N) N n = some (f, ok) ∧ _
    have hfine := fine_own hs
    have hown : ownA n = true := by
      rw [sortedR_eq, Bool.and_eq_true, nodeB, Bool.and_eq_true] at hs; exact hs.1.1
    have ih : ∀ k ∈ n.kids, ∃ f ok, F85 N k = some (f, ok) ∧ (ok = true → VF k.size f ∧ ((evalR m k).2 = true → wV m k = f.linConst + lsum (wV m) f.linMonos)) := fun k hk => by
      have := kids_size hk
      exact form85 m hm N k (by omega) (by omega) (sorted_kid hs hk)
    have nev : ∀ op : Int, n.op = op → op ≠ 1 → op ≠ 3 → ((n.op == 1) || (n.op == 3)) = false := fun op e h1 h3 => by
      rw [e, beq_eq_false_iff_ne.2 h1, beq_eq_false_iff_ne.2 h3]; rfl
    have ari : ∀ op : Int, n.op = op → op ≠ 1 → op ≠ 3 → arity op ≤ n.kids.length := fun op e h1 h3 => by
      have := hfine.ar (nev op e h1 h3); rwa [e] at this
    have hN : 8388608 ≤ N := by omega
    simp only [F85b]
    by_cases h2 : n.op = 2
    · have e := beq_iff_eq.2 h2
      simp only [e, iteO_true, fitsW112, bindO_some]
      refine ⟨_, _, rfl, fun hok => ⟨⟨by simp, by simp, fitsW_F53 hok⟩, fun hev => ?_⟩⟩
      obtain ⟨_, he⟩ := eval_num m n hev (nev 2 h2 (by decide) (by decide))
      rw [wV, he, h2]; simp [applyR, numV, lsum]
    rw [beq_eq_false_iff_ne.2 h2]; simp only [iteO_false]
    -- one kid, times p
    have one : ∀ (p : Int) (op : Int), n.op = op → op ≠ 1 → op ≠ 3 → arity op = 1 → I64 p → (∀ k, n.kids[0]? = some k → (evalR m n).2 = true → wV m n = p * wV m k) →
        ∃ f ok, (bindO (atO n.kids 0) fun x => bindO (F85 N x) fun r => iteO r.2 (bindO (F88 N r.1 (⟨[], 0⟩ : Lin) p 0) fun q => some (q.1, q.2)) (some ((⟨[], 0⟩ : Lin), false))) = some (f, ok) ∧ (ok = true → VF n.size f ∧ ((evalR m n).2 = true → wV m n = f.linConst + lsum (wV m) f.linMonos)) := by
      intro p op eo n1 n3 ea hp hw
      obtain ⟨k, k1, k2, k3⟩ := kid_at (n := n) (i := 0) (by have := ari op eo n1 n3; omega)
      have k2 : atO n.kids 0 = some k := k2
      obtain ⟨f, ok, f1, f2⟩ := ih k k3
      have hks := kids_size k3
      simp only [k2, f1, bindO_some]
      cases ok with
      | false => exact ⟨_, _, rfl, fun h => by cases h⟩
      | true =>
        obtain ⟨g1, g2⟩ := f2 rfl
        obtain ⟨r, r1, r2⟩ := merge_vf N hN (z := n.size) p 0 hp (by unfold I64; decide) g1 (zero_vf 0) (by omega) hb
        simp only [iteO_true, r1, bindO_some]
        refine ⟨_, _, rfl, fun hok => ⟨(r2 hok).1, fun hev => ?_⟩⟩
        have hk := (eval_num m n hev (nev op eo n1 n3)).1 k k3
        rw [(r2 hok).2 (wV m), ← g2 hk, hw k k1 hev]; simp [lsum]
    by_cases h6 : n.op = 6
    · rw [beq_iff_eq.2 h6]; simp only [iteO_true]
      refine one (-1) 6 h6 (by decide) (by decide) rfl (by unfold I64; decide) fun k hk hev => ?_
      obtain ⟨_, he⟩ := eval_num m n hev (nev 6 h6 (by decide) (by decide))
      rw [wV, he, h6]
      simp [-List.map_map, applyR, numV, gV_kid hk, wV]
    rw [beq_eq_false_iff_ne.2 h6]; simp only [iteO_false]
    by_cases h7 : n.op = 7
    · rw [beq_iff_eq.2 h7]; simp only [iteO_true]
      have hnum := own_num n hown (.inr h7)
      refine one n.num 7 h7 (by decide) (by decide) rfl (by unfold I64; omega) fun k hk hev => ?_
      obtain ⟨hall, he⟩ := eval_num m n hev (nev 7 h7 (by decide) (by decide))
      have hev' : (applyR n.op n.num ((n.kids.map (evalR m)).map (·.1))).2 = true := by rw [← he]; exact hev
      rw [h7] at hev' he
      have e7 : applyR 7 n.num ((n.kids.map (evalR m)).map (·.1)) = scaledR n.num (wV m k) := by simp [-List.map_map, applyR, gV_kid hk, wV]
      rw [e7] at hev' he
      have hk := eval_ok hm (by have := kids_size (List.mem_of_getElem? hk); omega) (sorted_kid hs (List.mem_of_getElem? hk)) (hall k (List.mem_of_getElem? hk))
      have := (scaled174 n.num (wV m k) hnum hk.1).2.2 hev'
      rw [wV, he, this]; rfl
    rw [beq_eq_false_iff_ne.2 h7]; simp only [iteO_false]
    -- two kids
    have pair : ∀ (q : Int) (op : Int), n.op = op → op ≠ 1 → op ≠ 3 → arity op = 2 → I64 q → (∀ k0 k1, n.kids[0]? = some k0 → n.kids[1]? = some k1 → (evalR m n).2 = true → wV m n = wV m k0 + q * wV m k1) →
        (∀ x y : Lin, (iteO (n.op == 5) (bindO (F88 N x y 1 (-1)) fun r => some (r.1, r.2)) (bindO (F88 N x y 1 1) fun r => some (r.1, r.2))) = bindO (F88 N x y 1 q) fun r => some (r.1, r.2)) →
        ∃ f ok, (bindO (atO n.kids 0) fun x => bindO (F85 N x) fun r => bindO (atO n.kids 1) fun y => bindO (F85 N y) fun s => iteO r.2 (iteO s.2 (bindO (F88 N r.1 s.1 1 q) fun q => some (q.1, q.2)) (some ((⟨[], 0⟩ : Lin), false))) (some ((⟨[], 0⟩ : Lin), false))) = some (f, ok) ∧ (ok = true → VF n.size f ∧ ((evalR m n).2 = true → wV m n = f.linConst + lsum (wV m) f.linMonos)) := by
      intro q op eo n1 n3 ea hq hw _
      have ha := ari op eo n1 n3
      obtain ⟨k0, a1, a2, a3⟩ := kid_at (n := n) (i := 0) (by omega)
      obtain ⟨k1, b1, b2, b3⟩ := kid_at (n := n) (i := 1) (by omega)
      have a2 : atO n.kids 0 = some k0 := a2
      have b2 : atO n.kids 1 = some k1 := b2
      obtain ⟨f, ok, f1, f2⟩ := ih k0 a3
      obtain ⟨g, ok', g1, g2⟩ := ih k1 b3
      have hz := two_sizes a1 b1
      simp only [a2, b2, f1, g1, bindO_some]
      cases ok with
      | false => exact ⟨_, _, rfl, fun h => by cases h⟩
      | true =>
        cases ok' with
        | false => exact ⟨_, _, rfl, fun h => by cases h⟩
        | true =>
          obtain ⟨u1, u2⟩ := f2 rfl
          obtain ⟨v1, v2⟩ := g2 rfl
          obtain ⟨r, r1, r2⟩ := merge_vf N hN (z := n.size) 1 q (by unfold I64; decide) hq u1 v1 hz hb
          simp only [iteO_true, r1, bindO_some]
          refine ⟨_, _, rfl, fun hok => ⟨(r2 hok).1, fun hev => ?_⟩⟩
          have hall := (eval_num m n hev (nev op eo n1 n3)).1
          rw [(r2 hok).2 (wV m), ← u2 (hall k0 a3), ← v2 (hall k1 b3), hw k0 k1 a1 b1 hev]; omega
    by_cases h4 : n.op = 4
    · have e5 : (n.op == 5) = false := beq_eq_false_iff_ne.2 (by omega)
      rw [beq_iff_eq.2 h4]; simp only [iteO_true, e5, iteO_false]
      refine pair 1 4 h4 (by decide) (by decide) rfl (by unfold I64; decide) (fun k0 k1 hk0 hk1 hev => ?_) (fun x y => by rw [e5]; rfl)
      obtain ⟨_, he⟩ := eval_num m n hev (nev 4 h4 (by decide) (by decide))
      rw [wV, he, h4]
      simp [-List.map_map, applyR, numV, gV_kid hk0, gV_kid hk1, wV]
    rw [beq_eq_false_iff_ne.2 h4]; simp only [iteO_false]
    by_cases h5 : n.op = 5
    · rw [beq_iff_eq.2 h5]; simp only [iteO_true]
      refine pair (-1) 5 h5 (by decide) (by decide) rfl (by unfold I64; decide) (fun k0 k1 hk0 hk1 hev => ?_) (fun x y => by rw [beq_iff_eq.2 h5]; rfl)
      obtain ⟨_, he⟩ := eval_num m n hev (nev 5 h5 (by decide) (by decide))
      rw [wV, he, h5]
      simp [-List.map_map, applyR, numV, gV_kid hk0, gV_kid hk1, wV]
      omega
    rw [beq_eq_false_iff_ne.2 h5]; simp only [iteO_false]
    have hsz := size_pos n
    refine ⟨_, _, rfl, fun _ => ⟨⟨by simp; omega, fun x hx => ?_, ⟨by show (-9007199254740992 : Int) ≤ 0; decide, by show (0 : Int) ≤ 9007199254740992; decide⟩⟩, fun _ => by simp [lsum]⟩⟩
    simp at hx
    subst hx
    exact ⟨(by decide : fitsC 1 = true), Nat.le_refl _, hs⟩
end Go.Abs.Try
namespace Go.Abs.Try
set_option linter.unusedSimpArgs false
set_option linter.unusedVariables false
set_option maxRecDepth 100000
/-! ### Copies of sorted atoms -/
theorem copy24s (N : Nat) (n : Node) (hN : 1048600 + n.size < N) (hb : n.size ≤ 1048576) (h : sortedR n = true) : F24 N n (⟨#[]⟩ : ByteArray) zeroN = some n := by
  have hz : zeroN.size ≤ 1048576 := by decide
  simp only [F24, subst22 [(⟨#[]⟩ : ByteArray)] [zeroN] ⟨by simp, by simp⟩ N n hN hb (fun w hw => by rw [List.mem_singleton.1 hw]; exact hz), bindO_some, subst_id n h]
theorem copied86s (N : Nat) (f : Lin) (hN : N = 4611686018427387904) (hg : Good f) (ha : ∀ m ∈ f.linMonos, sortedR m.monoAtom = true) : F86 N f = some f := by
  have hl := hg.1
  have hf : fits f.linMonos.length 72 = true := fits72_le (by omega)
  simp only [F86, hf, iteO_true, Int.toNat_natCast]
  refine foldN_idx (step := F86_s1 N) (fin := F86_f1 f) (fun s _ _ => s) (fun i l s => s = f.linMonos ∧ i + l.length = f.linMonos.length) (fun r => r = some f) ?_ ?_ (List.range f.linMonos.length) N 0 f.linMonos (by simp; omega) ⟨rfl, by simp⟩
  · intro x xs i s ⟨h1, h2⟩
    subst h1
    simp only [List.length_cons] at h2
    have hi : i < f.linMonos.length := by omega
    have hm := List.getElem_mem hi
    have h3 : atO f.linMonos (i : Int) = some f.linMonos[i] := atO_get (List.getElem?_eq_getElem hi)
    have hs := hg.2 _ hm
    have hc : F24 N f.linMonos[i].monoAtom (⟨#[]⟩ : ByteArray) (⟨0, 0, (⟨#[]⟩ : ByteArray), 0, []⟩ : Node) = some f.linMonos[i].monoAtom := copy24s N _ (by omega) hs (ha _ hm)
    refine ⟨?_, rfl, by omega⟩
    simp only [F86_s1, h3, bindO_some, hc]
    have : (⟨f.linMonos[i].monoCoef, f.linMonos[i].monoAtom⟩ : Mono) = f.linMonos[i] := rfl
    rw [this, List.set_getElem_self]
  · intro i s ⟨h1, _⟩
    subst h1
    rfl
/-! ### Valid models, whatever is asked of them: an answer -/
theorem foldN_either {α β : Type} {step : Unit → Nat → α → Option (Sum Unit β)} {fin : Unit → Option β} (r : β) (full : List α) (hs : ∀ i x, full[i]? = some x → step () i x = some (.inl ()) ∨ step () i x = some (.inr r)) :
    ∀ (l : List α) (N i : Nat), full.drop i = l → l.length < N → (foldN step fin N l i () = fin () ∧ ∀ j x, i ≤ j → full[j]? = some x → step () j x = some (.inl ())) ∨ foldN step fin N l i () = some r
  | [], N, i, hd, hN => by
    obtain ⟨K, rfl⟩ : ∃ K, N = K + 1 := ⟨N - 1, by simp at hN; omega⟩
    refine .inl ⟨rfl, fun j x hj hx => ?_⟩
    have := (List.getElem?_eq_some_iff.1 hx).1
    have h2 := List.drop_eq_nil_iff.1 hd
    omega
  | x :: l, N, i, hd, hN => by
    obtain ⟨K, rfl⟩ : ∃ K, N = K + 1 := ⟨N - 1, by simp at hN; omega⟩
    obtain ⟨hx, hxs⟩ := drop_cons hd
    have ih := foldN_either (fin := fin) r full hs l K (i + 1) hxs (by simp at hN; omega)
    rcases hs i x hx with h | h
    · simp only [foldN, h, bindO_some]
      rcases ih with ⟨h1, h2⟩ | h1
      · refine .inl ⟨h1, fun j y hj hy => ?_⟩
        by_cases e : j = i
        · subst e; rw [hx] at hy; injection hy with hy; subst hy; exact h
        · exact h2 j y (by omega) hy
      · exact .inr h1
    · simp only [foldN, h, bindO_some]
      exact .inr trivial
theorem asc182 (N : Nat) (l : List Int) (h : l.length < N) (hl : l.length ≤ 1048576) : ∃ b, F182 N l = some b ∧ (b = true → l.length ≤ 200) := by
  have key := foldN_either (step := F182_s1 l) (fin := F182_f1 l) false l (fun i x hx => by
    have hi := (List.getElem?_eq_some_iff.1 hx).1
    simp only [F182_s1, fits181, bindO_some]
    cases fitsG x with
    | false => exact .inr rfl
    | true =>
      by_cases h0 : (i : Int) > 0
      · have hi1 : i - 1 < l.length := by omega
        have ha : atO l (IntKind.i64.wrap ((i : Int) - 1)) = some l[i - 1] := by
          rw [wrap_id (by omega)]
          exact atO_lit (i := i - 1) (by omega) (List.getElem?_eq_getElem hi1)
        rw [decide_eq_true h0]
        simp only [iteO_true, ha, bindO_some]
        cases decide (l[i - 1] ≥ x) with
        | true => exact .inr rfl
        | false => exact .inl rfl
      · rw [decide_eq_false h0]; exact .inl rfl) l N 0 rfl h
  rcases key with ⟨h1, _⟩ | h1
  · exact ⟨_, h1, fun e => by have := of_decide_eq_true e; omega⟩
  · exact ⟨_, h1, fun e => by cases e⟩
theorem val171 (N : Nat) (hN : 1048600 < N) (v : Val) (hv : VSmall v) : ∃ b, F171 N v = some b ∧ (b = true → VOk v) := by
  simp only [F171, fits181, bindO_some]
  obtain ⟨b1, s1, t1⟩ := asc182 N v.valSet (by have := hv.1; omega) hv.1
  obtain ⟨b2, s2, t2⟩ := asc182 N v.valAt (by have := hv.2.1; omega) hv.2.1
  cases decide (v.valSort < 1) with
  | true => exact ⟨_, rfl, fun e => by cases e⟩
  | false =>
    cases decide (v.valSort > 5) with
    | true => exact ⟨_, rfl, fun e => by cases e⟩
    | false =>
      simp only [iteO_false]
      cases hf : fitsG v.valNum with
      | false => exact ⟨_, rfl, fun e => by cases e⟩
      | true =>
        simp only [iteO_true, s1, s2, bindO_some]
        cases b1 with
        | false => exact ⟨_, rfl, fun e => by cases e⟩
        | true =>
          cases b2 with
          | false => exact ⟨_, rfl, fun e => by cases e⟩
          | true =>
            simp only [iteO_true]
            by_cases hl : (v.valTo.length : Int) = (v.valAt.length : Int)
            · rw [beq_iff_eq.2 hl, iteO_true]
              have hok : VOk v := ⟨fitsG_iff.1 hf, t1 rfl, t2 rfl, by omega⟩
              have key := foldN_either (step := F171_s1) (fin := F171_f1 v) false v.valTo (fun i x _ => by
                simp only [F171_s1, fits181, bindO_some]
                cases x == 0 with
                | true => exact .inr rfl
                | false =>
                  cases fitsG x with
                  | true => exact .inl rfl
                  | false => exact .inr rfl) v.valTo N 0 rfl (by have := hv.2.2; omega)
              have hfin : ∃ b, F171_f1 v () = some b := by
                simp only [F171_f1]
                cases v.valSort == 2 <;> cases v.valNum == 0 <;> cases v.valNum == 1 <;> cases (v.valSet.length : Int) == 0 <;> cases v.valSort == 5 <;> cases decide (v.valNum ≥ 0) <;> cases v.valSort == 4 <;> exact ⟨_, rfl⟩
              rcases key with ⟨h1, _⟩ | h1
              · obtain ⟨b, hb⟩ := hfin
                exact ⟨b, h1.trans hb, fun _ => hok⟩
              · exact ⟨_, h1, fun e => by cases e⟩
            · rw [beq_eq_false_iff_ne.2 hl]; exact ⟨_, rfl, fun e => by cases e⟩
structure MSmall (m : List Entry) : Prop where
  len : m.length ≤ 1048576
  args : ∀ e ∈ m, e.entryArgs.length ≤ 1048576 ∧ (∀ a ∈ e.entryArgs, VSmall a) ∧ VSmall e.entryVal
theorem entry157 (N : Nat) (hN : 1048600 < N) (e : Entry) (h1 : e.entryArgs.length ≤ 1048576) (h2 : ∀ a ∈ e.entryArgs, VSmall a) (h3 : VSmall e.entryVal) : ∃ b, F157 N e = some b ∧ (b = true → (∀ a ∈ e.entryArgs, VOk a) ∧ VOk e.entryVal) := by
  obtain ⟨b, _, hb⟩ := name_same N e.entryName (by omega)
  obtain ⟨b2, s2, t2⟩ := val171 N hN e.entryVal h3
  simp only [F157, hb, bindO_some]
  cases b with
  | false => exact ⟨_, rfl, fun e => by cases e⟩
  | true =>
    simp only [iteO_true]
    cases decide ((e.entryArgs.length : Int) > 8) with
    | true => exact ⟨_, rfl, fun e => by cases e⟩
    | false =>
      simp only [iteO_false, s2, bindO_some]
      cases b2 with
      | false => exact ⟨_, rfl, fun e => by cases e⟩
      | true =>
        simp only [iteO_true]
        have key := foldN_either (step := F157_s1 N) (fin := F157_f1) false e.entryArgs (fun i x hx => by
          obtain ⟨b, s, _⟩ := val171 N hN x (h2 x (List.mem_of_getElem? hx))
          simp only [F157_s1, s, bindO_some]
          cases b with
          | true => exact .inl rfl
          | false => exact .inr rfl) e.entryArgs N 0 rfl (by omega)
        rcases key with ⟨k1, k2⟩ | k1
        · refine ⟨_, k1, fun _ => ⟨fun a ha => ?_, t2 rfl⟩⟩
          obtain ⟨i, hi, ei⟩ := List.getElem_of_mem ha
          have hx : e.entryArgs[i]? = some a := by rw [List.getElem?_eq_getElem hi, ei]
          have := k2 i a (Nat.zero_le _) hx
          obtain ⟨b, s, t⟩ := val171 N hN a (h2 a ha)
          simp only [F157_s1, s, bindO_some] at this
          cases b with
          | true => exact t rfl
          | false => cases this
        · exact ⟨_, k1, fun e => by cases e⟩
theorem place158 (N : Nat) (hN : 1048600 < N) (a b : Entry) (h1 : a.entryArgs.length ≤ 1048576) (h2 : ∀ x ∈ a.entryArgs, VSmall x) : ∃ r, F158 N a b = some r := by
  simp only [F158, sameArgs172 N (by omega) a.entryArgs b.entryArgs (by omega) h2, bindO_some]
  cases a.entryName.toList == b.entryName.toList <;> cases a.entryVal.valSort == b.entryVal.valSort <;> exact ⟨_, rfl⟩
theorem inner126 (N : Nat) (hN : 1048600 < N) (m : List Entry) (hm : MSmall m) (i : Nat) (hi : i ≤ m.length) (x : Entry) : ∀ (k M j : Nat), j + k = i → k < M → whileN (F126_s2 N i m x) M (j : Int) = some (.inl ()) ∨ whileN (F126_s2 N i m x) M (j : Int) = some (.inr false)
  | 0, M, j, hj, hM => by
    obtain ⟨K, rfl⟩ : ∃ K, M = K + 1 := ⟨M - 1, by omega⟩
    have : decide ((j : Int) < (i : Int)) = false := decide_eq_false (by omega)
    left
    simp only [whileN, F126_s2, this, iteO_false, bindO_some]
  | k + 1, M, j, hj, hM => by
    obtain ⟨K, rfl⟩ : ∃ K, M = K + 1 := ⟨M - 1, by omega⟩
    have hl := hm.len
    have : decide ((j : Int) < (i : Int)) = true := decide_eq_true (by omega)
    have hjl : j < m.length := by omega
    have e : m[j]? = some m[j] := List.getElem?_eq_getElem hjl
    obtain ⟨a1, a2, _⟩ := hm.args _ (List.getElem_mem hjl)
    obtain ⟨r, hr⟩ := place158 N hN m[j] x a1 a2
    have w : IntKind.i64.wrap ((j : Int) + 1) = ((j + 1 : Nat) : Int) := by rw [wrap_id (by omega)]; rfl
    have ih := inner126 N hN m hm i hi x k K (j + 1) (by omega) (by omega)
    simp only [whileN, F126_s2, this, iteO_true, atO_get e, bindO_some, hr, w]
    cases r with
    | true => right; rfl
    | false => exact ih
theorem valid126 (N : Nat) (hN : 2097200 < N) (m : List Entry) (hm : MSmall m) : ∃ b, F126 N m = some b ∧ (b = true → MOk m) := by
  simp only [F126]
  cases decide ((m.length : Int) > 2000) with
  | true => exact ⟨_, rfl, fun e => by cases e⟩
  | false =>
    simp only [iteO_false]
    have hl := hm.len
    have step : ∀ i x, m[i]? = some x → (F126_s1 N m () i x = some (.inl ()) ∨ F126_s1 N m () i x = some (.inr false)) ∧ (F126_s1 N m () i x = some (.inl ()) → (∀ a ∈ x.entryArgs, VOk a) ∧ VOk x.entryVal) := by
      intro i x hx
      obtain ⟨a1, a2, a3⟩ := hm.args x (List.mem_of_getElem? hx)
      obtain ⟨b, s, t⟩ := entry157 N (by omega) x a1 a2 a3
      have hi := (List.getElem?_eq_some_iff.1 hx).1
      simp only [F126_s1, s, bindO_some]
      cases b with
      | false => exact ⟨.inr rfl, fun h => by cases h⟩
      | true =>
        have h0 : ((0 : Nat) : Int) = 0 := rfl
        have := inner126 N (by omega) m hm i (by omega) x i N 0 (by omega) (by omega)
        simp only [iteO_true]
        exact ⟨this, fun _ => t rfl⟩
    rcases foldN_either (step := F126_s1 N m) (fin := F126_f1) false m (fun i x hx => (step i x hx).1) m N 0 rfl (by omega) with ⟨k1, k2⟩ | k1
    · refine ⟨_, k1, fun _ => ⟨hl, fun e he => ?_⟩⟩
      obtain ⟨i, hi, ei⟩ := List.getElem_of_mem he
      have hx : m[i]? = some e := by rw [List.getElem?_eq_getElem hi, ei]
      have := (step i e hx).2 (k2 i e (Nat.zero_le _) hx)
      exact ⟨(hm.args e he).1, this⟩
    · exact ⟨_, k1, fun e => by cases e⟩
theorem holes43 : ∀ (N : Nat) (n : Node), n.size < N → ∃ b, F43 N n = some b
  | 0, n, h => absurd h (Nat.not_lt_zero _)
  | N + 1, n, h => by
    show ∃ b, F43b (F43 N) N n = some b
    simp only [F43b]
    cases n.op == 42 with
    | true => exact ⟨_, rfl⟩
    | false =>
      simp only [iteO_false]
      have hlen := kids_len n
      rcases foldN_either (step := F43_s1 (F43 N)) (fin := F43_f1) true n.kids (fun i x hx => by
        have hk := List.mem_of_getElem? hx
        have := kids_size hk
        obtain ⟨b, hb⟩ := holes43 N x (by omega)
        simp only [F43_s1, hb, bindO_some]
        cases b with
        | true => exact .inr rfl
        | false => exact .inl rfl) n.kids N 0 rfl (by omega) with ⟨k1, _⟩ | k1
      · exact ⟨_, k1⟩
      · exact ⟨_, k1⟩
theorem value30 (N : Nat) (hN : N = 4611686018427387904) (n : Node) (hb : n.size ≤ 1048576) (m : List Entry) (hm : MSmall m) : ∃ v h, F30 N n m = some (v, h) ∧ (h = 0 → sortedR n = true ∧ MOk m ∧ v = (evalR m n).1 ∧ (evalR m n).2 = true) := by
  obtain ⟨r, _, h15⟩ := check_same N n 0 hN hb
  obtain ⟨b, h43⟩ := holes43 N n (by omega)
  obtain ⟨c, h126, hc⟩ := valid126 N (by omega) m hm
  have h15' := h15
  simp only [F30, F87, h15, h43, h126, bindO_some]
  by_cases hr : r = 0
  · subst hr
    have hs := check_sorted N n hN hb h15'
    simp only [beq_self_eq_true, iteO_true]
    cases b with
    | true => exact ⟨_, _, rfl, fun h => by cases h⟩
    | false =>
      simp only [iteO_false]
      cases c with
      | false => exact ⟨_, _, rfl, fun h => by cases h⟩
      | true =>
        simp only [iteO_true, (eval127 m (hc rfl) N n (by omega) hb (fine_all n hs)).1, bindO_some]
        cases he : (evalR m n).2 with
        | true => exact ⟨_, _, rfl, fun _ => ⟨hs, hc rfl, rfl, rfl⟩⟩
        | false => exact ⟨_, _, rfl, fun h => by cases h⟩
  · rw [beq_eq_false_iff_ne.2 hr]
    exact ⟨_, _, rfl, fun h => absurd h hr⟩
/-! ### The law -/
def calmB (n : Int) : Bool := decide (n ≥ (-1000000000)) && decide (n ≤ 1000000000)
theorem calm31 (n : Int) : F31 n = some (calmB n) := by
  simp only [F31, calmB]
  cases decide (n ≥ (-1000000000)) <;> rfl
theorem calm_iff {n : Int} : calmB n = true ↔ -1000000000 ≤ n ∧ n ≤ 1000000000 := by simp only [calmB, Bool.and_eq_true, decide_eq_true_eq, ge_iff_le]
theorem mul_calm {a b : Int} (ha : -1000000000 ≤ a ∧ a ≤ 1000000000) (hb : -1000000000 ≤ b ∧ b ≤ 1000000000) : -1000000000000000000 ≤ a * b ∧ a * b ≤ 1000000000000000000 := by
  have h1 : (a * b).natAbs ≤ 1000000000 * 1000000000 := by
    rw [Int.natAbs_mul]; exact Nat.mul_le_mul (by omega) (by omega)
  omega
theorem loop6 (N : Nat) (hN : N = 4611686018427387904) (m : List Entry) (hm : MSmall m) (r4 : Lin × Int) (r5 : Val × Int) (hs : ∀ x ∈ r4.1.linMonos, x.monoAtom.size ≤ 1048576) : ∀ (l : List Mono) (M i : Nat) (s : Int), l.length < M → (∀ x ∈ l, x ∈ r4.1.linMonos) →
    (r4.1.linMonos.length ≤ 8 → l.length ≤ 8 ∧ s + lsum (wV m) l = r5.1.valNum ∧ (calmB r4.1.linConst = true → (-1000000000 - (8 - (l.length : Int)) * 1000000000000000000 ≤ s ∧ s ≤ 1000000000 + (8 - (l.length : Int)) * 1000000000000000000))) →
    foldN (F6_s1 N m r4) (F6_f1 r4 r5) M l i s = some true
  | [], M, i, s, hM, _, hI => by
    obtain ⟨K, rfl⟩ : ∃ K, M = K + 1 := ⟨M - 1, by simp at hM; omega⟩
    show F6_f1 r4 r5 s = some true
    simp only [F6_f1]
    by_cases h8 : (r4.1.linMonos.length : Int) > 8
    · rw [decide_eq_true h8]; rfl
    · obtain ⟨_, h1, _⟩ := hI (by omega)
      rw [decide_eq_false h8, iteO_false]
      simp [lsum] at h1
      rw [h1, beq_self_eq_true]
  | x :: l, M, i, s, hM, hx, hI => by
    obtain ⟨K, rfl⟩ : ∃ K, M = K + 1 := ⟨M - 1, by simp at hM; omega⟩
    simp only [List.length_cons] at hM
    obtain ⟨v, h, h30, hv⟩ := value30 N hN x.monoAtom (hs x (hx x (by simp))) m hm
    simp only [foldN, F6_s1, h30, calm31, bindO_some]
    by_cases h0 : h = 0
    · rw [beq_iff_eq.2 h0]; simp only [iteO_true]
      obtain ⟨_, _, ev, _⟩ := hv h0
      cases c1 : calmB v.valNum with
      | false => rfl
      | true =>
        cases c2 : calmB x.monoCoef with
        | false => rfl
        | true =>
          cases c3 : calmB r4.1.linConst with
          | false => rfl
          | true =>
            simp only [iteO_true, bindO_some]
            have hmul := mul_calm (calm_iff.1 c2) (calm_iff.1 c1)
            have w1 : IntKind.i64.wrap (x.monoCoef * v.valNum) = x.monoCoef * v.valNum := wrap_id (by omega)
            rw [w1]
            refine loop6 N hN m hm r4 r5 hs l K (i + 1) _ (by omega) (fun y hy => hx y (by simp [hy])) fun h8 => ?_
            obtain ⟨g1, g2, g3⟩ := hI h8
            have g3 := g3 c3
            simp only [List.length_cons] at g1 g3
            have w2 : IntKind.i64.wrap (s + x.monoCoef * v.valNum) = s + x.monoCoef * v.valNum := wrap_id (by omega)
            have ew : v.valNum = wV m x.monoAtom := by rw [ev]; rfl
            rw [w2]
            refine ⟨by omega, ?_, fun _ => by omega⟩
            rw [← g2, lsum, ew]; omega
    · rw [beq_eq_false_iff_ne.2 h0]; rfl
theorem awake26 (M : Nat) : F26 (M + 30) = some true := by kernel_rfl
def big : Nat := 4611686018427387904
theorem of29 (m : List Entry) (hm : MOk m) (n : Node) (hb : n.size ≤ 1048576) : ∃ f e, F29 big n = some (f, e) ∧ (e = 0 → VF n.size f ∧ ((evalR m n).2 = true → wV m n = f.linConst + lsum (wV m) f.linMonos)) := by
  have hN : big = 4611686018427387904 := rfl
  obtain ⟨r, h14, h15⟩ := check_same big n 0 hN hb
  have h36 := sort36n big n (by rw [hN]; omega)
  simp only [F29, h14, h36, bindO_some]
  by_cases hr : r = 0
  · subst hr
    have hs := check_sorted big n hN hb h15
    obtain ⟨f, ok, f1, f2⟩ := form85 m hm big n (by rw [hN]; omega) hb hs
    have fin : ∃ g e, (iteO ok (bindO (F86 big f) fun r6 => some (r6, 0)) (some ((⟨[], 0⟩ : Lin), 2)) : Option (Lin × Int)) = some (g, e) ∧ (e = 0 → VF n.size g ∧ ((evalR m n).2 = true → wV m n = g.linConst + lsum (wV m) g.linMonos)) := by
      cases ok with
      | false => exact ⟨_, _, rfl, fun h => by cases h⟩
      | true =>
        obtain ⟨g1, g2⟩ := f2 rfl
        simp only [iteO_true, copied86s big f hN (g1.good hb) fun m hm => (g1.mon m hm).2.2, bindO_some]
        exact ⟨_, _, rfl, fun _ => ⟨g1, g2⟩⟩
    simp only [beq_self_eq_true, iteO_true, f1, bindO_some]
    cases sortS n == 1 with
    | true => exact fin
    | false =>
      cases sortS n == 3 with
      | true => exact fin
      | false => exact ⟨_, _, rfl, fun h => by cases h⟩
  · rw [beq_eq_false_iff_ne.2 hr]
    exact ⟨_, _, rfl, fun h => absurd h hr⟩
theorem law6 (n : Node) (m : List Entry) (hb : n.size ≤ 1048576) (hm : MSmall m) : F6 big n m = some true := by
  have hN : big = 4611686018427387904 := rfl
  have ha : F26 big = some true := awake26 4611686018427387874
  have h27 := size27 big n (by omega) (by omega)
  have h28 := sort28 big n (by omega)
  obtain ⟨v, h, h30, hv⟩ := value30 big hN n hb m hm
  -- the form
  simp only [F6, ha, h27, h28, h30, bindO_some, iteO_true]
  cases decide ((n.size : Int) > 200) with
  | true => rfl
  | false =>
    cases decide ((m.length : Int) > 60) with
    | true => rfl
    | false =>
      cases sortS n == 1 with
      | false => rfl
      | true =>
        simp only [iteO_true, iteO_false]
        by_cases h0 : h = 0
        · subst h0
          obtain ⟨hs, hmo, ev, eok⟩ := hv rfl
          obtain ⟨f, e, h29, hf⟩ := of29 m hmo n hb
          simp only [h29, bindO_some]
          by_cases e0 : e = 0
          · subst e0
            obtain ⟨g1, g2⟩ := hf rfl
            have gl := g1.len
            simp only [beq_self_eq_true, iteO_true]
            refine loop6 big hN m hm (f, 0) (v, 0) (fun x hx => by have := (g1.mon x hx).2.1; omega) f.linMonos big 0 f.linConst (by omega) (fun _ h => h) fun h8 => ⟨h8, ?_, fun hc => ?_⟩
            · show f.linConst + lsum (wV m) f.linMonos = v.valNum
              rw [← g2 eok, ev]; rfl
            · have := calm_iff.1 hc
              (try simp only at this)
              (try simp only at h8)
              omega
          · rw [beq_eq_false_iff_ne.2 e0]; rfl
        · have : ∃ f e, F29 big n = some (f, e) := by
            obtain ⟨f, e, h, _⟩ := of29 [] ⟨by simp, by simp⟩ n hb
            exact ⟨f, e, h⟩
          obtain ⟨f, e, h29⟩ := this
          simp only [h29, bindO_some, beq_eq_false_iff_ne.2 h0, iteO_false]
          cases e == 0 <;> rfl
end Go.Abs.Try
