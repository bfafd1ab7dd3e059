import Derived.Test.YtjjajifecniidaaQP1toQP9
namespace Go.Abs.Try
set_option linter.unusedSimpArgs false
set_option linter.unusedVariables false
set_option maxRecDepth 100000
theorem cmpR_eq (a b : Node) : cmpR a b = cmb (sg a.op b.op) (cmb (sg a.sortf b.sortf) (cmb (cB a.name.toList b.name.toList) (cmb (sg a.num b.num) (cmb (sg a.kids.length b.kids.length) (cmpL a.kids b.kids))))) := by
  cases a; simp only [cmpR]
theorem iteO_cmb (u : Int) (x : Option Int) (v : Int) (h : u = 0 → x = some v) : iteO (u == 0) x (some u) = some (cmb u v) := by
  by_cases hu : u = 0
  · have e : (u == 0) = true := beq_iff_eq.2 hu
    rw [e, iteO_true, h hu, cmb, if_pos hu]
  · have e : (u == 0) = false := beq_eq_false_iff_ne.2 hu
    rw [e, iteO_false, cmb, if_neg hu]
theorem kids18 (self : Node → Node → Option Int) (b : Node) : ∀ (ks : List Node) (N i : Nat), (∀ x ∈ ks, ∀ y, self x y = some (cmpR x y)) → ks.length = (b.kids.drop i).length → ks.length < N → foldN (F18_s1 self b) F18_f1 N ks i () = some (cmpL ks (b.kids.drop i))
  | [], N, i, _, _, hN => by
    obtain ⟨M, rfl⟩ : ∃ M, N = M + 1 := ⟨N - 1, by simp at hN; omega⟩
    simp only [foldN, F18_f1, cmpL]
  | x :: xs, N, i, hs, hl, hN => by
    obtain ⟨M, rfl⟩ : ∃ M, N = M + 1 := ⟨N - 1, by simp at hN; omega⟩
    simp only [List.length_cons] at hl hN
    have hi : i < b.kids.length := by simp at hl; omega
    have hd := List.drop_eq_getElem_cons hi
    have ha : atO b.kids (i : Int) = some b.kids[i] := atO_get (List.getElem?_eq_getElem hi)
    have ih := kids18 self b xs M (i + 1) (fun x hx => hs x (by simp [hx])) (by simp at hl ⊢; omega) (by omega)
    rw [hd, cmpL]
    simp only [foldN, F18_s1, ha, bindO_some, hs x (by simp)]
    by_cases hz : cmpR x b.kids[i] = 0
    · have e : (cmpR x b.kids[i] == 0) = true := beq_iff_eq.2 hz
      simp only [e, iteO_true, bindO_some, cmb, hz, if_true]
      exact ih
    · have e : (cmpR x b.kids[i] == 0) = false := beq_eq_false_iff_ne.2 hz
      simp only [e, iteO_false, bindO_some, cmb, hz, if_false]
theorem cmp18 : ∀ (N : Nat) (a b : Node), a.size < N → F18 N a b = some (cmpR a b)
  | 0, a, _, h => absurd h (Nat.not_lt_zero _)
  | N + 1, a, b, h => by
    have hk := kids_len a
    show F18b (F18 N) N a b = _
    rw [cmpR_eq]
    simp only [F18b, sg78, sg80, s79, bindO_some]
    refine iteO_cmb _ _ _ fun _ => iteO_cmb _ _ _ fun _ => iteO_cmb _ _ _ fun _ => iteO_cmb _ _ _ fun _ => iteO_cmb _ _ _ fun hl => ?_
    have hl := sg_zero hl
    have := kids18 (F18 N) b a.kids N 0 (fun x hx y => cmp18 N x y (by have := kids_size hx; omega)) (by simp; omega) (by omega)
    simpa using this
theorem kids19 (self : Node → Node → Option Int) (a b : Node) (hle : a.kids.length ≤ 4000000) (hl : a.kids.length = b.kids.length) (hs : ∀ x ∈ a.kids, ∀ y, self x y = some (cmpR x y)) : ∀ (m i N : Nat) (k : Int), i + m = a.kids.length → m + 1 < N → whileN (F19_s3 self a b) N (k, (i : Int)) = some (cmb k (cmpL (a.kids.drop i) (b.kids.drop i)))
  | 0, i, N, k, h, hN => by
    obtain ⟨M, rfl⟩ : ∃ M, N = M + 1 := ⟨N - 1, by omega⟩
    have hd : decide ((i : Int) < (a.kids.length : Int)) = false := decide_eq_false (by omega)
    have h0 : a.kids.drop i = [] := List.drop_eq_nil_iff.2 (by omega)
    rw [h0, cmpL]
    simp only [whileN, F19_s3, hd, iteO_false]
    by_cases hk : k = 0
    · subst hk; rfl
    · have e : (k == 0) = false := beq_eq_false_iff_ne.2 hk
      simp only [e, iteO_false, bindO_some, cmb, hk, if_false]
  | m + 1, i, N, k, h, hN => by
    obtain ⟨M, rfl⟩ : ∃ M, N = M + 1 := ⟨N - 1, by omega⟩
    have h1 : i < a.kids.length := by omega
    have h2 : i < b.kids.length := by omega
    have hd : decide ((i : Int) < (a.kids.length : Int)) = true := decide_eq_true (by omega)
    have a1 : atO a.kids (i : Int) = some a.kids[i] := atO_get (List.getElem?_eq_getElem h1)
    have a2 : atO b.kids (i : Int) = some b.kids[i] := atO_get (List.getElem?_eq_getElem h2)
    have hw : IntKind.i64.wrap ((i : Int) + 1) = ((i + 1 : Nat) : Int) := by rw [wrap_id (by omega)]; omega
    have ih := kids19 self a b hle hl hs m (i + 1) M (cmpR a.kids[i] b.kids[i]) (by omega) (by omega)
    rw [List.drop_eq_getElem_cons h1, List.drop_eq_getElem_cons h2, cmpL]
    by_cases hk : k = 0
    · subst hk
      have e : ((0 : Int) == 0) = true := rfl
      simp only [whileN, F19_s3, e, hd, iteO_true, a1, a2, bindO_some, hs _ (List.getElem_mem h1), hw, ih, cmb, if_true]
    · have e : (k == 0) = false := beq_eq_false_iff_ne.2 hk
      simp only [whileN, F19_s3, e, iteO_false, bindO_some, cmb, hk, if_false]
theorem cmp19 : ∀ (N : Nat) (a b : Node), a.size + 1 < N → a.size ≤ 1048576 → F19 N a b = some (cmpR a b)
  | 0, a, _, h, _ => absurd h (Nat.not_lt_zero _)
  | N + 1, a, b, h, hb => by
    have hk := kids_len a
    have hp := size_pos a
    obtain ⟨M, rfl⟩ : ∃ M, N = M + 1 := ⟨N - 1, by omega⟩
    show F19b (F19 (M + 1)) (M + 1) a b = _
    rw [cmpR_eq]
    simp only [F19b, sg81, bindO_some]
    have w4 : ∀ z : Int, whileN (F19_s4 z) (M + 1) () = some z := fun z => rfl
    have w5 : ∀ z : Int, whileN (F19_s5 z) (M + 1) () = some z := fun z => rfl
    have w6 : ∀ z : Int, whileN (F19_s6 z) (M + 1) () = some z := fun z => rfl
    have w1 : whileN F19_s1 (M + 1) () = some (-1) := rfl
    have w2 : whileN F19_s2 (M + 1) () = some 1 := rfl
    simp only [w1, w2, w4, w5, w6]
    refine iteO_cmb _ _ _ fun _ => iteO_cmb _ _ _ fun _ => ?_
    rw [bytes_lt]
    by_cases h1 : a.name.toList < b.name.toList
    · rw [decide_eq_true h1, iteO_true, cB_lt h1]; rfl
    · rw [decide_eq_false h1, iteO_false]
      by_cases h2 : a.name.toList = b.name.toList
      · have e : (a.name.toList == b.name.toList) = true := beq_iff_eq.2 h2
        rw [e, Bool.false_or, iteO_true, h2, cB_self]
        have : ∀ v, cmb 0 v = v := fun v => if_pos rfl
        rw [this]
        refine iteO_cmb _ _ _ fun _ => ?_
        by_cases hl : a.kids.length = b.kids.length
        · have := kids19 (F19 (M + 1)) a b (by omega) hl (fun x hx y => cmp19 (M + 1) x y (by have := kids_size hx; omega) (by have := kids_size hx; omega)) a.kids.length 0 (M + 1) (sg a.kids.length b.kids.length) (by omega) (by omega)
          simpa using this
        · have hz : sg (a.kids.length : Int) b.kids.length ≠ 0 := fun e => hl (by have := sg_zero e; omega)
          have e : (sg (a.kids.length : Int) b.kids.length == 0) = false := beq_eq_false_iff_ne.2 hz
          simp only [whileN, F19_s3, e, iteO_false, bindO_some, cmb, hz, if_false]
      · have e : (a.name.toList == b.name.toList) = false := beq_eq_false_iff_ne.2 h2
        rw [e, Bool.false_or, iteO_false]
        have : cB a.name.toList b.name.toList = 1 := by simp [cB, h1, h2]
        rw [this]; rfl
theorem cmb_range {u v : Int} (hu : -1 ≤ u ∧ u ≤ 1) (hv : -1 ≤ v ∧ v ≤ 1) : -1 ≤ cmb u v ∧ cmb u v ≤ 1 := by
  unfold cmb; split <;> assumption
theorem sg_range (a b : Int) : -1 ≤ sg a b ∧ sg a b ≤ 1 := by
  have := sg_spec a b; omega
theorem cB_range (x y : List UInt8) : -1 ≤ cB x y ∧ cB x y ≤ 1 := by
  unfold cB; split
  · decide
  · split <;> decide
mutual
theorem sg_cmb_range : ∀ a b : Node, -1 ≤ cmpR a b ∧ cmpR a b ≤ 1
  | ⟨o, s, nm, nu, ks⟩, b => by
    simp only [cmpR]
    exact cmb_range (sg_range _ _) (cmb_range (sg_range _ _) (cmb_range (cB_range _ _) (cmb_range (sg_range _ _) (cmb_range (sg_range _ _) (sg_cmb_rangeL ks b.kids)))))
theorem sg_cmb_rangeL : ∀ a b : List Node, -1 ≤ cmpL a b ∧ cmpL a b ≤ 1
  | [], _ => by simp [cmpL]
  | _ :: _, [] => by simp [cmpL]
  | x :: xs, y :: ys => by simp only [cmpL]; exact cmb_range (sg_cmb_range x y) (sg_cmb_rangeL xs ys)
end
theorem equal21 (N : Nat) (a : Node) (h : a.size + 1 < N) (hb : a.size ≤ 1048576) : F21 N a a = some true := by
  simp only [F21, cmp19 N a a h hb, cmpR_self, bindO_some]; rfl
end Go.Abs.Try
