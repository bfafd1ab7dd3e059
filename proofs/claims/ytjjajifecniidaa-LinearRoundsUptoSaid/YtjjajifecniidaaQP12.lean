import Derived.Test.YtjjajifecniidaaQP11
namespace Go.Abs.Try
set_option linter.unusedSimpArgs false
set_option linter.unusedVariables false
set_option maxRecDepth 100000
/-! ### Atoms -/
theorem check_sorted (N : Nat) (n : Node) (hN : N = 4611686018427387904) (hb : n.size ≤ 1048576) (h : F15 N n 0 = some 0) : sortedR n = true := by
  obtain ⟨k, hk, _, _⟩ := levels39 N n (by omega) (by omega)
  have h27 := size27 N n (by omega) (by omega)
  have h72 := sorted72 N n (by omega)
  have h0 : decide ((0 : Int) < 0) = false := rfl
  have h5 : decide ((0 : Int) > 5) = false := rfl
  simp only [F15, h0, h5, iteO_false, hk, h27, h72, bindO_some] at h
  cases hs : sortedR n with
  | true => rfl
  | false =>
    rw [hs] at h
    cases hx : decide ((n.size : Int) > 4000) with
    | true => rw [hx] at h; simp only [iteO_true] at h; injection h with h; omega
    | false =>
      cases hy : decide (k > 100) with
      | true => rw [hx, hy] at h; simp only [iteO_true, iteO_false] at h; injection h with h; omega
      | false => rw [hx, hy] at h; simp only [iteO_true, iteO_false] at h; injection h with h; omega
def atomB (n : Node) : Bool := (F63 4611686018427387904 n).getD false
theorem atom_same (N : Nat) (n : Node) (hN : N = 4611686018427387904) (hb : n.size ≤ 1048576) : F62 N n = some (atomB n) ∧ F63 N n = some (atomB n) := by
  obtain ⟨r, h14, h15⟩ := check_same N n 0 hN hb
  have h36 := sort36n N n (by omega)
  have h28 := sort28 N n (by omega)
  have key : ∃ b, F62 N n = some b ∧ F63 N n = some b := by
    simp only [F62, F63, h14, h15, h36, h28, bindO_some]
    cases n.op == 2 <;> cases n.op == 4 <;> cases n.op == 5 <;> cases n.op == 6 <;> cases n.op == 7 <;> cases r == 0 <;> cases sortS n == 1 <;> exact ⟨_, rfl, rfl⟩
  obtain ⟨b, h1, h2⟩ := key
  have : atomB n = b := by rw [atomB, ← hN, h2]; rfl
  rw [this]; exact ⟨h1, h2⟩
theorem atom_sorted (n : Node) (hb : n.size ≤ 1048576) (h : atomB n = true) : sortedR n = true := by
  obtain ⟨r, h14, h15⟩ := check_same 4611686018427387904 n 0 rfl hb
  have h63 := (atom_same 4611686018427387904 n rfl hb).2
  rw [h] at h63
  by_cases hr : r = 0
  · rw [hr] at h15; exact check_sorted _ n rfl hb h15
  · have e : (r == 0) = false := beq_eq_false_iff_ne.2 hr
    have h28 := sort28 4611686018427387904 n (by omega)
    simp only [F63, h15, h28, bindO_some, e] at h63
    generalize (n.op == 2) = x2 at h63
    generalize (n.op == 4) = x4 at h63
    generalize (n.op == 5) = x5 at h63
    generalize (n.op == 6) = x6 at h63
    generalize (n.op == 7) = x7 at h63
    cases x2 <;> cases x4 <;> cases x5 <;> cases x6 <;> cases x7 <;> simp only [iteO_true, iteO_false] at h63 <;> injection h63 with h63 <;> cases h63
/-! ### Copies of atoms -/
def zeroN : Node := ⟨0, 0, (⟨#[]⟩ : ByteArray), 0, []⟩
theorem own_name (n : Node) (h : ownA n = true) (ho : n.op = 1) : n.name.size ≠ 0 := by
  intro hs
  have h1 := own118A 30 n (Nat.le_refl _)
  rw [h] at h1
  have e : (n.op == 1) = true := beq_iff_eq.2 ho
  have e2 : F17 30 n.name = some false := by
    have : ((n.name.size : Int) == 0) = true := by simp [hs]
    simp only [F17, this, iteO_true]
  simp only [F118, e, iteO_true, e2, bindO_some, iteO_false] at h1
  cases h1
theorem empty_ne (s : ByteArray) (h : s.size ≠ 0) : ((⟨#[]⟩ : ByteArray).toList == s.toList) = false := by
  rw [beq_eq_false_iff_ne]
  intro e
  have h1 := congrArg List.length e
  rw [ba_len, ba_len] at h1
  exact h h1.symm
mutual
theorem subst_id : ∀ n : Node, sortedR n = true → substR [(⟨#[]⟩ : ByteArray)] [zeroN] n = n
  | ⟨op, s, nm, k, ks⟩, h => by
    rw [sortedR] at h
    simp only [Bool.and_eq_true, nodeB] at h
    have hf : (bif op == 1 then firstM nm [(⟨#[]⟩ : ByteArray)] [zeroN] else none) = none := by
      cases h1 : op == 1 with
      | false => rfl
      | true =>
        have := own_name _ h.1.1 (eq_of_beq h1)
        simp only [cond_true, firstM, empty_ne nm this, cond_false]
    simp only [substR, hf, substL_id ks h.2]
theorem substL_id : ∀ ks : List Node, allR ks = true → substL [(⟨#[]⟩ : ByteArray)] [zeroN] ks = ks
  | [], _ => rfl
  | k :: ks, h => by
    simp only [allR, Bool.and_eq_true] at h
    rw [substL, subst_id k h.1, substL_id ks h.2]
end
theorem copy24 (N : Nat) (n : Node) (hN : 1048600 + n.size < N) (hb : n.size ≤ 1048576) (h : atomB n = true) : F24 N n (⟨#[]⟩ : ByteArray) zeroN = some n := by
  have hz : zeroN.size ≤ 1048576 := by decide
  simp only [F24, subst22 [(⟨#[]⟩ : ByteArray)] [zeroN] ⟨by simp, by simp⟩ N n hN hb (fun w hw => by rw [List.mem_singleton.1 hw]; exact hz), bindO_some, subst_id n (atom_sorted n hb h)]
end Go.Abs.Try
