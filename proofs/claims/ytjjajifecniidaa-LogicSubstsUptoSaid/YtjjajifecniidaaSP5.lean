import Derived.Test.YtjjajifecniidaaSP4
namespace Go.Abs.Try
set_option linter.unusedSimpArgs false
set_option linter.unusedVariables false
set_option maxRecDepth 100000
mutual
theorem subst_size (names : List ByteArray) (ws : List Node) (M : Nat) (hM : 1 ≤ M) (hw : ∀ w ∈ ws, w.size ≤ M) : ∀ n : Node, (substR names ws n).size ≤ n.size * M
  | ⟨op, s, nm, k, ks⟩ => by
    have ih := substL_size names ws M hM hw ks
    simp only [substR]
    cases hf : (bif op == 1 then firstM nm names ws else none) with
    | some w =>
      have : firstM nm names ws = some w := by
        cases h1 : op == 1 with
        | true => rw [h1] at hf; exact hf
        | false => rw [h1] at hf; cases hf
      have h1 := hw w (firstM_mem nm names ws w this)
      have h2 := size_pos (⟨op, s, nm, k, ks⟩ : Node)
      have := Nat.mul_le_mul_right M h2
      simp only
      omega
    | none =>
      simp only
      rw [Node.size_eq, Node.size_eq (⟨op, s, nm, k, ks⟩ : Node)]
      simp only [Nat.add_mul, Nat.one_mul]
      omega
theorem substL_size (names : List ByteArray) (ws : List Node) (M : Nat) (hM : 1 ≤ M) (hw : ∀ w ∈ ws, w.size ≤ M) : ∀ ks : List Node, ((substL names ws ks).map Node.size).sum ≤ (ks.map Node.size).sum * M
  | [] => by simp [substL]
  | k :: ks => by
    have h1 := subst_size names ws M hM hw k
    have h2 := substL_size names ws M hM hw ks
    simp only [substL, List.map_cons, List.sum_cons, Nat.add_mul]
    omega
end
mutual
theorem subst_nil (ws : List Node) : ∀ n : Node, substR [] ws n = n
  | ⟨op, s, nm, k, ks⟩ => by
    have hf : (bif op == 1 then firstM nm [] ws else none) = none := by cases op == 1 <;> rfl
    simp only [substR, hf, substL_nil ws ks]
theorem substL_nil (ws : List Node) : ∀ ks : List Node, substL [] ws ks = ks
  | [] => rfl
  | k :: ks => by rw [substL, subst_nil ws k, substL_nil ws ks]
end
def big : Nat := 4611686018427387904
theorem rest5 (n : Node) (names : List ByteArray) (ws : List Node) (hn : n.size ≤ 300) (hw : ∀ w ∈ ws, w.size ≤ 300) (h1 : names.length ≤ 20) (h2 : ws.length ≤ 20) :
    (bindO (F22 big n names ws) fun r3 =>
      bindO (F23 big n names ws) fun r4 =>
      bindO (F21 big r3 r4) fun r5 =>
      iteO r5
      (iteO ((names.length : Int) == 0)
        (bindO (F22 big n ([]) ws) fun r13 =>
          bindO (F21 big r13 n) fun r14 =>
          some r14)
        (iteO ((ws.length : Int) == 0)
          (bindO (F22 big n ([]) ws) fun r6 =>
            bindO (F21 big r6 n) fun r7 =>
            some r7)
          (bindO (atO names 0) fun x8 =>
            bindO (atO ws 0) fun x9 =>
            bindO (F24 big n x8 x9) fun r10 =>
            bindO (F25 big n x8 x9) fun r11 =>
            bindO (F21 big r10 r11) fun r12 =>
            some r12)))
      (some false)) = some true := by
  have hbig : big = 4611686018427387904 := rfl
  have hw' : ∀ w ∈ ws, w.size ≤ 1048576 := fun w h => by have := hw w h; omega
  have s1 := subst22 names ws (by omega) big n (by omega) (by omega) hw'
  have s2 := subst23 names ws (by omega) big n (by omega) (by omega) hw'
  have s3 := subst22 [] ws ⟨by simp, by omega⟩ big n (by omega) (by omega) hw'
  rw [subst_nil] at s3
  have z1 := subst_size names ws 300 (by omega) hw n
  have e1 := equal21 big (substR names ws n) (by omega) (by omega)
  have e2 := equal21 big n (by omega) (by omega)
  rw [s1, s2, s3]
  simp only [bindO_some, e1, e2, iteO_true]
  cases hn0 : ((names.length : Int) == 0) with
  | true => rfl
  | false =>
    cases hw0 : ((ws.length : Int) == 0) with
    | true => rfl
    | false =>
      simp only [iteO_false]
      cases names with
      | nil => simp at hn0
      | cons nm nr =>
        cases ws with
        | nil => simp at hw0
        | cons w wr =>
          have hww := hw w (by simp)
          have a1 : atO (nm :: nr) 0 = some nm := atO_lit (i := 0) rfl rfl
          have a2 : atO (w :: wr) 0 = some w := atO_lit (i := 0) rfl rfl
          have t1 := subst22 [nm] [w] ⟨by simp, by simp⟩ big n (by omega) (by omega) (fun v hv => by rw [List.mem_singleton.1 hv]; omega)
          have t2 := subst23 [nm] [w] ⟨by simp, by simp⟩ big n (by omega) (by omega) (fun v hv => by rw [List.mem_singleton.1 hv]; omega)
          have z2 := subst_size [nm] [w] 300 (by omega) (fun v hv => by rw [List.mem_singleton.1 hv]; omega) n
          have e3 := equal21 big (substR [nm] [w] n) (by omega) (by omega)
          simp only [a1, a2, bindO_some, F24, F25, t1, t2, e3]
theorem law5 (n : Node) (names : List ByteArray) (ws : List Node) (hn : n.size + (ws.map Node.size).sum ≤ 1048576) (hl : names.length ≤ 1048576) : F5 big n names ws = some true := by
  have hbig : big = 4611686018427387904 := rfl
  have h12 : F12 big = some true := awake3 4611686018427387894
  have hwl : ws.length ≤ (ws.map Node.size).sum := len_sum ws
  simp only [F5, h12, bindO_some, iteO_true]
  by_cases c1 : names.length > 20
  · have d1 : decide ((names.length : Int) > 20) = true := decide_eq_true (by omega)
    simp only [d1, iteO_true]
  have d1 : decide ((names.length : Int) > 20) = false := decide_eq_false (by omega)
  simp only [d1, iteO_false]
  by_cases c2 : ws.length > 20
  · have d2 : decide ((ws.length : Int) > 20) = true := decide_eq_true (by omega)
    simp only [d2, iteO_true]
  have d2 : decide ((ws.length : Int) > 20) = false := decide_eq_false (by omega)
  have hf : fits (1 + ws.length) 64 = true := fits_ok (by omega)
  simp only [d2, iteO_false, hf, iteO_true]
  have m1 := small13 big 300 [n] (by decide) (by decide) (by simp only [List.map_cons, List.map_nil, List.sum_cons, List.sum_nil]; omega) (by simp only [List.map_cons, List.map_nil, List.sum_cons, List.sum_nil]; omega) (by simp only [List.length_cons, List.length_nil]; omega)
  have m2 := small13 big 300 ([n] ++ ws) (by decide) (by decide) (by simp only [List.singleton_append, List.map_cons, List.sum_cons]; omega) (by simp only [List.singleton_append, List.map_cons, List.sum_cons]; omega) (by simp only [List.singleton_append, List.length_cons]; omega)
  rw [m1, m2]
  simp only [bindO_some, List.singleton_append, List.map_cons, List.map_nil, List.sum_cons, List.sum_nil]
  cases hwe : ws.isEmpty with
  | true =>
    have hw0 : ws = [] := List.isEmpty_iff.1 hwe
    simp only [iteO_true]
    by_cases c3 : ((n.size + 0 : Nat) : Int) ≤ 300
    · rw [decide_eq_true c3, iteO_true]
      exact rest5 n names ws (by omega) (by rw [hw0]; simp) (by omega) (by omega)
    · rw [decide_eq_false c3]; rfl
  | false =>
    simp only [iteO_false]
    by_cases c3 : ((n.size + (ws.map Node.size).sum : Nat) : Int) ≤ 300
    · rw [decide_eq_true c3, iteO_true]
      exact rest5 n names ws (by omega) (fun w hw => by have := mem_size hw; omega) (by omega) (by omega)
    · rw [decide_eq_false c3]; rfl
end Go.Abs.Try
