import Derived.Test.YtjjajifecniidaaSP1
namespace Go.Abs.Try
set_option linter.unusedSimpArgs false
set_option linter.unusedVariables false
set_option maxRecDepth 100000
/-! ### Strings -/
theorem ba_loop2 (s : ByteArray) : ∀ (m i : Nat) (r : List UInt8), s.size - i = m → ByteArray.toList.loop s i r = r.reverse ++ s.data.toList.drop i
  | 0, i, r, h => by
    have hl : s.data.toList.length = s.size := Array.length_toList
    rw [ByteArray.toList.loop.eq_1, if_neg (by omega), List.drop_eq_nil_iff.2 (by omega), List.append_nil]
  | m + 1, i, r, h => by
    have hl : s.data.toList.length = s.size := Array.length_toList
    have hi : i < s.data.toList.length := by omega
    rw [ByteArray.toList.loop.eq_1, if_pos (by omega), ba_loop2 s m (i + 1) _ (by omega), List.drop_eq_getElem_cons hi]
    have hi2 : i < s.data.size := by simpa using hi
    have : s.get! i = s.data.toList[i] := by
      cases s with | mk d => simp only [ByteArray.get!]; simp at hi2; simp [hi2]
    simp [this]
theorem ba_toList (s : ByteArray) : s.toList = s.data.toList := by
  rw [ByteArray.toList, ba_loop2 s s.size 0 [] (by omega)]; simp
theorem ba_inj {a b : ByteArray} (h : a.toList = b.toList) : a = b := by
  rw [ba_toList, ba_toList] at h
  cases a; cases b
  simp only [ByteArray.mk.injEq]
  exact Array.toList_inj.1 h
theorem bytes_lt : ∀ (x y : List UInt8), Op.bytesLess x y = decide (x < y)
  | [], [] => by simp [Op.bytesLess]
  | _ :: _, [] => by simp [Op.bytesLess]
  | [], _ :: _ => by simp [Op.bytesLess]
  | a :: x, b :: y => by
    rw [Op.bytesLess, bytes_lt x y]
    simp only [List.cons_lt_cons_iff]
    by_cases h1 : a < b <;> by_cases h2 : a = b <;> by_cases h3 : x < y <;> simp [h1, h2, h3]
theorem list_tri (x y : List UInt8) : x < y ∨ x = y ∨ y < x := by
  by_cases h : x < y
  · exact .inl h
  · by_cases h2 : y < x
    · exact .inr (.inr h2)
    · exact .inr (.inl (List.le_antisymm (List.not_lt.1 h2) (List.not_lt.1 h)))

/-! ### Orders -/
def cB (x y : List UInt8) : Int := if x < y then -1 else if x = y then 0 else 1
def sg (a b : Int) : Int := if a < b then -1 else if a > b then 1 else 0
theorem sg81 (a b : Int) : F81 a b = some (sg a b) := by
  simp only [F81, sg, iteO_if, decide_eq_true_eq]
  repeat' split
  all_goals rfl
def cmb (u v : Int) : Int := if u = 0 then v else u
def TT (x y z : Int) : Prop := (x = 0 → y = 0 → z = 0) ∧ (x ≤ 0 → y ≤ 0 → z ≤ 0 ∧ (z = 0 → x = 0 ∧ y = 0))
theorem cmb_neg (u v : Int) : cmb (-u) (-v) = -cmb u v := by
  unfold cmb; split <;> split <;> omega
theorem cmb_TT {x y z x' y' z' : Int} (h : TT x y z) (h' : x = 0 → y = 0 → TT x' y' z') : TT (cmb x x') (cmb y y') (cmb z z') := by
  obtain ⟨h1, h2⟩ := h
  by_cases hx : x = 0
  · by_cases hy : y = 0
    · have hz := h1 hx hy
      obtain ⟨h3, h4⟩ := h' hx hy
      simp only [cmb, hx, hy, hz, if_true]
      exact ⟨h3, h4⟩
    · simp only [cmb, hx, hy, if_true, if_false]
      refine ⟨fun _ h => absurd h hy, fun _ h4 => ?_⟩
      obtain ⟨h5, h6⟩ := h2 (by omega) h4
      have hz : z ≠ 0 := fun e => hy (h6 e).2
      rw [if_neg hz]
      exact ⟨h5, fun e => absurd e hz⟩
  · by_cases hy : y = 0
    · simp only [cmb, hx, hy, if_true, if_false]
      refine ⟨fun h => absurd h hx, fun h3 _ => ?_⟩
      obtain ⟨h5, h6⟩ := h2 h3 (by omega)
      have hz : z ≠ 0 := fun e => hx (h6 e).1
      rw [if_neg hz]
      exact ⟨h5, fun e => absurd e hz⟩
    · simp only [cmb, hx, hy, if_false]
      refine ⟨fun h => absurd h hx, fun h3 h4 => ?_⟩
      obtain ⟨h5, h6⟩ := h2 h3 h4
      have hz : z ≠ 0 := fun e => hx (h6 e).1
      rw [if_neg hz]
      exact ⟨h5, fun e => absurd e hz⟩
theorem sg_neg (a b : Int) : sg b a = -sg a b := by
  unfold sg
  by_cases h1 : a < b
  · have h2 : ¬ b < a := by omega
    simp [h1, h2]
  · by_cases h2 : b < a
    · simp [h1, h2]
    · simp [h1, h2]
theorem sg_spec (a b : Int) : (sg a b = -1 ∧ a < b) ∨ (sg a b = 0 ∧ a = b) ∨ (sg a b = 1 ∧ a > b) := by
  unfold sg
  by_cases h1 : a < b
  · exact .inl ⟨if_pos h1, h1⟩
  · by_cases h2 : a > b
    · exact .inr (.inr ⟨by rw [if_neg h1, if_pos h2], h2⟩)
    · exact .inr (.inl ⟨by rw [if_neg h1, if_neg h2], by omega⟩)
theorem sg_TT (a b c : Int) : TT (sg a b) (sg b c) (sg a c) := by
  have h1 := sg_spec a b
  have h2 := sg_spec b c
  have h3 := sg_spec a c
  exact ⟨fun x y => by omega, fun x y => ⟨by omega, fun z => ⟨by omega, by omega⟩⟩⟩
theorem cB_neg (x y : List UInt8) : cB y x = -cB x y := by
  unfold cB
  rcases list_tri x y with h | h | h
  · have h2 : ¬ y < x := fun h' => List.lt_irrefl x (List.lt_trans h h')
    have h3 : y ≠ x := fun e => by subst e; exact List.lt_irrefl _ h
    simp [h, h2, h3]
  · subst h; simp [List.lt_irrefl]
  · have h2 : ¬ x < y := fun h' => List.lt_irrefl x (List.lt_trans h' h)
    have h3 : x ≠ y := fun e => by subst e; exact List.lt_irrefl _ h
    simp [h, h2, h3]
theorem cB_zero {x y : List UInt8} (h : cB x y = 0) : x = y := by
  unfold cB at h
  by_cases h1 : x < y
  · simp [h1] at h
  · by_cases h2 : x = y
    · exact h2
    · simp [h1, h2] at h
theorem cB_self (x : List UInt8) : cB x x = 0 := by simp [cB, List.lt_irrefl]
theorem cB_lt {x y : List UInt8} (h : x < y) : cB x y = -1 := by simp [cB, h]
theorem cB_le {x y : List UInt8} (h : cB x y ≤ 0) : x < y ∨ x = y := by
  unfold cB at h
  by_cases h1 : x < y
  · exact .inl h1
  · by_cases h2 : x = y
    · exact .inr h2
    · simp [h1, h2] at h
theorem cB_TT (x y z : List UInt8) : TT (cB x y) (cB y z) (cB x z) := by
  constructor
  · intro h1 h2
    rw [cB_zero h1, cB_zero h2, cB_self]
  · intro h1 h2
    rcases cB_le h1 with h1 | h1 <;> rcases cB_le h2 with h2 | h2
    · rw [cB_lt (List.lt_trans h1 h2)]; exact ⟨by omega, fun h => by omega⟩
    · subst h2; rw [cB_lt h1]; exact ⟨by omega, fun h => by omega⟩
    · subst h1; rw [cB_lt h2]; exact ⟨by omega, fun h => by omega⟩
    · subst h1; subst h2; rw [cB_self]; exact ⟨by omega, fun _ => ⟨rfl, rfl⟩⟩
mutual
def cmpR : Node → Node → Int
  | ⟨o, s, nm, nu, ks⟩, b => cmb (sg o b.op) (cmb (sg s b.sortf) (cmb (cB nm.toList b.name.toList) (cmb (sg nu b.num) (cmb (sg ks.length b.kids.length) (cmpL ks b.kids)))))
def cmpL : List Node → List Node → Int
  | [], _ => 0
  | x :: xs, l => match l with
    | [] => 0
    | y :: ys => cmb (cmpR x y) (cmpL xs ys)
end
mutual
theorem cmpR_neg : ∀ a b : Node, cmpR b a = -cmpR a b
  | ⟨o, s, nm, nu, ks⟩, ⟨o', s', nm', nu', ks'⟩ => by
    simp only [cmpR, ← cmb_neg, sg_neg o o', sg_neg s s', cB_neg nm.toList nm'.toList, sg_neg nu nu', sg_neg (ks.length : Int) ks'.length, cmpL_neg ks ks']
theorem cmpL_neg : ∀ a b : List Node, cmpL b a = -cmpL a b
  | [], [] => by simp [cmpL]
  | [], y :: ys => by simp [cmpL]
  | x :: xs, [] => by simp [cmpL]
  | x :: xs, y :: ys => by simp only [cmpL, ← cmb_neg, cmpR_neg x y, cmpL_neg xs ys]
end
theorem sg_zero {a b : Int} (h : sg a b = 0) : a = b := by
  unfold sg at h
  by_cases h1 : a < b
  · simp [h1] at h
  · by_cases h2 : a > b
    · simp [h1, h2] at h
    · omega
mutual
theorem cmpR_TT : ∀ a b c : Node, TT (cmpR a b) (cmpR b c) (cmpR a c)
  | ⟨o, s, nm, nu, ks⟩, ⟨o', s', nm', nu', ks'⟩, ⟨o2, s2, nm2, nu2, ks2⟩ => by
    simp only [cmpR]
    refine cmb_TT (sg_TT _ _ _) fun _ _ => cmb_TT (sg_TT _ _ _) fun _ _ => cmb_TT (cB_TT _ _ _) fun _ _ => cmb_TT (sg_TT _ _ _) fun _ _ => cmb_TT (sg_TT _ _ _) fun h1 h2 => ?_
    have h1 := sg_zero h1
    have h2 := sg_zero h2
    exact cmpL_TT ks ks' ks2 (by omega) (by omega)
theorem cmpL_TT : ∀ a b c : List Node, a.length = b.length → b.length = c.length → TT (cmpL a b) (cmpL b c) (cmpL a c)
  | [], [], [], _, _ => by simp [cmpL, TT]
  | x :: xs, y :: ys, z :: zs, h1, h2 => by
    simp only [cmpL]
    exact cmb_TT (cmpR_TT x y z) fun _ _ => cmpL_TT xs ys zs (by simpa using h1) (by simpa using h2)
  | [], _ :: _, _, h1, _ => by simp at h1
  | _ :: _, [], _, h1, _ => by simp at h1
  | _, [], _ :: _, _, h2 => by simp at h2
  | _, _ :: _, [], _, h2 => by simp at h2
end
theorem cmpR_self (a : Node) : cmpR a a = 0 := by
  have := cmpR_neg a a
  omega
end Go.Abs.Try
