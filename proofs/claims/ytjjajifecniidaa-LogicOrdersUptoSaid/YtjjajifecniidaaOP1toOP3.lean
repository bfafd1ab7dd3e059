import Derived.Test.YtjjajifecniidaaPl
import Derived.Test.YtjjajifecniidaaOD
namespace Go.Abs.Try
set_option linter.unusedSimpArgs false
set_option linter.unusedVariables false
set_option maxRecDepth 100000

/-! ### awake -/
theorem awake3 (M : Nat) : F12 (M + 10) = some true := by kernel_rfl
/-! ### Size, Levels -/
theorem size27 : ∀ (N : Nat) (n : Node), N ≤ 4611686018427387904 → n.size < N → F27 N n = some (n.size : Int)
  | 0, n, _, h => absurd h (Nat.not_lt_zero _)
  | N + 1, n, hN, h => by
    show foldN (F27_s1 (F27 N)) F27_f1 N n.kids 0 1 = _
    have hk : ∀ k ∈ n.kids, F27 N k = some (k.size : Int) := fun k hk => size27 N k (by omega) (by have := kids_size hk; omega)
    have hl := kids_len n
    have hs := n.size_eq
    have := foldN_inl (step := F27_s1 (F27 N)) (fin := F27_f1) (fun (s : Int) (k : Node) => s + (k.size : Int)) (fun l s => (∀ k ∈ l, k ∈ n.kids) ∧ s + ((l.map Node.size).sum : Nat) = (n.size : Int) ∧ 0 ≤ s)
      (fun x xs i s ⟨h1, h2, h3⟩ => by
        have hx := hk x (h1 x (by simp))
        simp only [List.map_cons, List.sum_cons] at h2
        have hw : IntKind.i64.wrap (s + (x.size : Int)) = s + (x.size : Int) := wrap_id (by omega)
        refine ⟨by simp only [F27_s1, hx, bindO_some, hw], fun k hk => h1 k (by simp [hk]), by omega, by omega⟩) n.kids N 0 1 (by omega) ⟨fun _ h => h, by omega, by omega⟩
    rw [this.1]
    have h2 := this.2.2.1
    simp only [List.map_nil, List.sum_nil] at h2
    show some _ = _
    congr 1
    omega
/-! ### small -/
theorem small13 (N : Nat) (m : Int) (n : Node) (hm : 0 ≤ m ∧ m ≤ 1000000) (hN : N ≤ 4611686018427387904) (h : n.size < N) (h2 : 2 ≤ N) : F13 N m [n] = some (decide ((n.size : Int) ≤ m)) := by
  obtain ⟨M, rfl⟩ : ∃ M, N = M + 2 := ⟨N - 2, by omega⟩
  have hs := size27 (M + 2) n hN h
  have hw : IntKind.i64.wrap (m - (n.size : Int)) = m - (n.size : Int) := wrap_id (by omega)
  simp only [F13, foldN, F13_s1, hs, bindO_some, F13_f1, hw]
  congr 1
  simp only [decide_eq_decide]
  omega
end Go.Abs.Try
namespace Go.Abs.Try
set_option linter.unusedSimpArgs false
set_option linter.unusedVariables false
set_option maxRecDepth 100000
/-! ### Strings -/
theorem ba_loop2 (s : ByteArray) : ∀ (m i : Nat) (r : List UInt8), s.size - i = m → ByteArray.toList.loop s i r = r.reverse ++ s.data.toList.drop i
  | 0, i, r, h => by
    have hl : s.data.toList.length = s.size := Array.length_toList
    rw [ByteArray.toList.loop.eq_1, if_neg (by omega), List.drop_eq_nil_iff.2 (by omega), List.append_nil]
  | m + 1, i, r, h => by
    have hl : s.data.toList.length = s.size := Array.length_toList
    have hi : i < s.data.toList.length := by omega
    rw [ByteArray.toList.loop.eq_1, if_pos (by omega), ba_loop2 s m (i + 1) _ (by omega), List.drop_eq_getElem_cons hi]
    have hi2 : i < s.data.size := by simpa using hi
    have : s.get! i = s.data.toList[i] := by
      cases s with | mk d => simp only [ByteArray.get!]; simp at hi2; simp [hi2]
    simp [this]
theorem ba_toList (s : ByteArray) : s.toList = s.data.toList := by
  rw [ByteArray.toList, ba_loop2 s s.size 0 [] (by omega)]; simp
theorem ba_inj {a b : ByteArray} (h : a.toList = b.toList) : a = b := by
  rw [ba_toList, ba_toList] at h
  cases a; cases b
  simp only [ByteArray.mk.injEq]
  exact Array.toList_inj.1 h
theorem bytes_lt : ∀ (x y : List UInt8), Op.bytesLess x y = decide (x < y)
  | [], [] => by simp [Op.bytesLess]
  | _ :: _, [] => by simp [Op.bytesLess]
  | [], _ :: _ => by simp [Op.bytesLess]
  | a :: x, b :: y => by
    rw [Op.bytesLess, bytes_lt x y]
    simp only [List.cons_lt_cons_iff]
    by_cases h1 : a < b <;> by_cases h2 : a = b <;> by_cases h3 : x < y <;> simp [h1, h2, h3]
theorem list_tri (x y : List UInt8) : x < y ∨ x = y ∨ y < x := by
  by_cases h : x < y
  · exact .inl h
  · by_cases h2 : y < x
    · exact .inr (.inr h2)
    · exact .inr (.inl (List.le_antisymm (List.not_lt.1 h2) (List.not_lt.1 h)))

/-! ### Orders -/
def cB (x y : List UInt8) : Int := if x < y then -1 else if x = y then 0 else 1
theorem cmpB_eq : ∀ x y : List UInt8, Lib.compareBytes x y = cB x y
  | [], [] => by simp [Lib.compareBytes, cB]
  | [], b :: y => by simp [Lib.compareBytes, cB]
  | a :: x, [] => by simp [Lib.compareBytes, cB]
  | a :: x, b :: y => by
    have ih := cmpB_eq x y
    simp only [cB] at ih
    simp only [Lib.compareBytes, cB, List.cons_lt_cons_iff, List.cons.injEq, ih]
    by_cases h1 : a < b
    · simp [h1]
    · by_cases h2 : b < a
      · have h3 : a ≠ b := fun e => by subst e; exact UInt8.lt_irrefl _ h2
        simp [h1, h2, h3]
      · have h3 : a = b := UInt8.le_antisymm (UInt8.not_lt.1 h2) (UInt8.not_lt.1 h1)
        simp [h3, UInt8.lt_irrefl]
def sg (a b : Int) : Int := if a < b then -1 else if a > b then 1 else 0
theorem sg78 (a b : Int) : F78 a b = some (sg a b) := by
  simp only [F78, sg, iteO_if, decide_eq_true_eq]
  repeat' split
  all_goals rfl
theorem sg80 (a b : Int) : F80 a b = some (sg a b) := by
  simp only [F80, sg, iteO_if, decide_eq_true_eq]
  repeat' split
  all_goals rfl
theorem sg81 (a b : Int) : F81 a b = some (sg a b) := by
  simp only [F81, sg, iteO_if, decide_eq_true_eq]
  repeat' split
  all_goals rfl
theorem s79 (a b : ByteArray) : F79 a b = some (cB a.toList b.toList) := by
  rw [F79, cmpS, cmpB_eq, ba_toList, ba_toList]
def cmb (u v : Int) : Int := if u = 0 then v else u
def TT (x y z : Int) : Prop := (x = 0 → y = 0 → z = 0) ∧ (x ≤ 0 → y ≤ 0 → z ≤ 0 ∧ (z = 0 → x = 0 ∧ y = 0))
theorem cmb_neg (u v : Int) : cmb (-u) (-v) = -cmb u v := by
  unfold cmb; split <;> split <;> omega
theorem cmb_TT {x y z x' y' z' : Int} (h : TT x y z) (h' : x = 0 → y = 0 → TT x' y' z') : TT (cmb x x') (cmb y y') (cmb z z') := by
  obtain ⟨h1, h2⟩ := h
  by_cases hx : x = 0
  · by_cases hy : y = 0
    · have hz := h1 hx hy
      obtain ⟨h3, h4⟩ := h' hx hy
      simp only [cmb, hx, hy, hz, if_true]
      exact ⟨h3, h4⟩
    · simp only [cmb, hx, hy, if_true, if_false]
      refine ⟨fun _ h => absurd h hy, fun _ h4 => ?_⟩
      obtain ⟨h5, h6⟩ := h2 (by omega) h4
      have hz : z ≠ 0 := fun e => hy (h6 e).2
      rw [if_neg hz]
      exact ⟨h5, fun e => absurd e hz⟩
  · by_cases hy : y = 0
    · simp only [cmb, hx, hy, if_true, if_false]
      refine ⟨fun h => absurd h hx, fun h3 _ => ?_⟩
      obtain ⟨h5, h6⟩ := h2 h3 (by omega)
      have hz : z ≠ 0 := fun e => hx (h6 e).1
      rw [if_neg hz]
      exact ⟨h5, fun e => absurd e hz⟩
    · simp only [cmb, hx, hy, if_false]
      refine ⟨fun h => absurd h hx, fun h3 h4 => ?_⟩
      obtain ⟨h5, h6⟩ := h2 h3 h4
      have hz : z ≠ 0 := fun e => hx (h6 e).1
      rw [if_neg hz]
      exact ⟨h5, fun e => absurd e hz⟩
theorem sg_neg (a b : Int) : sg b a = -sg a b := by
  unfold sg
  by_cases h1 : a < b
  · have h2 : ¬ b < a := by omega
    simp [h1, h2]
  · by_cases h2 : b < a
    · simp [h1, h2]
    · simp [h1, h2]
theorem sg_spec (a b : Int) : (sg a b = -1 ∧ a < b) ∨ (sg a b = 0 ∧ a = b) ∨ (sg a b = 1 ∧ a > b) := by
  unfold sg
  by_cases h1 : a < b
  · exact .inl ⟨if_pos h1, h1⟩
  · by_cases h2 : a > b
    · exact .inr (.inr ⟨by rw [if_neg h1, if_pos h2], h2⟩)
    · exact .inr (.inl ⟨by rw [if_neg h1, if_neg h2], by omega⟩)
theorem sg_TT (a b c : Int) : TT (sg a b) (sg b c) (sg a c) := by
  have h1 := sg_spec a b
  have h2 := sg_spec b c
  have h3 := sg_spec a c
  exact ⟨fun x y => by omega, fun x y => ⟨by omega, fun z => ⟨by omega, by omega⟩⟩⟩
theorem cB_neg (x y : List UInt8) : cB y x = -cB x y := by
  unfold cB
  rcases list_tri x y with h | h | h
  · have h2 : ¬ y < x := fun h' => List.lt_irrefl x (List.lt_trans h h')
    have h3 : y ≠ x := fun e => by subst e; exact List.lt_irrefl _ h
    simp [h, h2, h3]
  · subst h; simp [List.lt_irrefl]
  · have h2 : ¬ x < y := fun h' => List.lt_irrefl x (List.lt_trans h' h)
    have h3 : x ≠ y := fun e => by subst e; exact List.lt_irrefl _ h
    simp [h, h2, h3]
theorem cB_zero {x y : List UInt8} (h : cB x y = 0) : x = y := by
  unfold cB at h
  by_cases h1 : x < y
  · simp [h1] at h
  · by_cases h2 : x = y
    · exact h2
    · simp [h1, h2] at h
theorem cB_self (x : List UInt8) : cB x x = 0 := by simp [cB, List.lt_irrefl]
theorem cB_lt {x y : List UInt8} (h : x < y) : cB x y = -1 := by simp [cB, h]
theorem cB_le {x y : List UInt8} (h : cB x y ≤ 0) : x < y ∨ x = y := by
  unfold cB at h
  by_cases h1 : x < y
  · exact .inl h1
  · by_cases h2 : x = y
    · exact .inr h2
    · simp [h1, h2] at h
theorem cB_TT (x y z : List UInt8) : TT (cB x y) (cB y z) (cB x z) := by
  constructor
  · intro h1 h2
    rw [cB_zero h1, cB_zero h2, cB_self]
  · intro h1 h2
    rcases cB_le h1 with h1 | h1 <;> rcases cB_le h2 with h2 | h2
    · rw [cB_lt (List.lt_trans h1 h2)]; exact ⟨by omega, fun h => by omega⟩
    · subst h2; rw [cB_lt h1]; exact ⟨by omega, fun h => by omega⟩
    · subst h1; rw [cB_lt h2]; exact ⟨by omega, fun h => by omega⟩
    · subst h1; subst h2; rw [cB_self]; exact ⟨by omega, fun _ => ⟨rfl, rfl⟩⟩
mutual
def cmpR : Node → Node → Int
  | ⟨o, s, nm, nu, ks⟩, b => cmb (sg o b.op) (cmb (sg s b.sortf) (cmb (cB nm.toList b.name.toList) (cmb (sg nu b.num) (cmb (sg ks.length b.kids.length) (cmpL ks b.kids)))))
def cmpL : List Node → List Node → Int
  | [], _ => 0
  | x :: xs, l => match l with
    | [] => 0
    | y :: ys => cmb (cmpR x y) (cmpL xs ys)
end
mutual
theorem cmpR_neg : ∀ a b : Node, cmpR b a = -cmpR a b
  | ⟨o, s, nm, nu, ks⟩, ⟨o', s', nm', nu', ks'⟩ => by
    simp only [cmpR, ← cmb_neg, sg_neg o o', sg_neg s s', cB_neg nm.toList nm'.toList, sg_neg nu nu', sg_neg (ks.length : Int) ks'.length, cmpL_neg ks ks']
theorem cmpL_neg : ∀ a b : List Node, cmpL b a = -cmpL a b
  | [], [] => by simp [cmpL]
  | [], y :: ys => by simp [cmpL]
  | x :: xs, [] => by simp [cmpL]
  | x :: xs, y :: ys => by simp only [cmpL, ← cmb_neg, cmpR_neg x y, cmpL_neg xs ys]
end
theorem sg_zero {a b : Int} (h : sg a b = 0) : a = b := by
  unfold sg at h
  by_cases h1 : a < b
  · simp [h1] at h
  · by_cases h2 : a > b
    · simp [h1, h2] at h
    · omega
mutual
theorem cmpR_TT : ∀ a b c : Node, TT (cmpR a b) (cmpR b c) (cmpR a c)
  | ⟨o, s, nm, nu, ks⟩, ⟨o', s', nm', nu', ks'⟩, ⟨o2, s2, nm2, nu2, ks2⟩ => by
    simp only [cmpR]
    refine cmb_TT (sg_TT _ _ _) fun _ _ => cmb_TT (sg_TT _ _ _) fun _ _ => cmb_TT (cB_TT _ _ _) fun _ _ => cmb_TT (sg_TT _ _ _) fun _ _ => cmb_TT (sg_TT _ _ _) fun h1 h2 => ?_
    have h1 := sg_zero h1
    have h2 := sg_zero h2
    exact cmpL_TT ks ks' ks2 (by omega) (by omega)
theorem cmpL_TT : ∀ a b c : List Node, a.length = b.length → b.length = c.length → TT (cmpL a b) (cmpL b c) (cmpL a c)
  | [], [], [], _, _ => by simp [cmpL, TT]
  | x :: xs, y :: ys, z :: zs, h1, h2 => by
    simp only [cmpL]
    exact cmb_TT (cmpR_TT x y z) fun _ _ => cmpL_TT xs ys zs (by simpa using h1) (by simpa using h2)
  | [], _ :: _, _, h1, _ => by simp at h1
  | _ :: _, [], _, h1, _ => by simp at h1
  | _, [], _ :: _, _, h2 => by simp at h2
  | _, _ :: _, [], _, h2 => by simp at h2
end
theorem cmpR_self (a : Node) : cmpR a a = 0 := by
  have := cmpR_neg a a
  omega
end Go.Abs.Try
namespace Go.Abs.Try
set_option linter.unusedSimpArgs false
set_option linter.unusedVariables false
set_option maxRecDepth 100000
theorem cmpR_eq (a b : Node) : cmpR a b = cmb (sg a.op b.op) (cmb (sg a.sortf b.sortf) (cmb (cB a.name.toList b.name.toList) (cmb (sg a.num b.num) (cmb (sg a.kids.length b.kids.length) (cmpL a.kids b.kids))))) := by
  cases a; simp only [cmpR]
theorem iteO_cmb (u : Int) (x : Option Int) (v : Int) (h : u = 0 → x = some v) : iteO (u == 0) x (some u) = some (cmb u v) := by
  by_cases hu : u = 0
  · have e : (u == 0) = true := beq_iff_eq.2 hu
    rw [e, iteO_true, h hu, cmb, if_pos hu]
  · have e : (u == 0) = false := beq_eq_false_iff_ne.2 hu
    rw [e, iteO_false, cmb, if_neg hu]
theorem kids18 (self : Node → Node → Option Int) (b : Node) : ∀ (ks : List Node) (N i : Nat), (∀ x ∈ ks, ∀ y, self x y = some (cmpR x y)) → ks.length = (b.kids.drop i).length → ks.length < N → foldN (F18_s1 self b) F18_f1 N ks i () = some (cmpL ks (b.kids.drop i))
  | [], N, i, _, _, hN => by
    obtain ⟨M, rfl⟩ : ∃ M, N = M + 1 := ⟨N - 1, by simp at hN; omega⟩
    simp only [foldN, F18_f1, cmpL]
  | x :: xs, N, i, hs, hl, hN => by
    obtain ⟨M, rfl⟩ : ∃ M, N = M + 1 := ⟨N - 1, by simp at hN; omega⟩
    simp only [List.length_cons] at hl hN
    have hi : i < b.kids.length := by simp at hl; omega
    have hd := List.drop_eq_getElem_cons hi
    have ha : atO b.kids (i : Int) = some b.kids[i] := atO_get (List.getElem?_eq_getElem hi)
    have ih := kids18 self b xs M (i + 1) (fun x hx => hs x (by simp [hx])) (by simp at hl ⊢; omega) (by omega)
    rw [hd, cmpL]
    simp only [foldN, F18_s1, ha, bindO_some, hs x (by simp)]
    by_cases hz : cmpR x b.kids[i] = 0
    · have e : (cmpR x b.kids[i] == 0) = true := beq_iff_eq.2 hz
      simp only [e, iteO_true, bindO_some, cmb, hz, if_true]
      exact ih
    · have e : (cmpR x b.kids[i] == 0) = false := beq_eq_false_iff_ne.2 hz
      simp only [e, iteO_false, bindO_some, cmb, hz, if_false]
theorem cmp18 : ∀ (N : Nat) (a b : Node), a.size < N → F18 N a b = some (cmpR a b)
  | 0, a, _, h => absurd h (Nat.not_lt_zero _)
  | N + 1, a, b, h => by
    have hk := kids_len a
    show F18b (F18 N) N a b = _
    rw [cmpR_eq]
    simp only [F18b, sg78, sg80, s79, bindO_some]
    refine iteO_cmb _ _ _ fun _ => iteO_cmb _ _ _ fun _ => iteO_cmb _ _ _ fun _ => iteO_cmb _ _ _ fun _ => iteO_cmb _ _ _ fun hl => ?_
    have hl := sg_zero hl
    have := kids18 (F18 N) b a.kids N 0 (fun x hx y => cmp18 N x y (by have := kids_size hx; omega)) (by simp; omega) (by omega)
    simpa using this
theorem kids19 (self : Node → Node → Option Int) (a b : Node) (hle : a.kids.length ≤ 4000000) (hl : a.kids.length = b.kids.length) (hs : ∀ x ∈ a.kids, ∀ y, self x y = some (cmpR x y)) : ∀ (m i N : Nat) (k : Int), i + m = a.kids.length → m + 1 < N → whileN (F19_s3 self a b) N (k, (i : Int)) = some (cmb k (cmpL (a.kids.drop i) (b.kids.drop i)))
  | 0, i, N, k, h, hN => by
    obtain ⟨M, rfl⟩ : ∃ M, N = M + 1 := ⟨N - 1, by omega⟩
    have hd : decide ((i : Int) < (a.kids.length : Int)) = false := decide_eq_false (by omega)
    have h0 : a.kids.drop i = [] := List.drop_eq_nil_iff.2 (by omega)
    rw [h0, cmpL]
    simp only [whileN, F19_s3, hd, iteO_false]
    by_cases hk : k = 0
    · subst hk; rfl
    · have e : (k == 0) = false := beq_eq_false_iff_ne.2 hk
      simp only [e, iteO_false, bindO_some, cmb, hk, if_false]
  | m + 1, i, N, k, h, hN => by
    obtain ⟨M, rfl⟩ : ∃ M, N = M + 1 := ⟨N - 1, by omega⟩
    have h1 : i < a.kids.length := by omega
    have h2 : i < b.kids.length := by omega
    have hd : decide ((i : Int) < (a.kids.length : Int)) = true := decide_eq_true (by omega)
    have a1 : atO a.kids (i : Int) = some a.kids[i] := atO_get (List.getElem?_eq_getElem h1)
    have a2 : atO b.kids (i : Int) = some b.kids[i] := atO_get (List.getElem?_eq_getElem h2)
    have hw : IntKind.i64.wrap ((i : Int) + 1) = ((i + 1 : Nat) : Int) := by rw [wrap_id (by omega)]; omega
    have ih := kids19 self a b hle hl hs m (i + 1) M (cmpR a.kids[i] b.kids[i]) (by omega) (by omega)
    rw [List.drop_eq_getElem_cons h1, List.drop_eq_getElem_cons h2, cmpL]
    by_cases hk : k = 0
    · subst hk
      have e : ((0 : Int) == 0) = true := rfl
      simp only [whileN, F19_s3, e, hd, iteO_true, a1, a2, bindO_some, hs _ (List.getElem_mem h1), hw, ih, cmb, if_true]
    · have e : (k == 0) = false := beq_eq_false_iff_ne.2 hk
      simp only [whileN, F19_s3, e, iteO_false, bindO_some, cmb, hk, if_false]
theorem cmp19 : ∀ (N : Nat) (a b : Node), a.size + 1 < N → a.size ≤ 1048576 → F19 N a b = some (cmpR a b)
  | 0, a, _, h, _ => absurd h (Nat.not_lt_zero _)
  | N + 1, a, b, h, hb => by
    have hk := kids_len a
    have hp := size_pos a
    obtain ⟨M, rfl⟩ : ∃ M, N = M + 1 := ⟨N - 1, by omega⟩
    show F19b (F19 (M + 1)) (M + 1) a b = _
    rw [cmpR_eq]
    simp only [F19b, sg81, bindO_some]
    have w4 : ∀ z : Int, whileN (F19_s4 z) (M + 1) () = some z := fun z => rfl
    have w5 : ∀ z : Int, whileN (F19_s5 z) (M + 1) () = some z := fun z => rfl
    have w6 : ∀ z : Int, whileN (F19_s6 z) (M + 1) () = some z := fun z => rfl
    have w1 : whileN F19_s1 (M + 1) () = some (-1) := rfl
    have w2 : whileN F19_s2 (M + 1) () = some 1 := rfl
    simp only [w1, w2, w4, w5, w6]
    refine iteO_cmb _ _ _ fun _ => iteO_cmb _ _ _ fun _ => ?_
    rw [bytes_lt]
    by_cases h1 : a.name.toList < b.name.toList
    · rw [decide_eq_true h1, iteO_true, cB_lt h1]; rfl
    · rw [decide_eq_false h1, iteO_false]
      by_cases h2 : a.name.toList = b.name.toList
      · have e : (a.name.toList == b.name.toList) = true := beq_iff_eq.2 h2
        rw [e, Bool.false_or, iteO_true, h2, cB_self]
        have : ∀ v, cmb 0 v = v := fun v => if_pos rfl
        rw [this]
        refine iteO_cmb _ _ _ fun _ => ?_
        by_cases hl : a.kids.length = b.kids.length
        · have := kids19 (F19 (M + 1)) a b (by omega) hl (fun x hx y => cmp19 (M + 1) x y (by have := kids_size hx; omega) (by have := kids_size hx; omega)) a.kids.length 0 (M + 1) (sg a.kids.length b.kids.length) (by omega) (by omega)
          simpa using this
        · have hz : sg (a.kids.length : Int) b.kids.length ≠ 0 := fun e => hl (by have := sg_zero e; omega)
          have e : (sg (a.kids.length : Int) b.kids.length == 0) = false := beq_eq_false_iff_ne.2 hz
          simp only [whileN, F19_s3, e, iteO_false, bindO_some, cmb, hz, if_false]
      · have e : (a.name.toList == b.name.toList) = false := beq_eq_false_iff_ne.2 h2
        rw [e, Bool.false_or, iteO_false]
        have : cB a.name.toList b.name.toList = 1 := by simp [cB, h1, h2]
        rw [this]; rfl
theorem cmb_range {u v : Int} (hu : -1 ≤ u ∧ u ≤ 1) (hv : -1 ≤ v ∧ v ≤ 1) : -1 ≤ cmb u v ∧ cmb u v ≤ 1 := by
  unfold cmb; split <;> assumption
theorem sg_range (a b : Int) : -1 ≤ sg a b ∧ sg a b ≤ 1 := by
  have := sg_spec a b; omega
theorem cB_range (x y : List UInt8) : -1 ≤ cB x y ∧ cB x y ≤ 1 := by
  unfold cB; split
  · decide
  · split <;> decide
mutual
theorem sg_cmb_range : ∀ a b : Node, -1 ≤ cmpR a b ∧ cmpR a b ≤ 1
  | ⟨o, s, nm, nu, ks⟩, b => by
    simp only [cmpR]
    exact cmb_range (sg_range _ _) (cmb_range (sg_range _ _) (cmb_range (cB_range _ _) (cmb_range (sg_range _ _) (cmb_range (sg_range _ _) (sg_cmb_rangeL ks b.kids)))))
theorem sg_cmb_rangeL : ∀ a b : List Node, -1 ≤ cmpL a b ∧ cmpL a b ≤ 1
  | [], _ => by simp [cmpL]
  | _ :: _, [] => by simp [cmpL]
  | x :: xs, y :: ys => by simp only [cmpL]; exact cmb_range (sg_cmb_range x y) (sg_cmb_rangeL xs ys)
end
def big : Nat := 4611686018427387904
theorem law4 (a b c : Node) (ha : a.size ≤ 1048576) (hb : b.size ≤ 1048576) (hc : c.size ≤ 1048576) : F4 big a b c = some true := by
  have h12 : F12 big = some true := awake3 4611686018427387894
  have sa := small13 big 2000 a (by decide) (by decide) (by simp only [big]; omega) (by decide)
  have sb := small13 big 2000 b (by decide) (by decide) (by simp only [big]; omega) (by decide)
  have sc := small13 big 2000 c (by decide) (by decide) (by simp only [big]; omega) (by decide)
  have hbig : big = 4611686018427387904 := rfl
  have c1 := cmp18 big a b (by omega)
  have c2 := cmp18 big b c (by omega)
  have c3 := cmp18 big a c (by omega)
  have c4 := cmp19 big a b (by omega) ha
  have c5 := cmp18 big b a (by omega)
  have c6 := cmp18 big a a (by omega)
  have hr := sg_cmb_range a b
  have hw : IntKind.i64.wrap (0 - cmpR a b) = -cmpR a b := by rw [wrap_id (by omega)]; omega
  have hn := cmpR_neg a b
  have ht := cmpR_TT a b c
  have hs := cmpR_self a
  simp only [F4, F20, h12, sa, sb, sc, c1, c2, c3, c4, c5, c6, bindO_some, iteO_true, beq_self_eq_true, hw, hn, hs]
  cases decide ((a.size : Int) ≤ 2000) with
  | false => rfl
  | true =>
  cases decide ((b.size : Int) ≤ 2000) with
  | false => rfl
  | true =>
  cases decide ((c.size : Int) ≤ 2000) with
  | false => rfl
  | true =>
  simp only [iteO_true]
  generalize cmpR a b = x at *
  generalize cmpR b c = y at *
  generalize cmpR a c = z at *
  obtain ⟨t1, t2⟩ := ht
  by_cases hx : x ≤ 0
  · by_cases hy : y ≤ 0
    · obtain ⟨t3, t4⟩ := t2 hx hy
      rw [decide_eq_true hx, decide_eq_true hy, decide_eq_true t3]
      simp only [iteO_true]
      by_cases hz : z < 0
      · rw [decide_eq_true hz]; rfl
      · obtain ⟨t5, t6⟩ := t4 (by omega)
        rw [decide_eq_false hz, t5, t6]; rfl
    · rw [decide_eq_true hx, decide_eq_false hy]; rfl
  · rw [decide_eq_false hx]; rfl
end Go.Abs.Try
