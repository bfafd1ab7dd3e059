import Derived.Test.YtjjajifecniidaaMrg
import Derived.Test.YtjjajifecniidaaRP14
namespace Go.Abs.Try
set_option linter.unusedSimpArgs false
set_option linter.unusedVariables false
set_option maxRecDepth 100000
/-! ### The reference's sum -/
def SrtN (l : List Node) : Prop := l.Pairwise fun m k => cmpR m k < 0
/-- putting a node into a sorted list, once -/
def putR (n : Node) : List Node → List Node
  | [] => [n]
  | x :: l => if cmpR n x = 0 then x :: l else if cmpR n x < 0 then n :: x :: l else x :: putR n l
theorem putR_mem (n : Node) : ∀ (l : List Node), ∀ x ∈ putR n l, x = n ∨ x ∈ l
  | [], x, h => by simp [putR] at h; exact .inl h
  | y :: l, x, h => by
    rw [putR] at h
    split at h
    · exact .inr h
    · split at h
      · simp only [List.mem_cons] at h ⊢; exact h
      · rcases List.mem_cons.1 h with rfl | h
        · exact .inr (by simp)
        · rcases putR_mem n l x h with h | h
          · exact .inl h
          · exact .inr (by simp [h])
theorem putR_old (n : Node) : ∀ (l : List Node), ∀ x ∈ l, x ∈ putR n l
  | y :: l, x, h => by
    rw [putR]
    split
    · exact h
    · split
      · simp [List.mem_cons.1 h]
      · rcases List.mem_cons.1 h with rfl | h
        · simp
        · simp [putR_old n l x h]
theorem putR_new (n : Node) : ∀ (l : List Node), ∃ x ∈ putR n l, cmpR x n = 0
  | [] => ⟨n, by simp [putR], cmpR_self n⟩
  | y :: l => by
    rw [putR]
    split
    · rename_i h; exact ⟨y, by simp, cmp_sym h⟩
    · split
      · exact ⟨n, by simp, cmpR_self n⟩
      · obtain ⟨x, h1, h2⟩ := putR_new n l
        exact ⟨x, by simp [h1], h2⟩
theorem putR_srt (n : Node) : ∀ (l : List Node), SrtN l → SrtN (putR n l)
  | [], _ => by simp [putR, SrtN]
  | y :: l, h => by
    have hy := (List.pairwise_cons.1 h).1
    have hl := (List.pairwise_cons.1 h).2
    rw [putR]
    split
    · exact h
    · split
      · rename_i h1
        refine List.pairwise_cons.2 ⟨fun x hx => ?_, h⟩
        rcases List.mem_cons.1 hx with rfl | hx
        · exact h1
        · exact cmp_lt2 (by omega) (hy x hx)
      · rename_i h0 h1
        refine List.pairwise_cons.2 ⟨fun x hx => ?_, putR_srt n l hl⟩
        rcases putR_mem n l x hx with rfl | hx
        · rw [cmpR_neg]; omega
        · exact hy x hx
theorem putR_len (n : Node) : ∀ (l : List Node), (putR n l).length ≤ l.length + 1
  | [] => by simp [putR]
  | y :: l => by
    rw [putR]
    split
    · simp
    · split
      · simp
      · have := putR_len n l
        simp; omega
theorem fits64_le {n : Nat} (h : n ≤ 8388608) : fits n 64 = true := by
  simp only [fits, roomMax]; exact decide_eq_true (by omega)
/-- behind the place the rest is copied -/
theorem copy143 (N : Nat) (n : Node) (hn : n.size + 1 < N ∧ n.size ≤ 1048576) : ∀ (l : List Node) (M i : Nat) (out : List Node), l.length < M → out.length + l.length ≤ 5000000 → foldN (F143_s1 N n) (F143_f1 n) M l i (out, true) = some (out ++ l)
  | [], M, i, out, hM, _ => by
    obtain ⟨K, rfl⟩ : ∃ K, M = K + 1 := ⟨M - 1, by simp at hM; omega⟩
    simp [foldN, F143_f1, iteO_true]
  | x :: l, M, i, out, hM, ho => by
    obtain ⟨K, rfl⟩ : ∃ K, M = K + 1 := ⟨M - 1, by simp at hM; omega⟩
    simp only [List.length_cons] at hM ho
    have hf : fits (out.length + 1) 64 = true := fits64_le (by omega)
    have ih := copy143 N n hn l K (i + 1) (out ++ [x]) (by omega) (by simp; omega)
    simp only [foldN, F143_s1, cmp19 N n x hn.1 hn.2, hf, bindO_some, iteO_true]
    cases cmpR n x == 0 <;> exact ih.trans (by simp)
theorem fold143 (N : Nat) (n : Node) (hn : n.size + 1 < N ∧ n.size ≤ 1048576) : ∀ (l : List Node) (M i : Nat) (out : List Node), SrtN l → l.length < M → out.length + l.length ≤ 4194304 → foldN (F143_s1 N n) (F143_f1 n) M l i (out, false) = some (out ++ putR n l)
  | [], M, i, out, _, hM, ho => by
    obtain ⟨K, rfl⟩ : ∃ K, M = K + 1 := ⟨M - 1, by simp at hM; omega⟩
    have hf : fits (out.length + 1) 64 = true := fits64_le (by simp at ho; omega)
    simp [foldN, F143_f1, hf, putR, iteO_true, iteO_false]
  | x :: l, M, i, out, hs, hM, ho => by
    obtain ⟨K, rfl⟩ : ∃ K, M = K + 1 := ⟨M - 1, by simp at hM; omega⟩
    simp only [List.length_cons] at hM ho
    have hf : fits (out.length + 1) 64 = true := fits64_le (by omega)
    have hf2 : fits (out.length + 1 + 1) 64 = true := fits64_le (by omega)
    simp only [foldN, F143_s1, cmp19 N n x hn.1 hn.2, hf, hf2, bindO_some, iteO_true, iteO_false, putR]
    by_cases h0 : cmpR n x = 0
    · have e : (cmpR n x == 0) = true := beq_iff_eq.2 h0
      have ih := copy143 N n hn l K (i + 1) (out ++ [x]) (by omega) (by simp; omega)
      rw [e, iteO_true, if_pos h0]
      exact ih.trans (by simp)
    · have e : (cmpR n x == 0) = false := beq_eq_false_iff_ne.2 h0
      rw [e, iteO_false, if_neg h0]
      by_cases h1 : cmpR n x < 0
      · have ih := copy143 N n hn l K (i + 1) ((out ++ [n]) ++ [x]) (by omega) (by simp; omega)
        rw [decide_eq_true h1, iteO_true, if_pos h1]
        exact ih.trans (by simp)
      · have ih := fold143 N n hn l K (i + 1) (out ++ [x]) (List.pairwise_cons.1 hs).2 (by omega) (by simp; omega)
        rw [decide_eq_false h1, iteO_false, if_neg h1]
        exact ih.trans (by simp)
theorem put143 (N : Nat) (l : List Node) (n : Node) (hn : n.size + 1 < N ∧ n.size ≤ 1048576) (hs : SrtN l) (hM : l.length < N) (ho : l.length ≤ 4194304) : F143 N l n = some (putR n l) := by
  have := fold143 N n hn l N 0 [] hs hM (by simpa using ho)
  simpa [F143] using this
/-- all atoms of monomials put into a list -/
def putsR (l : List Node) (ms : List Mono) : List Node := ms.foldl (fun l m => putR m.monoAtom l) l
theorem putsR_srt : ∀ (ms : List Mono) (l : List Node), SrtN l → SrtN (putsR l ms)
  | [], _, h => h
  | m :: ms, l, h => putsR_srt ms _ (putR_srt _ l h)
theorem putsR_mem : ∀ (ms : List Mono) (l : List Node), ∀ x ∈ putsR l ms, x ∈ l ∨ ∃ m ∈ ms, x = m.monoAtom
  | [], _, x, h => .inl h
  | m :: ms, l, x, h => by
    rcases putsR_mem ms _ x h with h | ⟨k, hk, e⟩
    · rcases putR_mem _ _ x h with h | h
      · exact .inr ⟨m, by simp, h⟩
      · exact .inl h
    · exact .inr ⟨k, by simp [hk], e⟩
theorem putsR_old : ∀ (ms : List Mono) (l : List Node), ∀ x ∈ l, x ∈ putsR l ms
  | [], _, x, h => h
  | m :: ms, l, x, h => putsR_old ms _ x (putR_old _ _ x h)
theorem putsR_new : ∀ (ms : List Mono) (l : List Node), ∀ m ∈ ms, ∃ x ∈ putsR l ms, cmpR x m.monoAtom = 0
  | k :: ms, l, m, h => by
    rcases List.mem_cons.1 h with rfl | h
    · obtain ⟨x, h1, h2⟩ := putR_new m.monoAtom l
      exact ⟨x, putsR_old ms _ x h1, h2⟩
    · exact putsR_new ms _ m h
theorem putsR_len : ∀ (ms : List Mono) (l : List Node), (putsR l ms).length ≤ l.length + ms.length
  | [], l => by simp [putsR]
  | m :: ms, l => by
    have h1 := putsR_len ms (putR m.monoAtom l)
    have h2 := putR_len m.monoAtom l
    show (putsR (putR m.monoAtom l) ms).length ≤ _
    simp only [List.length_cons]; omega
theorem atoms131 (N : Nat) (hN : N = 4611686018427387904) (l : List Node) (f : Lin) (hg : Good f) (hs : SrtN l) (hl : l.length + f.linMonos.length ≤ 4194304) : F131 N l f = some (putsR l f.linMonos) := by
  have hgl := hg.1
  refine foldN_idx (step := F131_s1 N) (fin := F131_f1) (fun l _ m => putR m.monoAtom l) (fun i r l' => SrtN l' ∧ l'.length + r.length ≤ 4194304 ∧ (∀ m ∈ r, m ∈ f.linMonos) ∧ putsR l' r = putsR l f.linMonos) (fun r => r = some (putsR l f.linMonos)) ?_ ?_ f.linMonos N 0 l (by omega) ⟨hs, hl, fun _ h => h, rfl⟩
  · intro x xs i s ⟨h1, h2, h3, h4⟩
    have hx := hg.2 x (h3 x (by simp))
    simp only [List.length_cons] at h2
    refine ⟨?_, putR_srt _ _ h1, by have := putR_len x.monoAtom s; omega, fun m hm => h3 m (by simp [hm]), h4⟩
    simp only [F131_s1, put143 N s x.monoAtom ⟨by omega, hx⟩ h1 (by omega) (by omega), bindO_some]
  · intro i s ⟨_, _, _, h4⟩
    show some s = _
    rw [← h4]; rfl
theorem coef135 (N : Nat) (hN : N = 4611686018427387904) (f : Lin) (hg : Good f) (a : Node) : F135 N f a = some (coefL f.linMonos a) := by
  have key : ∀ (l : List Mono) (M i : Nat), l.length < M → (∀ m ∈ l, m ∈ f.linMonos) → foldN (F135_s1 N a) F135_f1 M l i () = some (coefL l a) := by
    intro l
    induction l with
    | nil =>
      intro M i hM _
      obtain ⟨K, rfl⟩ : ∃ K, M = K + 1 := ⟨M - 1, by simp at hM; omega⟩
      rfl
    | cons m l ih =>
      intro M i hM hm
      obtain ⟨K, rfl⟩ : ∃ K, M = K + 1 := ⟨M - 1, by simp at hM; omega⟩
      have hs := hg.2 m (hm m (by simp))
      have h1 := ih K (i + 1) (by simp at hM; omega) fun k hk => hm k (by simp [hk])
      simp only [foldN, F135_s1, F21, cmp19 N m.monoAtom a (by omega) hs, bindO_some, coefL]
      cases cmpR m.monoAtom a == 0 with
      | true => rfl
      | false => exact h1
  exact key f.linMonos N 0 (by have := hg.1; omega) fun _ h => h
end Go.Abs.Try
