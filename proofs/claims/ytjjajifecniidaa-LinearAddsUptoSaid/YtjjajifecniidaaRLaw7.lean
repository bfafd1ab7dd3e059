import Derived.Test.YtjjajifecniidaaSum2
namespace Go.Abs.Try
set_option linter.unusedSimpArgs false
set_option linter.unusedVariables false
set_option maxRecDepth 100000
/-! ### Valid forms -/
theorem validL_facts : ∀ (l : List Mono) (p : Option Node), validL p l = true → Srt l ∧ (∀ q, p = some q → ∀ m ∈ l, cmpR q m.monoAtom < 0) ∧ ∀ m ∈ l, fitsC m.monoCoef = true ∧ m.monoCoef ≠ 0 ∧ atomB m.monoAtom = true
  | [], _, _ => ⟨by simp [Srt], by simp, by simp⟩
  | x :: xs, p, h => by
    simp only [validL, Bool.and_eq_true, Bool.not_eq_true', beq_eq_false_iff_ne] at h
    obtain ⟨h0, h1, h2, h3, h4⟩ := h
    obtain ⟨i1, i2, i3⟩ := validL_facts xs _ h4
    refine ⟨List.pairwise_cons.2 ⟨i2 _ rfl, i1⟩, ?_, ?_⟩
    · rintro q rfl m hm
      have hq : cmpR q x.monoAtom < 0 := by
        simp only [prevB, Bool.not_eq_true', decide_eq_false_iff_not] at h3; omega
      rcases List.mem_cons.1 hm with rfl | hm
      · exact hq
      · exact cmp_lt1 hq (by have := i2 _ rfl m hm; omega)
    · intro m hm
      rcases List.mem_cons.1 hm with rfl | hm
      · exact ⟨h1, h0, h2⟩
      · exact i3 m hm
structure VForm (f : Lin) : Prop where
  good : Good f
  srt : Srt f.linMonos
  all : ∀ m ∈ f.linMonos, fitsC m.monoCoef = true ∧ m.monoCoef ≠ 0 ∧ atomB m.monoAtom = true
  con : F53 f.linConst
theorem vform {f : Lin} (hg : Good f) (h : validB f = true) : VForm f := by
  simp only [validB, Bool.and_eq_true] at h
  obtain ⟨h1, _, h3⟩ := validL_facts _ none h.1
  exact ⟨hg, h1, h3, fitsC_F53 h.2⟩
/-! ### Equal forms -/
theorem equal35 (N : Nat) (hN : N = 4611686018427387904) (l r : List Mono) (c : Int) (h : eqM l r) (hl : l.length ≤ 4194304) (hs : ∀ m ∈ l, m.monoAtom.size ≤ 1048576) : F35 N ⟨l, c⟩ ⟨r, c⟩ = some true := by
  have hlen : ∀ (l r : List Mono), eqM l r → l.length = r.length := by
    intro l
    induction l with
    | nil => intro r h; cases r with
      | nil => rfl
      | cons => exact h.elim
    | cons m l ih => intro r h; cases r with
      | nil => exact h.elim
      | cons k r => simp [ih r h.2.2]
  have hget : ∀ (l r : List Mono), eqM l r → ∀ (i : Nat) (x y : Mono), l[i]? = some x → r[i]? = some y → x.monoCoef = y.monoCoef ∧ cmpR x.monoAtom y.monoAtom = 0 := by
    intro l
    induction l with
    | nil => intro r _ i x y hx; simp at hx
    | cons m l ih =>
      intro r h i x y hx hy
      cases r with
      | nil => exact h.elim
      | cons k r =>
        cases i with
        | zero => simp at hx hy; subst hx; subst hy; exact ⟨h.1, h.2.1⟩
        | succ i => exact ih r h.2.2 i x y (by simpa using hx) (by simpa using hy)
  have e1 : ((l.length : Int) == (r.length : Int)) = true := beq_iff_eq.2 (by rw [hlen l r h])
  simp only [F35, beq_self_eq_true, e1, iteO_true]
  refine foldN_idx (step := F35_s1 N ⟨r, c⟩) (fin := F35_f1) (fun s _ _ => s) (fun i k _ => l.drop i = k) (fun r => r = some true) ?_ (fun _ _ _ => rfl) l N 0 () (by omega) rfl
  intro x xs i s h1
  obtain ⟨hx, hxs⟩ := drop_cons h1
  obtain ⟨hi, hx'⟩ := List.getElem?_eq_some_iff.1 hx
  have hm : x ∈ l := hx' ▸ List.getElem_mem hi
  have hri : i < r.length := by rw [← hlen l r h]; exact hi
  have hy : r[i]? = some r[i] := List.getElem?_eq_getElem hri
  obtain ⟨g1, g2⟩ := hget l r h i x _ hx hy
  refine ⟨?_, hxs⟩
  have e3 : (x.monoCoef == r[i].monoCoef) = true := beq_iff_eq.2 g1
  have hsz := hs x hm
  have e4 : (cmpR x.monoAtom r[i].monoAtom == 0) = true := beq_iff_eq.2 g2
  simp only [F35_s1, atO_get hy, bindO_some, e3, iteO_true, F21, cmp19 N x.monoAtom r[i].monoAtom (by omega) hsz, e4]
/-! ### Light forms -/
theorem light32 (N : Nat) (hN : N = 4611686018427387904) : ∀ (fs : List Lin) (M i : Nat) (s : Int), fs.length < M → (∀ f ∈ fs, Good f) → ∃ b, foldN (F32_s1 N) F32_f1 M fs i s = some b
  | [], M, i, s, hM, _ => by
    obtain ⟨K, rfl⟩ : ∃ K, M = K + 1 := ⟨M - 1, by simp at hM; omega⟩
    exact ⟨_, rfl⟩
  | f :: fs, M, i, s, hM, hg => by
    obtain ⟨K, rfl⟩ : ∃ K, M = K + 1 := ⟨M - 1, by simp at hM; omega⟩
    have hf := hg f (by simp)
    have hl := hf.1
    have h1 : F32_s1 N s i f = bif f.linMonos.all (fun m => !decide ((m.monoAtom.size : Int) > 200)) then F32_f2 s f () else some (.inr false) := by
      unfold F32_s1
      exact foldN_all (step := F32_s2 N) (fin := F32_f2 s f) (fun m => !decide ((m.monoAtom.size : Int) > 200)) (.inr false) f.linMonos N 0 (by omega) fun x hx i => by
        have hs := hf.2 x hx
        simp only [F32_s2, size27 N x.monoAtom (by omega) (by omega), bindO_some]
        cases decide ((x.monoAtom.size : Int) > 200) <;> rfl
    simp only [foldN, h1]
    cases f.linMonos.all (fun m => !decide ((m.monoAtom.size : Int) > 200)) with
    | true => exact light32 N hN fs K (i + 1) _ (by simp at hM; omega) fun k hk => hg k (by simp [hk])
    | false => exact ⟨_, rfl⟩
/-! ### Add -/
theorem fitsW0 : fitsW 0 = true := by decide
theorem allW_coef {l r : List Mono} (sl : Srt l) (sr : Srt r) (h : ∀ a, coefL l a = coefL r a) : allW l = allW r := by
  rw [Bool.eq_iff_iff, allW, allW, all_coef fitsW0 sl, all_coef fitsW0 sr]
  exact ⟨fun g a => by rw [← h]; exact g a, fun g a => by rw [h]; exact g a⟩
theorem fitsC_W (x : Int) : fitsC x = fitsW x := rfl
theorem add_same (N : Nat) (hN : N = 4611686018427387904) (a b : Lin) (p q : Int) (ga : Good a) (gb : Good b) (hab : a.linMonos.length + b.linMonos.length ≤ 1048576) (hp : I64 p) (hq : I64 q) :
    ∃ f g e, F33 N a b p q = some (f, e) ∧ F34 N a b p q = some (g, e) ∧ F35 N f g = some true := by
  have z : F35 N (⟨[], 0⟩ : Lin) (⟨[], 0⟩ : Lin) = some true := equal35 N hN [] [] 0 trivial (by simp) (by simp)
  simp only [F33, F34, valid64 N a hN ga, valid64 N b hN gb, valid89 N a hN ga, valid89 N b hN gb, bindO_some]
  cases va : validB a with
  | false => exact ⟨_, _, _, rfl, rfl, z⟩
  | true =>
    cases vb : validB b with
    | false => exact ⟨_, _, _, rfl, rfl, z⟩
    | true =>
      have A := vform ga va
      have B := vform gb vb
      obtain ⟨r, h1, h2, h3⟩ := merge88 N a b p q hp hq hN ga gb (fun m hm => (A.all m hm).1) (fun m hm => (B.all m hm).1) A.con B.con
      have hF : Forms [a, b] [p, q] := ⟨rfl, by simp, fun f hf => by simp at hf; rcases hf with rfl | rfl <;> assumption,
        fun f hf m hm => by simp at hf; rcases hf with rfl | rfl; exact (A.all m hm).1; exact (B.all m hm).1,
        fun f hf => by simp at hf; rcases hf with rfl | rfl; exact A.con; exact B.con, fun x hx => by simp at hx; rcases hx with rfl | rfl <;> assumption, by simp; omega⟩
      obtain ⟨s, h4, h5, h6⟩ := sum90 N hN hF
      have sm := mrg_srt p q a.linMonos b.linMonos A.srt B.srt
      have ss := sums_srt [a, b] [p, q]
      have hc : ∀ x, coefL (mrg p q a.linMonos b.linMonos) x = coefL (sums [a, b] [p, q]) x := fun x => by
        rw [mrg_coef p q x _ _ A.srt B.srt, sums_coef]; simp [dot, atC]
      have hd : dot Lin.linConst [a, b] [p, q] = p * a.linConst + q * b.linConst := by simp [dot]
      have hok : r.2 = s.2 := by rw [h2, h5, allW_coef sm ss hc, hd]
      simp only [h1, h4, bindO_some, iteO_true]
      cases hr : r.2 with
      | false =>
        rw [hr] at hok
        rw [← hok]
        exact ⟨_, _, _, rfl, rfl, z⟩
      | true =>
        rw [hr] at hok
        rw [← hok]
        have e1 := h3 hr
        have e2 := h6 hok.symm
        have hmem : ∀ m ∈ nz (mrg p q a.linMonos b.linMonos), ∃ k, (k ∈ a.linMonos ∨ k ∈ b.linMonos) ∧ m.monoAtom = k.monoAtom := fun m hm => mrg_mem p q _ _ m (List.mem_filter.1 hm).1
        have hat : ∀ m ∈ nz (mrg p q a.linMonos b.linMonos), m.monoAtom.size ≤ 1048576 ∧ atomB m.monoAtom = true := fun m hm => by
          obtain ⟨k, hk, e⟩ := hmem m hm
          rw [e]
          rcases hk with hk | hk
          · exact ⟨ga.2 k hk, (A.all k hk).2.2⟩
          · exact ⟨gb.2 k hk, (B.all k hk).2.2⟩
        have hlen : (nz (mrg p q a.linMonos b.linMonos)).length ≤ 1048576 := by
          have h7 : ∀ us bs : List Mono, (mrg p q us bs).length ≤ us.length + bs.length := by
            intro us bs
            induction us, bs using mrg.induct with
            | case1 bs => rw [mrg]; simp
            | case2 a us => rw [mrg]; simp
            | case3 a us b bs h ih => rw [mrg, if_pos h]; simp only [List.length_cons] at ih ⊢; omega
            | case4 a us b bs h h2 ih => rw [mrg, if_neg h, if_pos h2]; simp only [List.length_cons] at ih ⊢; omega
            | case5 a us b bs h h2 ih => rw [mrg, if_neg h, if_neg h2]; simp only [List.length_cons] at ih ⊢; omega
          have h8 := h7 a.linMonos b.linMonos
          have h9 : (nz (mrg p q a.linMonos b.linMonos)).length ≤ (mrg p q a.linMonos b.linMonos).length := List.length_filter_le _ _
          omega
        have hg : Good r.1 := by rw [e1]; exact ⟨hlen, fun m hm => (hat m hm).1⟩
        have h86 := copied86 N r.1 hN hg (by rw [e1]; exact fun m hm => (hat m hm).2)
        simp only [iteO_true, h86, bindO_some]
        refine ⟨_, _, _, rfl, rfl, ?_⟩
        rw [e1, e2, hd]
        exact equal35 N hN _ _ _ (sums_eq sm ss hc) (by omega) fun m hm => (hat m hm).1
theorem awake26 (M : Nat) : F26 (M + 30) = some true := by kernel_rfl
def big : Nat := 4611686018427387904
theorem law7 (a b : Lin) (p q : Int) (ga : Good a) (gb : Good b) (hab : a.linMonos.length + b.linMonos.length ≤ 1048576) (hp : I64 p) (hq : I64 q) : F7 big a b p q = some true := by
  have hN : big = 4611686018427387904 := rfl
  have ha : F26 big = some true := awake26 4611686018427387874
  obtain ⟨l, hl⟩ := light32 big hN [a, b] big 0 0 (by rw [hN]; simp) (fun f hf => by simp at hf; rcases hf with rfl | rfl <;> assumption)
  have hl : F32 big [a, b] = some l := hl
  obtain ⟨f, g, e, h1, h2, h3⟩ := add_same big hN a b p q ga gb hab hp hq
  simp only [F7, ha, hl, bindO_some, iteO_true]
  cases l with
  | false => rfl
  | true => simp only [iteO_true, h1, h2, bindO_some, beq_self_eq_true, h3]
end Go.Abs.Try
