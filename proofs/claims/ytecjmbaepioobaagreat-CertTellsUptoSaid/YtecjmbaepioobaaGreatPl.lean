import Derived.Test.YtecjmbaepioobaaGreatGen1
set_option linter.unusedSimpArgs false
set_option linter.unusedVariables false
namespace Go.Abs
section
variable {α β S : Type}
theorem foldN_inl {step : S → Nat → α → Option (Sum S β)} {fin : S → Option β} (g : S → α → S) (I : List α → S → Prop)
   (h : ∀ x xs i s, I (x :: xs) s → step s i x = some (.inl (g s x)) ∧ I xs (g s x)) : ∀ (l : List α) (N i : Nat) (s : S), l.length < N → I l s → foldN step fin N l i s = fin (l.foldl g s) ∧ I [] (l.foldl g s)
 | [], N, i, s, hN, hI => by
   obtain ⟨M, rfl⟩ : ∃ M, N = M + 1 := ⟨N - 1, by simp at hN; omega⟩
   exact ⟨rfl, hI⟩
 | x :: xs, N, i, s, hN, hI => by
   obtain ⟨M, rfl⟩ : ∃ M, N = M + 1 := ⟨N - 1, by simp at hN; omega⟩
   obtain ⟨h1, h2⟩ := h x xs i s hI
   have := foldN_inl (fin := fin) g I h xs M (i + 1) (g s x) (by simp at hN; omega) h2
   simp only [foldN, h1, bindO_some, List.foldl_cons]
   exact this
theorem foldO_inl {step : S → α → Option (Sum S β)} {fin : S → Option β} (g : S → α → S) (I : List α → S → Prop)
   (h : ∀ x xs s, I (x :: xs) s → step s x = some (.inl (g s x)) ∧ I xs (g s x)) : ∀ (l : List α) (s : S), I l s → foldO step fin l s = fin (l.foldl g s) ∧ I [] (l.foldl g s)
 | [], s, hI => ⟨rfl, hI⟩
 | x :: xs, s, hI => by
   obtain ⟨h1, h2⟩ := h x xs s hI
   simp only [foldO, h1, bindO_some, List.foldl_cons]
   exact foldO_inl g I h xs (g s x) h2
theorem foldN_all {step : Unit → Nat → α → Option (Sum Unit β)} {fin : Unit → Option β} (p : α → Bool) (r : β) : ∀ (l : List α) (N i : Nat), l.length < N → (∀ x ∈ l, ∀ i, step () i x = some (bif p x then .inl () else .inr r)) → foldN step fin N l i () = bif l.all p then fin () else some r
 | [], N, i, hN, _ => by
   obtain ⟨M, rfl⟩ : ∃ M, N = M + 1 := ⟨N - 1, by simp at hN; omega⟩
   rfl
 | x :: xs, N, i, hN, h => by
   obtain ⟨M, rfl⟩ : ∃ M, N = M + 1 := ⟨N - 1, by simp at hN; omega⟩
   have ih := foldN_all (fin := fin) p r xs M (i + 1) (by simp at hN; omega) fun y hy => h y (by simp [hy])
   have hx := h x (by simp) i
   cases hp : p x with
   | true => rw [hp] at hx; simp only [foldN, hx, cond_true, bindO_some, List.all_cons, hp, Bool.true_and]; exact ih
   | false => rw [hp] at hx; simp only [foldN, hx, cond_false, bindO_some, List.all_cons, hp, Bool.false_and]
theorem foldO_all {step : Unit → α → Option (Sum Unit β)} {fin : Unit → Option β} (p : α → Bool) (r : β) : ∀ (l : List α), (∀ x ∈ l, step () x = some (bif p x then .inl () else .inr r)) → foldO step fin l () = bif l.all p then fin () else some r
 | [], _ => rfl
 | x :: xs, h => by
   have ih := foldO_all (fin := fin) p r xs fun y hy => h y (by simp [hy])
   have hx := h x (by simp)
   cases hp : p x with
   | true => rw [hp] at hx; simp only [foldO, hx, cond_true, bindO_some, List.all_cons, hp, Bool.true_and]; exact ih
   | false => rw [hp] at hx; simp only [foldO, hx, cond_false, bindO_some, List.all_cons, hp, Bool.false_and]
theorem foldN_idx {step : S → Nat → α → Option (Sum S β)} {fin : S → Option β} (g : S → Nat → α → S) (I : Nat → List α → S → Prop) (Q : Option β → Prop)
   (h : ∀ x xs i s, I i (x :: xs) s → step s i x = some (.inl (g s i x)) ∧ I (i + 1) xs (g s i x)) (hf : ∀ i s, I i [] s → Q (fin s)) : ∀ (l : List α) (N i : Nat) (s : S), l.length < N → I i l s → Q (foldN step fin N l i s)
 | [], N, i, s, hN, hI => by
   obtain ⟨M, rfl⟩ : ∃ M, N = M + 1 := ⟨N - 1, by simp at hN; omega⟩
   exact hf i s hI
 | x :: xs, N, i, s, hN, hI => by
   obtain ⟨M, rfl⟩ : ∃ M, N = M + 1 := ⟨N - 1, by simp at hN; omega⟩
   obtain ⟨h1, h2⟩ := h x xs i s hI
   have := foldN_idx (fin := fin) g I Q h hf xs M (i + 1) (g s i x) (by simp at hN; omega) h2
   simp only [foldN, h1, bindO_some]
   exact this
theorem foldN_zip {γ : Type} {step : Unit → Nat → α → Option (Sum Unit Bool)} {fin : Unit → Option Bool} (full : List γ) (q : α → γ → Bool) (hs : ∀ i x y, full[i]? = some y → step () i x = some (bif q x y then .inl () else .inr false)) (hf : fin () = some true) :
   ∀ (l : List α) (N i : Nat) (rest : List γ), full.drop i = rest → l.length = rest.length → l.length < N → foldN step fin N l i () = some ((l.zip rest).all fun p => q p.1 p.2)
 | [], N, i, rest, _, _, hN => by
   obtain ⟨M, rfl⟩ : ∃ M, N = M + 1 := ⟨N - 1, by simp at hN; omega⟩
   simp only [foldN, hf, List.zip_nil_left, List.all_nil]
 | x :: xs, N, i, rest, hd, hl, hN => by
   obtain ⟨M, rfl⟩ : ∃ M, N = M + 1 := ⟨N - 1, by simp at hN; omega⟩
   cases rest with
   | nil => simp at hl
   | cons y ys =>
     have hy : full[i]? = some y := by
       have := congrArg List.head? hd
       simpa [List.head?_drop] using this
     have ih := foldN_zip (fin := fin) full q hs hf xs M (i + 1) ys (by rw [← List.drop_drop, hd]; rfl) (by simpa using hl) (by simp at hN; omega)
     have h1 := hs i x y hy
     cases hq : q x y with
     | true => rw [hq] at h1; simp only [foldN, h1, cond_true, bindO_some, List.zip_cons_cons, List.all_cons, hq, Bool.true_and]; exact ih
     | false => rw [hq] at h1; simp only [foldN, h1, cond_false, bindO_some, List.zip_cons_cons, List.all_cons, hq, Bool.false_and]
theorem zip_all_eq [DecidableEq α] : ∀ (l l' : List α), l.length = l'.length → ((l.zip l').all fun p => p.1 == p.2) = (l == l')
 | [], [], _ => rfl
 | [], _ :: _, h => by simp at h
 | _ :: _, [], h => by simp at h
 | x :: xs, y :: ys, h => by
   have := zip_all_eq xs ys (by simpa using h)
   simp only [List.zip_cons_cons, List.all_cons, this]
   rfl
theorem iteO_some {b : Bool} {x y : Option α} (hx : ∃ v, x = some v) (hy : ∃ v, y = some v) : ∃ v, iteO b x y = some v := by
 cases b
 · exact hy
 · exact hx
theorem iteO_if {α : Type} (b : Bool) (x y : Option α) : iteO b x y = if b = true then x else y := by cases b <;> rfl
theorem atO_get {l : List α} {i : Nat} {x : α} (h : l[i]? = some x) : atO l (i : Int) = some x := by
 have hi := (List.getElem?_eq_some_iff.1 h).1
 simp only [atO, inB_lt hi, iteO_true, Int.toNat_natCast, h]
theorem atO_lit {l : List α} {k : Int} {i : Nat} {x : α} (hk : k = (i : Int)) (h : l[i]? = some x) : atO l k = some x := by subst hk; exact atO_get h
end
end Go.Abs
