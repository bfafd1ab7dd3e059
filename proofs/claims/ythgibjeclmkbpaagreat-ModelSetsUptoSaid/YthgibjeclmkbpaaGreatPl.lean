import Derived.Test.YthgibjeclmkbpaaGreatGen1
set_option linter.unusedSimpArgs false
set_option linter.unusedVariables false
namespace Go.Abs
section
variable {α β S : Type}
theorem foldN_zip {γ : Type} {step : Unit → Nat → α → Option (Sum Unit Bool)} {fin : Unit → Option Bool} (full : List γ) (q : α → γ → Bool) (hs : ∀ i x y, full[i]? = some y → step () i x = some (bif q x y then .inl () else .inr false)) (hf : fin () = some true) :
   ∀ (l : List α) (N i : Nat) (rest : List γ), full.drop i = rest → l.length = rest.length → l.length < N → foldN step fin N l i () = some ((l.zip rest).all fun p => q p.1 p.2)
 | [], N, i, rest, _, _, hN => by
   obtain ⟨M, rfl⟩ : ∃ M, N = M + 1 := ⟨N - 1, by simp at hN; omega⟩
   simp only [foldN, hf, List.zip_nil_left, List.all_nil]
 | x :: xs, N, i, rest, hd, hl, hN => by
   obtain ⟨M, rfl⟩ : ∃ M, N = M + 1 := ⟨N - 1, by simp at hN; omega⟩
   cases rest with
   | nil => simp at hl
   | cons y ys =>
     have hy : full[i]? = some y := by
       have := congrArg List.head? hd
       simpa [List.head?_drop] using this
     have ih := foldN_zip (fin := fin) full q hs hf xs M (i + 1) ys (by rw [← List.drop_drop, hd]; rfl) (by simpa using hl) (by simp at hN; omega)
     have h1 := hs i x y hy
     cases hq : q x y with
     | true => rw [hq] at h1; simp only [foldN, h1, cond_true, bindO_some, List.zip_cons_cons, List.all_cons, hq, Bool.true_and]; exact ih
     | false => rw [hq] at h1; simp only [foldN, h1, cond_false, bindO_some, List.zip_cons_cons, List.all_cons, hq, Bool.false_and]
theorem zip_all_eq [DecidableEq α] : ∀ (l l' : List α), l.length = l'.length → ((l.zip l').all fun p => p.1 == p.2) = (l == l')
 | [], [], _ => rfl
 | [], _ :: _, h => by simp at h
 | _ :: _, [], h => by simp at h
 | x :: xs, y :: ys, h => by
   have := zip_all_eq xs ys (by simpa using h)
   simp only [List.zip_cons_cons, List.all_cons, this]
   rfl
theorem iteO_some {b : Bool} {x y : Option α} (hx : ∃ v, x = some v) (hy : ∃ v, y = some v) : ∃ v, iteO b x y = some v := by
 cases b
 · exact hy
 · exact hx
theorem iteO_if {α : Type} (b : Bool) (x y : Option α) : iteO b x y = if b = true then x else y := by cases b <;> rfl
theorem atO_get {l : List α} {i : Nat} {x : α} (h : l[i]? = some x) : atO l (i : Int) = some x := by
 have hi := (List.getElem?_eq_some_iff.1 h).1
 simp only [atO, inB_lt hi, iteO_true, Int.toNat_natCast, h]
theorem atO_lit {l : List α} {k : Int} {i : Nat} {x : α} (hk : k = (i : Int)) (h : l[i]? = some x) : atO l k = some x := by subst hk; exact atO_get h
end
end Go.Abs
