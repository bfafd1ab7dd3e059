import Derived.Test.YthgibjeclmkbpaaGreatAMod1toAMod3
set_option linter.unusedSimpArgs false
set_option linter.unusedVariables false
namespace Go.Abs.Try
set_option maxRecDepth 100000
def asc (l : List Int) : Prop := l.Pairwise (· < ·)
theorem asc_ext : ∀ {l r : List Int}, asc l → asc r → (∀ x, x ∈ l ↔ x ∈ r) → l = r
 | [], [], _, _, _ => rfl
 | [], y :: r, _, _, h => absurd ((h y).2 (by simp)) (by simp)
 | x :: l, [], _, _, h => absurd ((h x).1 (by simp)) (by simp)
 | x :: l, y :: r, hl, hr, h => by
   obtain ⟨h1, h2⟩ := List.pairwise_cons.1 hl
   obtain ⟨h3, h4⟩ := List.pairwise_cons.1 hr
   have hx := (h x).1 (by simp)
   have hy := (h y).2 (by simp)
   have e : x = y := by
     rcases List.mem_cons.1 hx with e | hx
     · exact e
     · rcases List.mem_cons.1 hy with e | hy
       · exact e.symm
       · have := h3 x hx; have := h1 y hy; omega
   subst e
   rw [asc_ext h2 h4 fun z => ?_]
   constructor
   · intro hz
     have := h1 z hz
     rcases List.mem_cons.1 ((h z).1 (by simp [hz])) with e | h
     · omega
     · exact h
   · intro hz
     have := h3 z hz
     rcases List.mem_cons.1 ((h z).2 (by simp [hz])) with e | h
     · omega
     · exact h
structure SetV (v : Val) : Prop where
 num : v.valNum = 0
 at0 : v.valAt = []
 to0 : v.valTo = []
 ord : asc v.valSet
theorem sameV_iff {a b : Val} : sameV a b = true ↔ a = b := by
 unfold sameV
 rw [Bool.and_eq_true, Bool.and_eq_true, Bool.and_eq_true, Bool.and_eq_true, beq_iff_eq, beq_iff_eq, beq_iff_eq, beq_iff_eq, beq_iff_eq]
 constructor
 · rintro ⟨h1, h2, h3, h4, h5⟩
   cases a; cases b
   simp only at h1 h2 h3 h4 h5
   subst h1; subst h2; subst h3; subst h4; subst h5; rfl
 · rintro rfl; exact ⟨rfl, rfl, rfl, rfl, rfl⟩
theorem sameVs_iff : ∀ {a b : List Val}, sameVs a b = true ↔ a = b
 | [], [] => by simp [sameVs]
 | [], _ :: _ => by simp [sameVs]
 | _ :: _, [] => by simp [sameVs]
 | x :: a, y :: b => by rw [sameVs, Bool.and_eq_true, sameV_iff, sameVs_iff, List.cons.injEq]
theorem set_same {v u : Val} (hv : SetV v) (hu : SetV u) (hs : v.valSort = u.valSort) (h : ∀ i, i ∈ v.valSet ↔ i ∈ u.valSet) : v = u := by
 have e := asc_ext hv.ord hu.ord h
 obtain ⟨a1, a2, a3, _⟩ := hv
 obtain ⟨b1, b2, b3, _⟩ := hu
 cases v; cases u
 simp only at hs e a1 a2 a3 b1 b2 b3
 subst hs; subst e; subst a1; subst a2; subst a3; subst b1; subst b2; subst b3; rfl
end Go.Abs.Try
