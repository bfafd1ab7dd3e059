import Derived.Test.YtjjajifecniidaaPl
import Derived.Test.YtjjajifecniidaaSD
namespace Go.Abs.Try
set_option linter.unusedSimpArgs false
set_option linter.unusedVariables false
set_option maxRecDepth 100000

/-! ### awake -/
theorem awake3 (M : Nat) : F12 (M + 10) = some true := by kernel_rfl
/-! ### Size, Levels -/
theorem size27 : ∀ (N : Nat) (n : Node), N ≤ 4611686018427387904 → n.size < N → F27 N n = some (n.size : Int)
  | 0, n, _, h => absurd h (Nat.not_lt_zero _)
  | N + 1, n, hN, h => by
    show foldN (F27_s1 (F27 N)) F27_f1 N n.kids 0 1 = _
    have hk : ∀ k ∈ n.kids, F27 N k = some (k.size : Int) := fun k hk => size27 N k (by omega) (by have := kids_size hk; omega)
    have hl := kids_len n
    have hs := n.size_eq
    have := foldN_inl (step := F27_s1 (F27 N)) (fin := F27_f1) (fun (s : Int) (k : Node) => s + (k.size : Int)) (fun l s => (∀ k ∈ l, k ∈ n.kids) ∧ s + ((l.map Node.size).sum : Nat) = (n.size : Int) ∧ 0 ≤ s)
      (fun x xs i s ⟨h1, h2, h3⟩ => by
        have hx := hk x (h1 x (by simp))
        simp only [List.map_cons, List.sum_cons] at h2
        have hw : IntKind.i64.wrap (s + (x.size : Int)) = s + (x.size : Int) := wrap_id (by omega)
        refine ⟨by simp only [F27_s1, hx, bindO_some, hw], fun k hk => h1 k (by simp [hk]), by omega, by omega⟩) n.kids N 0 1 (by omega) ⟨fun _ h => h, by omega, by omega⟩
    rw [this.1]
    have h2 := this.2.2.1
    simp only [List.map_nil, List.sum_nil] at h2
    show some _ = _
    congr 1
    omega
/-! ### small -/
theorem small13 (N : Nat) (m : Int) (l : List Node) (hm : 0 ≤ m ∧ m ≤ 1000000) (hN : N ≤ 4611686018427387904) (h : (l.map Node.size).sum < N) (hb : (l.map Node.size).sum ≤ 4000000) (hl : l.length < N) : F13 N m l = some (decide (((l.map Node.size).sum : Int) ≤ m)) := by
  have := foldN_inl (step := F13_s1 N) (fin := F13_f1) (fun (s : Int) (k : Node) => s - (k.size : Int)) (fun l2 s => (∀ k ∈ l2, k.size < N) ∧ s = m - ((l.map Node.size).sum : Int) + ((l2.map Node.size).sum : Nat) ∧ ((l2.map Node.size).sum : Nat) ≤ (l.map Node.size).sum)
    (fun x xs i s ⟨h1, h2, h3⟩ => by
      have hx := size27 N x hN (h1 x (by simp))
      simp only [List.map_cons, List.sum_cons] at h2 h3
      have hw : IntKind.i64.wrap (s - (x.size : Int)) = s - (x.size : Int) := wrap_id (by omega)
      exact ⟨by simp only [F13_s1, hx, bindO_some, hw], fun k hk => h1 k (by simp [hk]), by omega, by omega⟩) l N 0 m hl ⟨fun k hk => by have := mem_size hk; omega, by omega, by omega⟩
  simp only [F13]
  rw [this.1]
  have h2 := this.2.2.1
  simp only [List.map_nil, List.sum_nil] at h2
  simp only [F13_f1]
  congr 1
  simp only [decide_eq_decide]
  omega
end Go.Abs.Try
