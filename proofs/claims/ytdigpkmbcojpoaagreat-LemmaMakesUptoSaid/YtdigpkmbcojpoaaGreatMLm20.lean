import Derived.Test.YtdigpkmbcojpoaaGreatMP11toMLm19
set_option linter.unusedSimpArgs false
set_option linter.unusedVariables false
namespace Go.Abs.Try
set_option maxRecDepth 100000
section
open Classical
variable (N : Nat) (hN : 4611686018400000000 ≤ N ∧ N ≤ 4611686018427387904)
include hN
theorem make14 (kind : Int) (p : List Node) (hp : ∀ x ∈ p, x.size ≤ 300) (hl : p.length ≤ 8) :
   ∃ r, F1214 N kind p = some r ∧ F1215 N kind p = some r ∧ r.1.length ≤ 8 ∧ ∀ x ∈ r.1, x.size ≤ 200000 ∧ ∃ k, F1216 N x = some k ∧ (k == 0) = false := by
 have no : ∀ r : List Node × Int, r = ([], 3) → r.1.length ≤ 8 ∧ ∀ x ∈ r.1, x.size ≤ 200000 ∧ ∃ k, F1216 N x = some k ∧ (k == 0) = false := fun r h => by rw [h]; simp
 cases hg : p.all (fun y => okP N y && !hol y) with
 | false =>
   have h14 : F1214 N kind p = some ([], 3) := by
     unfold F1214
     rw [parts14 N hN _ p N 0 (by omega) hp, hg]; rfl
   have tot : ∃ l ok, F1227 N kind p = some (l, ok) := by
     cases h1 : kind == 1 with
     | true =>
       obtain ⟨l, ok, _, h, _⟩ := made1 N hN p hp hl
       rw [beq_iff_eq.1 h1]; exact ⟨l, ok, h⟩
     | false =>
       cases ha : p.all (okP N) with
       | true => obtain ⟨l, ok, _, h, _⟩ := made28 N hN p hp hl ha kind h1; exact ⟨l, ok, h⟩
       | false => exact ⟨_, _, made_bad N hN p hp hl ha kind h1⟩
   obtain ⟨l, ok, h27⟩ := tot
   have h15 : F1215 N kind p = some ([], 3) := by
     unfold F1215
     rw [h27, bindO_some]
     cases ok with
     | false => rfl
     | true => rw [iteO_true, parts15 N hN _ p N 0 (by omega) hp, hg]; rfl
   exact ⟨_, h14, h15, no _ rfl⟩
 | true =>
   have ha : p.all (okP N) = true := by
     rw [List.all_eq_true] at hg ⊢
     intro x hx
     have := hg x hx
     rw [Bool.and_eq_true] at this
     exact this.1
   have hh : hp0 p := fun x hx => by
     have := List.all_eq_true.1 hg x hx
     rw [Bool.and_eq_true] at this
     cases h : hol x with
     | false => rfl
     | true => rw [h] at this; cases this.2
   have tot : ∃ l ok, F1225 N kind p = some (l, ok) ∧ F1227 N kind p = some (l, ok) ∧ l.length ≤ 8 ∧ ∀ x ∈ l, told N x := by
     cases h1 : kind == 1 with
     | true =>
       obtain ⟨l, ok, e1, e2, h3, h4⟩ := made1 N hN p hp hl
       rw [beq_iff_eq.1 h1]
       exact ⟨l, ok, e1, e2, h3, fun x hx => told1 N hN x (h4 x hx).1 ((h4 x hx).2.2 hh) (h4 x hx).2.1⟩
     | false =>
       obtain ⟨l, ok, e1, e2, h3, h4⟩ := made28 N hN p hp hl ha kind h1
       exact ⟨l, ok, e1, e2, h3, fun x hx => told2 N hN x (h4 x hx).2.1 ((h4 x hx).2.2 hh) (h4 x hx).1⟩
   obtain ⟨l, ok, e1, e2, h3, h4⟩ := tot
   have h14 : F1214 N kind p = bif ok then foldN (S := List Node) (F1214_s2 N) (F1214_f2) N l 0 ([]) else some ([], 3) := by
     unfold F1214
     rw [parts14 N hN _ p N 0 (by omega) hp, hg]
     show F1214_f1 N kind p () = _
     unfold F1214_f1
     rw [e1, bindO_some]
     cases ok <;> rfl
   have h15 : F1215 N kind p = bif ok then foldN (S := List Node) (F1215_s2 N) (F1215_f2) N l 0 ([]) else some ([], 3) := by
     unfold F1215
     rw [e2, bindO_some]
     cases ok with
     | false => rfl
     | true => rw [iteO_true, parts15 N hN _ p N 0 (by omega) hp, hg]; rfl
   cases ok with
   | false => exact ⟨_, h14, h15, no _ rfl⟩
   | true =>
     obtain ⟨f1, f2⟩ := made_fold N hN l N 0 [] (by omega) (fun x hx => ⟨(h4 x hx).1, (h4 x hx).2.1⟩) (by simp; omega)
     rw [cond_true, f1] at h14
     rw [cond_true, f2] at h15
     refine ⟨_, h14, h15, ?_⟩
     by_cases hb : l.all (okF N) = true
     · rw [if_pos hb]
       exact ⟨h3, fun x hx => ⟨(h4 x hx).1, (h4 x hx).2.2 (List.all_eq_true.1 hb x hx)⟩⟩
     · rw [if_neg hb]; exact no _ rfl
theorem last_fold (r : List Node × Int) : ∀ (ks : List Node) (M i : Nat), ks.length < M → r.1.drop i = ks → (∀ x ∈ r.1, x.size ≤ 200000 ∧ ∃ k, F1216 N x = some k ∧ (k == 0) = false) →
   foldN (F1209_s2 N r) F1209_f2 M ks i () = some true
 | _, 0, _, h, _, _ => absurd h (Nat.not_lt_zero _)
 | [], _ + 1, _, _, _, _ => rfl
 | x :: xs, M + 1, i, h, hd, hx => by
   simp only [List.length_cons] at h
   have hi : i < r.1.length := by
     by_cases hi : i < r.1.length
     · exact hi
     · rw [List.drop_eq_nil_of_le (by omega)] at hd; cases hd
   rw [List.drop_eq_getElem_cons hi] at hd
   have hd1 := (List.cons.inj hd).1
   have hd2 := (List.cons.inj hd).2
   obtain ⟨hz, k, hk, h0⟩ := hx r.1[i] (List.getElem_mem hi)
   show bindO (F1209_s2 N r () i x) _ = _
   unfold F1209_s2
   rw [atO_get (List.getElem?_eq_getElem hi), bindO_some, ← hd1, eq21 N _ _ (by omega) (by omega), decide_eq_true rfl, bindO_some, iteO_true, hk, bindO_some, h0]
   exact last_fold r xs M (i + 1) (by omega) hd2 hx
theorem size_fold (fin : Int → Option Bool) : ∀ (ks : List Node) (M i s : Nat), ks.length < M → s + (ks.map Node.size).sum ≤ 1048576 →
   foldN (F1209_s1 N) fin M ks i (s : Int) = fin ((s + (ks.map Node.size).sum : Nat) : Int)
 | _, 0, _, _, h, _ => absurd h (Nat.not_lt_zero _)
 | [], _ + 1, _, s, _, _ => rfl
 | x :: xs, M + 1, i, s, h, hx => by
   simp only [List.length_cons] at h
   rw [List.map_cons, List.sum_cons] at hx ⊢
   show bindO (F1209_s1 N (s : Int) i x) _ = _
   unfold F1209_s1
   rw [size27 N x (by omega) (by omega), bindO_some, wrap_id (by omega)]
   have := size_fold fin xs M (i + 1) (s + x.size) (by omega) (by omega)
   rw [← Nat.add_assoc]
   exact this
end
theorem awake1213m (M : Nat) : F1213 (M + 30) = some true := by kernel_rfl
theorem lawLm (kind : Int) (p : List Node) (hl : p.length ≤ 1048576) (hb : (p.map Node.size).sum ≤ 1048576) : F1209 4611686018427387904 kind p = some true := by
 obtain ⟨N, hNe⟩ : ∃ N : Nat, N = 4611686018427387904 := ⟨_, rfl⟩
 have ha : F1213 N = some true := by rw [hNe]; exact awake1213m 4611686018427387874
 have hN : 4611686018400000000 ≤ N ∧ N ≤ 4611686018427387904 := by omega
 rw [← hNe]
 unfold F1209
 rw [ha, bindO_some, iteO_true]
 refine Eq.trans (size_fold N hN (F1209_f1 N kind p) p N 0 0 (by omega) (by omega)) ?_
 rw [Nat.zero_add]
 unfold F1209_f1
 by_cases h8 : p.length ≤ 8
 · rw [decide_eq_false (by omega : ¬ (p.length : Int) > 8), iteO_false]
   by_cases h3 : (p.map Node.size).sum ≤ 300
   · rw [decide_eq_false (by omega : ¬ ((p.map Node.size).sum : Int) > 300), iteO_false]
     obtain ⟨r, e1, e2, h4, h5⟩ := make14 N hN kind p (fun x hx => by have := mem_le_sum p x hx; omega) h8
     rw [e1, e2, bindO_some, bindO_some, beq_self_eq_true, beq_self_eq_true, iteO_true, iteO_true]
     exact last_fold N hN r r.1 N 0 (by omega) List.drop_zero h5
   · rw [decide_eq_true (by omega : ((p.map Node.size).sum : Int) > 300)]; rfl
 · rw [decide_eq_true (by omega : (p.length : Int) > 8)]; rfl
end Go.Abs.Try
