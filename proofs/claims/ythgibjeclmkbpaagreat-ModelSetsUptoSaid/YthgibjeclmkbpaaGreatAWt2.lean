import Derived.Test.YthgibjeclmkbpaaGreatAWt1
import Derived.Test.YthgibjeclmkbpaaGreatAP9toAVal30
set_option linter.unusedSimpArgs false
set_option linter.unusedVariables false
namespace Go.Abs.Try
set_option maxRecDepth 100000
def placeB (a b : Entry) : Bool := (a.entryName.toList == b.entryName.toList) && ((a.entryVal.valSort == b.entryVal.valSort) && sameVs a.entryArgs b.entryArgs)
theorem place_of158 (N : Nat) (hN : 1048600 < N) (a b : Entry) (h1 : a.entryArgs.length ≤ 1048576) (h2 : ∀ x ∈ a.entryArgs, VSmall x) : F158 N a b = some (placeB a b) := by
 simp only [F158, sameArgs172 N (by omega) a.entryArgs b.entryArgs (by omega) h2, bindO_some, placeB]
 cases a.entryName.toList == b.entryName.toList <;> cases a.entryVal.valSort == b.entryVal.valSort <;> rfl
def keyE (e : Entry) : List UInt8 × Int × List Val := (e.entryName.toList, e.entryVal.valSort, e.entryArgs)
theorem placeB_iff {a b : Entry} : placeB a b = true ↔ keyE a = keyE b := by
 unfold placeB keyE
 rw [Bool.and_eq_true, Bool.and_eq_true, beq_iff_eq, beq_iff_eq, sameVs_iff, Prod.mk.injEq, Prod.mk.injEq]
theorem placeB_self (e : Entry) : placeB e e = true := placeB_iff.2 rfl
theorem inner_126 (N : Nat) (hN : 1048600 < N) (m : List Entry) (hm : MSmall m) (i : Nat) (hi : i ≤ m.length) (x : Entry) : ∀ (k M j : Nat), j + k = i → k < M →
   whileN (F126_s2 N i m x) M (j : Int) = some (bif ((m.drop j).take k).any (fun y => placeB y x) then .inr false else .inl ())
 | 0, M, j, hj, hM => by
   obtain ⟨K, rfl⟩ : ∃ K, M = K + 1 := ⟨M - 1, by omega⟩
   have : decide ((j : Int) < (i : Int)) = false := decide_eq_false (by omega)
   simp only [whileN, F126_s2, this, iteO_false, bindO_some, List.take_zero, List.any_nil, cond_false]
 | k + 1, M, j, hj, hM => by
   obtain ⟨K, rfl⟩ : ∃ K, M = K + 1 := ⟨M - 1, by omega⟩
   have hl := hm.len
   have : decide ((j : Int) < (i : Int)) = true := decide_eq_true (by omega)
   have hjl : j < m.length := by omega
   have e : m[j]? = some m[j] := List.getElem?_eq_getElem hjl
   obtain ⟨a1, a2, _⟩ := hm.args _ (List.getElem_mem hjl)
   have w : IntKind.i64.wrap ((j : Int) + 1) = ((j + 1 : Nat) : Int) := by rw [wrap_id (by omega)]; rfl
   have ih := inner_126 N hN m hm i hi x k K (j + 1) (by omega) (by omega)
   rw [List.drop_eq_getElem_cons hjl, List.take_succ_cons, List.any_cons]
   simp only [whileN, F126_s2, this, iteO_true, atO_get e, bindO_some, place_of158 N hN m[j] x a1 a2, w]
   cases placeB m[j] x with
   | true => rfl
   | false => exact ih
theorem foldN_go {α β : Type} {step : Unit → Nat → α → Option (Sum Unit β)} {fin : Unit → Option β} (full : List α) (hs : ∀ i x, full[i]? = some x → step () i x = some (.inl ())) :
   ∀ (l : List α) (N i : Nat), full.drop i = l → l.length < N → foldN step fin N l i () = fin ()
 | [], N, i, hd, hN => by
   obtain ⟨K, rfl⟩ : ∃ K, N = K + 1 := ⟨N - 1, by simp at hN; omega⟩
   rfl
 | x :: l, N, i, hd, hN => by
   obtain ⟨K, rfl⟩ : ∃ K, N = K + 1 := ⟨N - 1, by simp at hN; omega⟩
   obtain ⟨hx, hxs⟩ := drop_cons hd
   simp only [foldN, hs i x hx, bindO_some]
   exact foldN_go full hs l K (i + 1) hxs (by simp at hN; omega)
theorem step_126 (N : Nat) (hN : 2097200 < N) (m : List Entry) (hm : MSmall m) (i : Nat) (x : Entry) (hx : m[i]? = some x) :
   ∃ b, F157 N x = some b ∧ F126_s1 N m () i x = some (bif b && !(m.take i).any (fun y => placeB y x) then .inl () else .inr false) := by
 obtain ⟨a1, a2, a3⟩ := hm.args x (List.mem_of_getElem? hx)
 obtain ⟨b, s, _⟩ := entry157 N (by omega) x a1 a2 a3
 have hi := (List.getElem?_eq_some_iff.1 hx).1
 refine ⟨b, s, ?_⟩
 have hl := hm.len
 have := inner_126 N (by omega) m hm i (by omega) x i N 0 (by omega) (by omega)
 rw [List.drop_zero] at this
 simp only [F126_s1, s, bindO_some]
 cases b with
 | false => rfl
 | true =>
   rw [iteO_true, Bool.true_and]
   refine Eq.trans this ?_
   cases (m.take i).any (fun y => placeB y x) <;> rfl
theorem fits128 {n : Nat} (h : n ≤ 4194304) : fits n 128 = true := by
 simp only [fits, roomMax]; exact decide_eq_true (by omega)
theorem set_fold (N : Nat) (hN : 2097200 < N) (e : Entry) (fin : List Entry × Bool → Option (List Entry × Int)) : ∀ (l : List Entry) (M i : Nat) (out : List Entry) (d : Bool), l.length < M → out.length + l.length ≤ 4000000 → (∀ x ∈ l, x.entryArgs.length ≤ 1048576 ∧ ∀ a ∈ x.entryArgs, VSmall a) →
   foldN (F1222_s1 N e) fin M l i (out, d) = fin (out ++ l.map (fun x => bif placeB x e then e else x), d || l.any (fun x => placeB x e))
 | [], M, i, out, d, hM, _, _ => by
   obtain ⟨K, rfl⟩ : ∃ K, M = K + 1 := ⟨M - 1, by simp at hM; omega⟩
   simp [foldN]
 | x :: l, M, i, out, d, hM, ho, hx => by
   obtain ⟨K, rfl⟩ : ∃ K, M = K + 1 := ⟨M - 1, by simp at hM; omega⟩
   simp only [List.length_cons] at hM ho
   obtain ⟨h1, h2⟩ := hx x (by simp)
   have ih := fun y d => set_fold N hN e fin l K (i + 1) (out ++ [y]) d (by omega) (by simp; omega) fun z hz => hx z (by simp [hz])
   simp only [foldN, F1222_s1, place_of158 N (by omega) x e h1 h2, bindO_some, fits128 (show out.length + 1 ≤ 4194304 by omega), iteO_true, List.map_cons, List.any_cons]
   cases placeB x e with
   | true => exact (ih e true).trans (by simp)
   | false => exact (ih x d).trans (by simp)
end Go.Abs.Try
