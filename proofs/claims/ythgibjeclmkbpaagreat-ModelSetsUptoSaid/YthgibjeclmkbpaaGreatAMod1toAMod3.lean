import Derived.Test.YthgibjeclmkbpaaGreatPl
import Derived.Test.YthgibjeclmkbpaaGreatAD
set_option linter.unusedSimpArgs false
set_option linter.unusedVariables false
namespace Go.Abs.Try
set_option maxRecDepth 100000
def fitsG (n : Int) : Bool := decide (n ≥ (-1152921504606846976)) && decide (n ≤ 1152921504606846976)
theorem fits181 (n : Int) : F181 n = some (fitsG n) := by
 simp only [F181, fitsG]
 cases decide (n ≥ (-1152921504606846976)) <;> rfl
theorem fitsG_iff {n : Int} : fitsG n = true ↔ -1152921504606846976 ≤ n ∧ n ≤ 1152921504606846976 := by
 simp only [fitsG, Bool.and_eq_true, decide_eq_true_eq, ge_iff_le]
theorem fits8 {n : Nat} (h : n ≤ 8388608) : fits n 8 = true := by
 simp only [fits, roomMax]; exact decide_eq_true (by omega)
theorem fits88 {n : Nat} (h : n ≤ 4194304) : fits n 88 = true := by
 simp only [fits, roomMax]; exact decide_eq_true (by omega)
theorem numbers189 (N : Nat) (a b : List Int) (h : a.length < N) : F189 N a b = some (a == b) := by
 cases hl : ((a.length : Int) == (b.length : Int)) with
 | false =>
   simp only [F189, hl, iteO_false]
   have : (a == b) = false := beq_eq_false_iff_ne.2 fun e => by rw [e] at hl; simp at hl
   rw [this]
 | true =>
   have hl' : a.length = b.length := by have := eq_of_beq hl; omega
   simp only [F189, hl, iteO_true]
   rw [foldN_zip (fin := F189_f1) b (fun x y => x == y) ?_ rfl a N 0 b rfl hl' h, zip_all_eq _ _ hl']
   intro i x y hy
   simp only [F189_s1, atO_get hy, bindO_some]
   cases (x == y) <;> rfl
def sameV (a b : Val) : Bool := (a.valSort == b.valSort) && ((a.valNum == b.valNum) && ((a.valSet == b.valSet) && ((a.valAt == b.valAt) && (a.valTo == b.valTo))))
theorem same183 (N : Nat) (a b : Val) (h : a.valSet.length < N ∧ a.valAt.length < N ∧ a.valTo.length < N) : F183 N a b = some (sameV a b) := by
 simp only [F183, sameV, numbers189 N a.valSet b.valSet h.1, numbers189 N a.valAt b.valAt h.2.1, numbers189 N a.valTo b.valTo h.2.2, bindO_some]
 cases a.valSort == b.valSort <;> cases a.valNum == b.valNum <;> cases a.valSet == b.valSet <;> cases a.valAt == b.valAt <;> rfl
def sameVs : List Val → List Val → Bool
 | [], [] => true
 | a :: l, b :: r => sameV a b && sameVs l r
 | _, _ => false
theorem sameVs_len : ∀ (l r : List Val), l.length ≠ r.length → sameVs l r = false
 | [], [], h => absurd rfl h
 | [], _ :: _, _ => rfl
 | _ :: _, [], _ => rfl
 | a :: l, b :: r, h => by rw [sameVs, sameVs_len l r (by simpa using h), Bool.and_false]
def VSmall (v : Val) : Prop := v.valSet.length ≤ 1048576 ∧ v.valAt.length ≤ 1048576 ∧ v.valTo.length ≤ 1048576
theorem sameArgs172 (N : Nat) (hN : 1048576 < N) (a b : List Val) (h : a.length < N) (hs : ∀ v ∈ a, VSmall v) : F172 N a b = some (sameVs a b) := by
 cases hl : ((a.length : Int) == (b.length : Int)) with
 | false =>
   simp only [F172, hl, iteO_false]
   rw [sameVs_len a b fun e => by rw [e] at hl; simp at hl]
 | true =>
   have hl' : a.length = b.length := by have := eq_of_beq hl; omega
   simp only [F172, hl, iteO_true]
   have key : ∀ (l : List Val) (M i : Nat), l.length < M → (∀ v ∈ l, v ∈ a) → i + l.length = b.length → foldN (F172_s1 N b) F172_f1 M l i () = some (sameVs l (b.drop i)) := by
     intro l
     induction l with
     | nil =>
       intro M i hM _ hi
       obtain ⟨K, rfl⟩ : ∃ K, M = K + 1 := ⟨M - 1, by simp at hM; omega⟩
       have : b.drop i = [] := List.drop_eq_nil_iff.2 (by simp at hi; omega)
       rw [this]; rfl
     | cons v l ih =>
       intro M i hM hv hi
       obtain ⟨K, rfl⟩ : ∃ K, M = K + 1 := ⟨M - 1, by simp at hM; omega⟩
       simp only [List.length_cons] at hM hi
       have hib : i < b.length := by omega
       have hvs := hs v (hv v (by simp))
       have h1 := ih K (i + 1) (by omega) (fun k hk => hv k (by simp [hk])) (by omega)
       rw [List.drop_eq_getElem_cons hib, sameVs]
       simp only [foldN, F172_s1, atO_get (List.getElem?_eq_getElem hib), bindO_some, same183 N v b[i] ⟨by have := hvs.1; omega, by have := hvs.2.1; omega, by have := hvs.2.2; omega⟩]
       cases sameV v b[i] with
       | false => rfl
       | true => exact h1
   exact key a N 0 h (fun _ h => h) (by omega)
def insL (n : Int) : List Int → List Int
 | [] => [n]
 | x :: l => if n < x then n :: x :: l else x :: insL n l
end Go.Abs.Try
namespace Go.Abs.Try
set_option maxRecDepth 100000
end Go.Abs.Try
namespace Go.Abs.Try
set_option maxRecDepth 100000
theorem bindO_iteO {α β : Type} (b : Bool) (x y : Option α) (f : α → Option β) : bindO (iteO b x y) f = iteO b (bindO x f) (bindO y f) := by cases b <;> rfl
def letterB (c : Int) : Bool := decide ((97 ≤ c ∧ c ≤ 122) ∨ (65 ≤ c ∧ c ≤ 90))
theorem letter73 (c : Int) : F73 c = some (letterB c) := by
 simp only [F73, letterB, iteO_if]
 repeat' split
 all_goals (simp only [decide_eq_true_eq, Option.some.injEq, decide_eq_decide, true_eq_decide_iff, false_eq_decide_iff, eq_comm (a := true), eq_comm (a := false), decide_eq_false_iff_not] at *; omega)
theorem letter75 (c : Int) : F75 c = some (letterB c) := letter73 c
theorem digit77 (c : Int) : F77 c = some (decide (48 ≤ c ∧ c ≤ 57)) := by
 simp only [F77, iteO_if]
 split
 all_goals (simp only [decide_eq_true_eq, Option.some.injEq, decide_eq_decide, eq_comm (a := false), decide_eq_false_iff_not] at *; omega)
def signB (c : Int) : Bool := letterB c || decide (48 ≤ c ∧ c ≤ 57) || (c == 46)
theorem sign16 (s : ByteArray) (i x : Nat) : F16_s1 s () i x = some (bif signB (bt s (i : Int)) then .inl () else .inr false) := by
 simp only [F16_s1, letter73, bindO_some, signB]
 generalize bt s (i : Int) = c
 cases hl : letterB c with
 | true => rfl
 | false =>
   simp only [iteO_false, Bool.false_or]
   have hd : decide (48 ≤ c ∧ c ≤ 57) = (!decide (c < 48) && !decide (c > 57)) := by
     rw [Bool.eq_iff_iff]
     simp only [decide_eq_true_eq, Bool.and_eq_true, Bool.not_eq_true', decide_eq_false_iff_not]
     omega
   rw [hd]
   cases decide (c < 48) <;> cases decide (c > 57) <;> cases c == 46 <;> rfl
theorem word76 (M : Nat) (s : ByteArray) : F76 (M + 14) s = F74 s := by
 have hc : ∀ a : List UInt8, (a == s.toList) = (s.toList == a) := fun a => by rw [Bool.eq_iff_iff, beq_iff_eq, beq_iff_eq]; exact eq_comm
 simp only [F76, F121, bindO_some, foldN, F76_s1, F76_f1, F74, bindO_iteO, hc]
theorem word_some (s : ByteArray) : ∃ b, F74 s = some b := by
 simp only [F74]
 repeat' refine iteO_some ⟨_, rfl⟩ ?_
 exact ⟨_, rfl⟩
def tailB (s : ByteArray) : Nat → Nat → Bool
 | 0, _ => true
 | m + 1, k => signB (bt s (k : Int)) && tailB s m (k + 1)
theorem tail17 (s : ByteArray) (hs : s.size ≤ 1000) : ∀ (m k N : Nat), k + m = s.size → m < N → whileN (F17_s1 s) N (k : Int) = some (tailB s m k)
 | 0, k, N, h, hN => by
   obtain ⟨M, rfl⟩ : ∃ M, N = M + 1 := ⟨N - 1, by omega⟩
   have hk : k = s.size := by omega
   subst hk
   simp only [whileN, F17_s1, lt_self, iteO_false, bindO_some, tailB]
 | m + 1, k, N, h, hN => by
   obtain ⟨M, rfl⟩ : ∃ M, N = M + 1 := ⟨N - 1, by omega⟩
   have hk : k < s.size := by omega
   have hw : IntKind.i64.wrap ((k : Int) + 1) = ((k + 1 : Nat) : Int) := by rw [wrap_id (by omega)]; omega
   have ih := tail17 s hs m (k + 1) M (by omega) (by omega)
   have e : F17_s1 s (k : Int) = some (bif signB (bt s (k : Int)) then .inl ((k + 1 : Nat) : Int) else .inr false) := by
     simp only [F17_s1, lt_true hk, inB_lt hk, iteO_true, letter75, digit77, bindO_some, hw, signB]
     generalize bt s (k : Int) = c
     cases hl : letterB c with
     | true => rfl
     | false =>
       simp only [iteO_false, Bool.false_or]
       cases decide (48 ≤ c ∧ c ≤ 57) <;> cases c == 46 <;> rfl
   simp only [whileN, e, bindO_some, tailB]
   cases signB (bt s (k : Int)) with
   | true => simpa using ih
   | false => rfl
theorem tail_all (s : ByteArray) : ∀ (m k : Nat), tailB s m k = (List.range' k m).all fun i => signB (bt s (i : Int))
 | 0, k => rfl
 | m + 1, k => by simp only [tailB, List.range'_succ, List.all_cons, tail_all s m (k + 1)]
theorem name_same (N : Nat) (s : ByteArray) (hN : 30 ≤ N) : ∃ b, F16 N s = some b ∧ F17 N s = some b := by
 by_cases h0 : s.size = 0
 · refine ⟨false, ?_, ?_⟩
   · simp only [F16, h0]; rfl
   · simp only [F17, h0]; rfl
 by_cases h1 : 24 < s.size
 · refine ⟨false, ?_, ?_⟩
   · have e1 : decide ((s.size : Int) < 1) = false := by simp only [decide_eq_false_iff_not]; omega
     have e2 : decide ((s.size : Int) > 24) = true := by simp only [decide_eq_true_eq]; omega
     simp only [F16, e1, e2, iteO_true, iteO_false]
   · have e1 : ((s.size : Int) == 0) = false := by simp only [beq_eq_false_iff_ne, ne_eq]; omega
     have e2 : decide ((s.size : Int) > 24) = true := by simp only [decide_eq_true_eq]; omega
     simp only [F17, e1, e2, iteO_true, iteO_false]
 have e1 : decide ((s.size : Int) < 1) = false := by simp only [decide_eq_false_iff_not]; omega
 have e1' : ((s.size : Int) == 0) = false := by simp only [beq_eq_false_iff_ne, ne_eq]; omega
 have e2 : decide ((s.size : Int) > 24) = false := by simp only [decide_eq_false_iff_not]; omega
 have e3 : inB 0 s.size = true := by simp only [inB, decide_eq_true_eq]; omega
 obtain ⟨w, hw⟩ := word_some s
 obtain ⟨M, rfl⟩ : ∃ M, N = M + 14 := ⟨N - 14, by omega⟩
 have hf : foldN (F16_s1 s) F16_f1 (M + 14) (List.range s.size) 0 () = some ((List.range s.size).all fun i => signB (bt s (i : Int))) := by
   have key : ∀ (l : List Nat) (N i : Nat), l = List.range' i l.length → l.length < N → foldN (F16_s1 s) F16_f1 N l i () = some (l.all fun i => signB (bt s (i : Int))) := by
     intro l
     induction l with
     | nil =>
       intro N i _ hN
       obtain ⟨K, rfl⟩ : ∃ K, N = K + 1 := ⟨N - 1, by simp at hN; omega⟩
       rfl
     | cons x xs ih =>
       intro N i hl hN
       obtain ⟨K, rfl⟩ : ∃ K, N = K + 1 := ⟨N - 1, by simp at hN; omega⟩
       simp only [List.length_cons, List.range'_succ, List.cons.injEq] at hl
       obtain ⟨rfl, hl⟩ := hl
       have := ih K (x + 1) hl (by simp at hN; omega)
       simp only [foldN, sign16, bindO_some, List.all_cons]
       cases signB (bt s (x : Int)) with
       | true => simpa using this
       | false => rfl
   exact key _ _ 0 (by rw [List.length_range, List.range_eq_range']) (by simp; omega)
 have ht := tail17 s (by omega) (s.size - 1) 1 (M + 14) (by omega) (by omega)
 have hr : (List.range s.size).all (fun i => signB (bt s (i : Int))) = (signB (bt s 0) && tailB s (s.size - 1) 1) := by
   rw [tail_all, List.range_eq_range']
   obtain ⟨m, hm⟩ : ∃ m, s.size = m + 1 := ⟨s.size - 1, by omega⟩
   rw [hm, List.range'_succ, List.all_cons]
   rfl
 simp only [F16, F17, e1, e1', e2, e3, iteO_true, iteO_false, letter73, letter75, bindO_some, word76, hw, hf]
 cases hl : letterB (bt s 0) with
 | false => exact ⟨false, rfl, rfl⟩
 | true =>
   cases w with
   | true => exact ⟨false, rfl, rfl⟩
   | false =>
     simp only [iteO_true, iteO_false]
     refine ⟨_, rfl, ?_⟩
     have ht' : whileN (F17_s1 s) (M + 14) 1 = some (tailB s (s.size - 1) 1) := ht
     rw [ht', hr]
     simp only [signB, hl, Bool.true_or, Bool.true_and]
end Go.Abs.Try
namespace Go.Abs.Try
set_option maxRecDepth 100000
end Go.Abs.Try
namespace Go.Abs.Try
set_option maxRecDepth 100000
def m2 {α β : Type} (f : α → α → β) (d : β) : List α → β
 | [a, b] => f a b
 | _ => d
theorem two {α : Type} (l : List α) : (∃ a b, l = [a, b]) ∨ (((l.length : Int) == 2) = false ∧ ∀ (β : Type) (f : α → α → β) (d : β), m2 f d l = d) := by
 match l with
 | [] => exact .inr ⟨rfl, fun _ _ _ => rfl⟩
 | [_] => exact .inr ⟨rfl, fun _ _ _ => rfl⟩
 | [a, b] => exact .inl ⟨a, b, rfl⟩
 | _ :: _ :: _ :: r => exact .inr ⟨beq_eq_false_iff_ne.2 (by simp only [List.length_cons]; omega), fun _ _ _ => rfl⟩
theorem drop_cons {α : Type} {l : List α} {i : Nat} {x : α} {xs : List α} (h : l.drop i = x :: xs) : l[i]? = some x ∧ l.drop (i + 1) = xs := by
 constructor
 · have := congrArg List.head? h
   simpa [List.head?_drop] using this
 · rw [← List.drop_drop, h]; rfl
end Go.Abs.Try
namespace Go.Abs.Try
set_option maxRecDepth 100000
end Go.Abs.Try
namespace Go.Abs.Try
set_option maxRecDepth 100000
def ahead (a b : Decl) : Prop := a.declName.toList < b.declName.toList ∨ (a.declName.toList = b.declName.toList ∧ a.declSort < b.declSort)
end Go.Abs.Try
namespace Go.Abs.Try
set_option maxRecDepth 100000
def mark : Int := -4611686018427387904
end Go.Abs.Try
namespace Go.Abs.Try
set_option maxRecDepth 100000
end Go.Abs.Try
namespace Go.Abs.Try
set_option maxRecDepth 100000
def VOk (v : Val) : Prop := (-1152921504606846976 ≤ v.valNum ∧ v.valNum ≤ 1152921504606846976) ∧ v.valSet.length ≤ 200 ∧ v.valAt.length ≤ 200 ∧ v.valTo.length = v.valAt.length
end Go.Abs.Try
namespace Go.Abs.Try
set_option maxRecDepth 100000
end Go.Abs.Try
