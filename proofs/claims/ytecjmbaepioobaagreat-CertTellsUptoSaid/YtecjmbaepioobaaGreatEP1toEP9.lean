import Derived.Test.YtecjmbaepioobaaGreatPl
import Derived.Test.YtecjmbaepioobaaGreatED
set_option linter.unusedSimpArgs false
set_option linter.unusedVariables false
namespace Go.Abs.Try
set_option maxRecDepth 100000
theorem size27 : ∀ (N : Nat) (n : Node), N ≤ 4611686018427387904 → n.size < N → F27 N n = some (n.size : Int)
 | 0, n, _, h => absurd h (Nat.not_lt_zero _)
 | N + 1, n, hN, h => by
   show foldN (F27_s1 (F27 N)) F27_f1 N n.kids 0 1 = _
   have hk : ∀ k ∈ n.kids, F27 N k = some (k.size : Int) := fun k hk => size27 N k (by omega) (by have := kids_size hk; omega)
   have hl := kids_len n
   have hs := n.size_eq
   have := foldN_inl (step := F27_s1 (F27 N)) (fin := F27_f1) (fun (s : Int) (k : Node) => s + (k.size : Int)) (fun l s => (∀ k ∈ l, k ∈ n.kids) ∧ s + ((l.map Node.size).sum : Nat) = (n.size : Int) ∧ 0 ≤ s)
     (fun x xs i s ⟨h1, h2, h3⟩ => by
       have hx := hk x (h1 x (by simp))
       simp only [List.map_cons, List.sum_cons] at h2
       have hw : IntKind.i64.wrap (s + (x.size : Int)) = s + (x.size : Int) := wrap_id (by omega)
       refine ⟨by simp only [F27_s1, hx, bindO_some, hw], fun k hk => h1 k (by simp [hk]), by omega, by omega⟩) n.kids N 0 1 (by omega) ⟨fun _ h => h, by omega, by omega⟩
   rw [this.1]
   have h2 := this.2.2.1
   simp only [List.map_nil, List.sum_nil] at h2
   show some _ = _
   congr 1
   omega
theorem walk_ok (n : Node) (h : n.size < 4611686018427387904) : walkO n = some (nodes n) := by
 simp only [walkO, decide_eq_true h, iteO_true]
theorem size37 (n : Node) (h : n.size < 4611686018427387904) : F37 n = some (n.size : Int) := by
 simp only [F37, walk_ok n h, bindO_some]
 have := foldO_inl (step := F37_s1) (fin := F37_f1) (fun (s : Int) (_ : Node) => s + 1) (fun l s => s + (l.length : Int) = (n.size : Int) ∧ 0 ≤ s)
   (fun x xs s ⟨h1, h2⟩ => by
     simp only [List.length_cons] at h1
     have hw : IntKind.i64.wrap (s + 1) = s + 1 := wrap_id (by omega)
     exact ⟨by simp only [F37_s1, hw], by omega, by omega⟩) (nodes n) 0 ⟨by rw [nodes_len]; omega, by omega⟩
 rw [this.1]
 have h2 := this.2.1
 simp only [List.length_nil] at h2
 show some _ = _
 congr 1
 omega
theorem levels_same : ∀ (N : Nat) (n : Node), F38 N n = F39 N n
 | 0, n => rfl
 | N + 1, n => by
   have : F38 N = F39 N := funext fun k => levels_same N k
   show foldN (F38_s1 (F38 N)) F38_f1 N n.kids 0 0 = foldN (F39_s1 (F39 N)) F39_f1 N n.kids 0 0
   rw [this]; rfl
theorem levels39 : ∀ (N : Nat) (n : Node), N ≤ 4611686018427387904 → n.size < N → ∃ k : Int, F39 N n = some k ∧ 0 ≤ k ∧ k ≤ n.size
 | 0, n, _, h => absurd h (Nat.not_lt_zero _)
 | N + 1, n, hN, h => by
   show ∃ k, foldN (F39_s1 (F39 N)) F39_f1 N n.kids 0 0 = some k ∧ _
   have hk : ∀ k ∈ n.kids, ∃ j : Int, F39 N k = some j ∧ 0 ≤ j ∧ j ≤ k.size := fun k hk => levels39 N k (by omega) (by have := kids_size hk; omega)
   have hl := kids_len n
   have := foldN_inl (step := F39_s1 (F39 N)) (fin := F39_f1) (fun (s : Int) (k : Node) => max s ((F39 N k).getD 0)) (fun l s => (∀ k ∈ l, k ∈ n.kids) ∧ 0 ≤ s ∧ s < n.size)
     (fun x xs i s ⟨h1, h2, h3⟩ => by
       obtain ⟨j, hj, hj0, hj1⟩ := hk x (h1 x (by simp))
       have := kids_size (h1 x (by simp))
       refine ⟨by simp only [F39_s1, hj, bindO_some, Option.getD_some], fun k hk => h1 k (by simp [hk]), ?_, ?_⟩
       · simp only [hj, Option.getD_some]; omega
       · simp only [hj, Option.getD_some]; omega) n.kids N 0 0 (by omega) ⟨fun _ h => h, by omega, by have := size_pos n; omega⟩
   refine ⟨_, this.1, ?_⟩
   have h2 := this.2.2
   rw [wrap_id (by omega)]
   omega
end Go.Abs.Try
namespace Go.Abs.Try
set_option maxRecDepth 100000
theorem bindO_iteO {α β : Type} (b : Bool) (x y : Option α) (f : α → Option β) : bindO (iteO b x y) f = iteO b (bindO x f) (bindO y f) := by cases b <;> rfl
def letterB (c : Int) : Bool := decide ((97 ≤ c ∧ c ≤ 122) ∨ (65 ≤ c ∧ c ≤ 90))
theorem letter73 (c : Int) : F73 c = some (letterB c) := by
 simp only [F73, letterB, iteO_if]
 repeat' split
 all_goals (simp only [decide_eq_true_eq, Option.some.injEq, decide_eq_decide, true_eq_decide_iff, false_eq_decide_iff, eq_comm (a := true), eq_comm (a := false), decide_eq_false_iff_not] at *; omega)
theorem letter75 (c : Int) : F75 c = some (letterB c) := letter73 c
theorem digit77 (c : Int) : F77 c = some (decide (48 ≤ c ∧ c ≤ 57)) := by
 simp only [F77, iteO_if]
 split
 all_goals (simp only [decide_eq_true_eq, Option.some.injEq, decide_eq_decide, eq_comm (a := false), decide_eq_false_iff_not] at *; omega)
def signB (c : Int) : Bool := letterB c || decide (48 ≤ c ∧ c ≤ 57) || (c == 46)
theorem sign16 (s : ByteArray) (i x : Nat) : F16_s1 s () i x = some (bif signB (bt s (i : Int)) then .inl () else .inr false) := by
 simp only [F16_s1, letter73, bindO_some, signB]
 generalize bt s (i : Int) = c
 cases hl : letterB c with
 | true => rfl
 | false =>
   simp only [iteO_false, Bool.false_or]
   have hd : decide (48 ≤ c ∧ c ≤ 57) = (!decide (c < 48) && !decide (c > 57)) := by
     rw [Bool.eq_iff_iff]
     simp only [decide_eq_true_eq, Bool.and_eq_true, Bool.not_eq_true', decide_eq_false_iff_not]
     omega
   rw [hd]
   cases decide (c < 48) <;> cases decide (c > 57) <;> cases c == 46 <;> rfl
theorem word76 (M : Nat) (s : ByteArray) : F76 (M + 14) s = F74 s := by
 have hc : ∀ a : List UInt8, (a == s.toList) = (s.toList == a) := fun a => by rw [Bool.eq_iff_iff, beq_iff_eq, beq_iff_eq]; exact eq_comm
 simp only [F76, F121, bindO_some, foldN, F76_s1, F76_f1, F74, bindO_iteO, hc]
theorem word_some (s : ByteArray) : ∃ b, F74 s = some b := by
 simp only [F74]
 repeat' refine iteO_some ⟨_, rfl⟩ ?_
 exact ⟨_, rfl⟩
def tailB (s : ByteArray) : Nat → Nat → Bool
 | 0, _ => true
 | m + 1, k => signB (bt s (k : Int)) && tailB s m (k + 1)
theorem tail17 (s : ByteArray) (hs : s.size ≤ 1000) : ∀ (m k N : Nat), k + m = s.size → m < N → whileN (F17_s1 s) N (k : Int) = some (tailB s m k)
 | 0, k, N, h, hN => by
   obtain ⟨M, rfl⟩ : ∃ M, N = M + 1 := ⟨N - 1, by omega⟩
   have hk : k = s.size := by omega
   subst hk
   simp only [whileN, F17_s1, lt_self, iteO_false, bindO_some, tailB]
 | m + 1, k, N, h, hN => by
   obtain ⟨M, rfl⟩ : ∃ M, N = M + 1 := ⟨N - 1, by omega⟩
   have hk : k < s.size := by omega
   have hw : IntKind.i64.wrap ((k : Int) + 1) = ((k + 1 : Nat) : Int) := by rw [wrap_id (by omega)]; omega
   have ih := tail17 s hs m (k + 1) M (by omega) (by omega)
   have e : F17_s1 s (k : Int) = some (bif signB (bt s (k : Int)) then .inl ((k + 1 : Nat) : Int) else .inr false) := by
     simp only [F17_s1, lt_true hk, inB_lt hk, iteO_true, letter75, digit77, bindO_some, hw, signB]
     generalize bt s (k : Int) = c
     cases hl : letterB c with
     | true => rfl
     | false =>
       simp only [iteO_false, Bool.false_or]
       cases decide (48 ≤ c ∧ c ≤ 57) <;> cases c == 46 <;> rfl
   simp only [whileN, e, bindO_some, tailB]
   cases signB (bt s (k : Int)) with
   | true => simpa using ih
   | false => rfl
theorem tail_all (s : ByteArray) : ∀ (m k : Nat), tailB s m k = (List.range' k m).all fun i => signB (bt s (i : Int))
 | 0, k => rfl
 | m + 1, k => by simp only [tailB, List.range'_succ, List.all_cons, tail_all s m (k + 1)]
theorem name_same (N : Nat) (s : ByteArray) (hN : 30 ≤ N) : ∃ b, F16 N s = some b ∧ F17 N s = some b := by
 by_cases h0 : s.size = 0
 · refine ⟨false, ?_, ?_⟩
   · simp only [F16, h0]; rfl
   · simp only [F17, h0]; rfl
 by_cases h1 : 24 < s.size
 · refine ⟨false, ?_, ?_⟩
   · have e1 : decide ((s.size : Int) < 1) = false := by simp only [decide_eq_false_iff_not]; omega
     have e2 : decide ((s.size : Int) > 24) = true := by simp only [decide_eq_true_eq]; omega
     simp only [F16, e1, e2, iteO_true, iteO_false]
   · have e1 : ((s.size : Int) == 0) = false := by simp only [beq_eq_false_iff_ne, ne_eq]; omega
     have e2 : decide ((s.size : Int) > 24) = true := by simp only [decide_eq_true_eq]; omega
     simp only [F17, e1, e2, iteO_true, iteO_false]
 have e1 : decide ((s.size : Int) < 1) = false := by simp only [decide_eq_false_iff_not]; omega
 have e1' : ((s.size : Int) == 0) = false := by simp only [beq_eq_false_iff_ne, ne_eq]; omega
 have e2 : decide ((s.size : Int) > 24) = false := by simp only [decide_eq_false_iff_not]; omega
 have e3 : inB 0 s.size = true := by simp only [inB, decide_eq_true_eq]; omega
 obtain ⟨w, hw⟩ := word_some s
 obtain ⟨M, rfl⟩ : ∃ M, N = M + 14 := ⟨N - 14, by omega⟩
 have hf : foldN (F16_s1 s) F16_f1 (M + 14) (List.range s.size) 0 () = some ((List.range s.size).all fun i => signB (bt s (i : Int))) := by
   have key : ∀ (l : List Nat) (N i : Nat), l = List.range' i l.length → l.length < N → foldN (F16_s1 s) F16_f1 N l i () = some (l.all fun i => signB (bt s (i : Int))) := by
     intro l
     induction l with
     | nil =>
       intro N i _ hN
       obtain ⟨K, rfl⟩ : ∃ K, N = K + 1 := ⟨N - 1, by simp at hN; omega⟩
       rfl
     | cons x xs ih =>
       intro N i hl hN
       obtain ⟨K, rfl⟩ : ∃ K, N = K + 1 := ⟨N - 1, by simp at hN; omega⟩
       simp only [List.length_cons, List.range'_succ, List.cons.injEq] at hl
       obtain ⟨rfl, hl⟩ := hl
       have := ih K (x + 1) hl (by simp at hN; omega)
       simp only [foldN, sign16, bindO_some, List.all_cons]
       cases signB (bt s (x : Int)) with
       | true => simpa using this
       | false => rfl
   exact key _ _ 0 (by rw [List.length_range, List.range_eq_range']) (by simp; omega)
 have ht := tail17 s (by omega) (s.size - 1) 1 (M + 14) (by omega) (by omega)
 have hr : (List.range s.size).all (fun i => signB (bt s (i : Int))) = (signB (bt s 0) && tailB s (s.size - 1) 1) := by
   rw [tail_all, List.range_eq_range']
   obtain ⟨m, hm⟩ : ∃ m, s.size = m + 1 := ⟨s.size - 1, by omega⟩
   rw [hm, List.range'_succ, List.all_cons]
   rfl
 simp only [F16, F17, e1, e1', e2, e3, iteO_true, iteO_false, letter73, letter75, bindO_some, word76, hw, hf]
 cases hl : letterB (bt s 0) with
 | false => exact ⟨false, rfl, rfl⟩
 | true =>
   cases w with
   | true => exact ⟨false, rfl, rfl⟩
   | false =>
     simp only [iteO_true, iteO_false]
     refine ⟨_, rfl, ?_⟩
     have ht' : whileN (F17_s1 s) (M + 14) 1 = some (tailB s (s.size - 1) 1) := ht
     rw [ht', hr]
     simp only [signB, hl, Bool.true_or, Bool.true_and]
end Go.Abs.Try
namespace Go.Abs.Try
set_option maxRecDepth 100000
theorem ba_loop (s : ByteArray) : ∀ (m i : Nat) (r : List UInt8), s.size - i = m → (ByteArray.toList.loop s i r).length = r.length + m
 | 0, i, r, h => by
   rw [ByteArray.toList.loop.eq_1, if_neg (by omega)]; simp
 | m + 1, i, r, h => by
   rw [ByteArray.toList.loop.eq_1, if_pos (by omega), ba_loop s m (i + 1) _ (by omega)]
   simp only [List.length_cons]; omega
theorem ba_len (s : ByteArray) : s.toList.length = s.size := by
 rw [ByteArray.toList, ba_loop s s.size 0 [] (by omega)]; simp
theorem name_empty (N : Nat) (s : ByteArray) (h : (s.toList == (⟨#[]⟩ : ByteArray).toList) = true) : F16 N s = some false := by
 have h0 : s.size = 0 := by
   have h1 := eq_of_beq h
   have h2 := congrArg List.length h1
   simpa [ba_len] using h2
 simp only [F16, h0]; rfl
theorem own_same (N : Nat) (n : Node) (hN : 30 ≤ N) : F116 N n = F118 N n := by
 obtain ⟨b, h16, h17⟩ := name_same N n.name hN
 cases h1 : n.op == 1 with
 | true => simp only [F116, F118, h1, h16, h17, iteO_true, bindO_some]
 | false =>
   cases h3 : n.op == 3 with
   | true =>
     simp only [F116, F118, h1, h3, h16, h17, iteO_true, iteO_false, bindO_some, Bool.true_beq]
   | false =>
     simp only [F116, F118, h1, h3, h16, h17, iteO_true, iteO_false, bindO_some, Bool.false_beq]
     cases b with
     | false => simp only [Bool.not_false, iteO_true]
     | true =>
       cases he : n.name.toList == (⟨#[]⟩ : ByteArray).toList with
       | true => rw [name_empty N n.name he] at h16; cases h16
       | false => rfl
theorem own_some (N : Nat) (n : Node) (hN : 30 ≤ N) : ∃ b, F118 N n = some b := by
 obtain ⟨b, _, h17⟩ := name_same N n.name hN
 simp only [F118, h17, bindO_some]
 repeat' (first | exact ⟨_, rfl⟩ | refine iteO_some ?_ ?_)
def ownB (N : Nat) (n : Node) : Bool := (F118 N n).getD false
theorem own118 (N : Nat) (n : Node) (hN : 30 ≤ N) : F118 N n = some (ownB N n) := by
 obtain ⟨b, hb⟩ := own_some N n hN
 simp only [ownB, hb, Option.getD_some]
def sortC (op s : Int) : Int :=
 if op = 1 then s else if op = 3 then s else if op = 2 then 1 else if op = 4 then 1 else if op = 5 then 1 else if op = 6 then 1 else if op = 7 then 1 else if op = 14 then 1 else if op = 16 then 1 else
 if op = 9 then 4 else if op = 10 then 4 else if op = 11 then 4 else if op = 12 then 4 else if op = 13 then 4 else if op = 15 then 5 else if op ≥ 30 then (if op ≤ 42 then 2 else 0) else 0
mutual
def sortS : Node → Int
  | ⟨op, s, _, _, ks⟩ => if op = 8 then sortL ks else sortC op s
def sortL : List Node → Int
  | [] => 0
  | _ :: ks => sortL1 ks
def sortL1 : List Node → Int
  | [] => 0
  | k :: _ => sortS k
end
theorem sortS_eq (n : Node) : sortS n = if n.op = 8 then sortL n.kids else sortC n.op n.sortf := by cases n; simp only [sortS]
theorem ite2 {α β : Type} {g : α → β} {c : Prop} [Decidable c] {a b : α} {x y : β} (h1 : y = g a) (h2 : x = g b) : (if c then y else x) = g (if c then a else b) := by
 split <;> assumption
theorem sort36_step (op s : Int) (r : ByteArray × Int × List Node) (h : (op == 8) = false) : F36_s1 (op, s, r) = some (.inr (sortC op s)) := by
 simp only [F36_s1, h, iteO_false, iteO_if, sortC, beq_iff_eq, decide_eq_true_eq, Bool.false_eq_true, if_false]
 repeat' (refine ite2 (g := fun z => some (Sum.inr z)) ?_ ?_)
 all_goals rfl
theorem sort28_step (self : Node → Option Int) (N : Nat) (n : Node) (h : (n.op == 8) = false) : F28b self N n = some (sortC n.op n.sortf) := by
 simp only [F28b, h, iteO_false, iteO_if, sortC, beq_iff_eq, decide_eq_true_eq, Bool.false_eq_true, if_false]
 repeat' (refine ite2 (g := some) ?_ ?_)
 all_goals rfl
theorem two_kids (l : List Node) : ((l.length : Int) < 2 ∧ sortL l = 0) ∨ ∃ a b r, l = a :: b :: r := by
 match l with
 | [] => exact .inl ⟨by simp, rfl⟩
 | [a] => exact .inl ⟨by simp, rfl⟩
 | a :: b :: r => exact .inr ⟨a, b, r, rfl⟩
theorem sort28 : ∀ (N : Nat) (n : Node), n.size < N → F28 N n = some (sortS n)
 | 0, n, h => absurd h (Nat.not_lt_zero _)
 | N + 1, n, h => by
   show F28b (F28 N) N n = _
   rw [sortS_eq]
   cases h8 : n.op == 8 with
   | false =>
     rw [sort28_step _ _ _ h8, if_neg (by simpa using h8)]
   | true =>
     have h8' : n.op = 8 := by simpa using h8
     rw [if_pos h8']
     rcases two_kids n.kids with ⟨h2, h3⟩ | ⟨a, b, r, hk⟩
     · have e : decide ((n.kids.length : Int) < 2) = true := by simpa using h2
       rw [h3]
       simp [F28b, h8', e, iteO]
     · have e : decide ((n.kids.length : Int) < 2) = false := by rw [hk]; simp; omega
       have hb : b ∈ n.kids := by rw [hk]; simp
       have ih := sort28 N b (by have := kids_size hb; omega)
       have ha : atO n.kids 1 = some b := atO_lit (i := 1) rfl (by rw [hk]; rfl)
       simp [F28b, h8', iteO, e, ha, ih, bindO]
       rw [hk]; rfl
theorem sort36 : ∀ (M : Nat) (n : Node) (N : Nat), n.size ≤ M → n.size < N → whileN F36_s1 N (n.op, n.sortf, n.name, n.num, n.kids) = some (sortS n)
 | 0, n, N, h, _ => absurd (size_pos n) (by omega)
 | M + 1, n, N, h, hN => by
   obtain ⟨K, rfl⟩ : ∃ K, N = K + 1 := ⟨N - 1, by omega⟩
   rw [sortS_eq]
   cases h8 : n.op == 8 with
   | false =>
     simp only [whileN, sort36_step _ _ _ h8, bindO_some]
     rw [if_neg (by simpa using h8)]
   | true =>
     have h8' : n.op = 8 := by simpa using h8
     rw [if_pos h8']
     rcases two_kids n.kids with ⟨h2, h3⟩ | ⟨a, b, r, hk⟩
     · have e : decide ((n.kids.length : Int) < 2) = true := by simpa using h2
       rw [h3]
       simp only [whileN, F36_s1, h8, e, iteO_true, bindO_some]
     · have e : decide ((n.kids.length : Int) < 2) = false := by rw [hk]; simp; omega
       have hb : b ∈ n.kids := by rw [hk]; simp
       have hs := kids_size hb
       have ih := sort36 M b K (by omega) (by omega)
       have ha : atO n.kids 1 = some b := atO_lit (i := 1) rfl (by rw [hk]; rfl)
       simp only [whileN, F36_s1, h8, e, ha, iteO_true, iteO_false, bindO_some]
       rw [ih, hk]; rfl
theorem sort36n (N : Nat) (n : Node) (h : n.size < N) : F36 N n = some (sortS n) := sort36 n.size n N (Nat.le_refl _) h
end Go.Abs.Try
namespace Go.Abs.Try
set_option maxRecDepth 100000
theorem takes_same (op : Int) : F153 op = F120 op := by
 by_cases h1 : op = 1
 · subst h1; rfl
 by_cases h2 : op = 2
 · subst h2; rfl
 by_cases h4 : op = 4
 · subst h4; rfl
 by_cases h5 : op = 5
 · subst h5; rfl
 by_cases h6 : op = 6
 · subst h6; rfl
 by_cases h7 : op = 7
 · subst h7; rfl
 by_cases h9 : op = 9
 · subst h9; rfl
 by_cases h10 : op = 10
 · subst h10; rfl
 by_cases h11 : op = 11
 · subst h11; rfl
 by_cases h12 : op = 12
 · subst h12; rfl
 by_cases h13 : op = 13
 · subst h13; rfl
 by_cases h14 : op = 14
 · subst h14; rfl
 by_cases h15 : op = 15
 · subst h15; rfl
 by_cases h16 : op = 16
 · subst h16; rfl
 by_cases h30 : op = 30
 · subst h30; rfl
 by_cases h31 : op = 31
 · subst h31; rfl
 by_cases h32 : op = 32
 · subst h32; rfl
 by_cases h33 : op = 33
 · subst h33; rfl
 by_cases h34 : op = 34
 · subst h34; rfl
 by_cases h35 : op = 35
 · subst h35; rfl
 by_cases h36 : op = 36
 · subst h36; rfl
 by_cases h38 : op = 38
 · subst h38; rfl
 by_cases h39 : op = 39
 · subst h39; rfl
 by_cases h40 : op = 40
 · subst h40; rfl
 by_cases h41 : op = 41
 · subst h41; rfl
 have e1 : (op == 1) = false := beq_eq_false_iff_ne.2 h1
 have e2 : (op == 2) = false := beq_eq_false_iff_ne.2 h2
 have e4 : (op == 4) = false := beq_eq_false_iff_ne.2 h4
 have e5 : (op == 5) = false := beq_eq_false_iff_ne.2 h5
 have e6 : (op == 6) = false := beq_eq_false_iff_ne.2 h6
 have e7 : (op == 7) = false := beq_eq_false_iff_ne.2 h7
 have e9 : (op == 9) = false := beq_eq_false_iff_ne.2 h9
 have e10 : (op == 10) = false := beq_eq_false_iff_ne.2 h10
 have e11 : (op == 11) = false := beq_eq_false_iff_ne.2 h11
 have e12 : (op == 12) = false := beq_eq_false_iff_ne.2 h12
 have e13 : (op == 13) = false := beq_eq_false_iff_ne.2 h13
 have e14 : (op == 14) = false := beq_eq_false_iff_ne.2 h14
 have e15 : (op == 15) = false := beq_eq_false_iff_ne.2 h15
 have e16 : (op == 16) = false := beq_eq_false_iff_ne.2 h16
 have e30 : (op == 30) = false := beq_eq_false_iff_ne.2 h30
 have e31 : (op == 31) = false := beq_eq_false_iff_ne.2 h31
 have e32 : (op == 32) = false := beq_eq_false_iff_ne.2 h32
 have e33 : (op == 33) = false := beq_eq_false_iff_ne.2 h33
 have e34 : (op == 34) = false := beq_eq_false_iff_ne.2 h34
 have e35 : (op == 35) = false := beq_eq_false_iff_ne.2 h35
 have e36 : (op == 36) = false := beq_eq_false_iff_ne.2 h36
 have e38 : (op == 38) = false := beq_eq_false_iff_ne.2 h38
 have e39 : (op == 39) = false := beq_eq_false_iff_ne.2 h39
 have e40 : (op == 40) = false := beq_eq_false_iff_ne.2 h40
 have e41 : (op == 41) = false := beq_eq_false_iff_ne.2 h41
 simp only [F153, F120, iteO_false, e1, e2, e4, e5, e6, e7, e9, e10, e11, e12, e13, e14, e15, e16, e30, e31, e32, e33, e34, e35, e36, e38, e39, e40, e41]
theorem takes_some (op : Int) : ∃ r, F153 op = some r := by
 simp only [F153]
 repeat' (first | exact ⟨_, rfl⟩ | refine iteO_some ?_ ?_)
theorem equal154 (N : Nat) (ss want : List Int) (h : ss.length < N) : F154 N ss want = some (ss == want) := by
 cases hl : ((ss.length : Int) == (want.length : Int)) with
 | false =>
   simp only [F154, hl, iteO_false]
   have : (ss == want) = false := beq_eq_false_iff_ne.2 fun e => by rw [e] at hl; simp at hl
   rw [this]
 | true =>
   have hl' : ss.length = want.length := by have := eq_of_beq hl; omega
   simp only [F154, hl, iteO_true]
   rw [foldN_zip (fin := F154_f1) want (fun a b => a == b) ?_ rfl ss N 0 want rfl hl' h, zip_all_eq _ _ hl']
   intro i x y hy
   simp only [F154_s1, atO_get hy, bindO_some]
   cases (x == y) <;> rfl
def m3 {α β : Type} (f : α → α → α → β) (d : β) : List α → β
 | [a, b, c] => f a b c
 | _ => d
def m2 {α β : Type} (f : α → α → β) (d : β) : List α → β
 | [a, b] => f a b
 | _ => d
def okB (x : Int) : Bool := bif x == 1 then true else decide (x ≥ 3)
def shapeT (op : Int) (ss : List Int) : Bool :=
 bif op == 8 then (m3 (fun a b c => (a == 2) && ((b == c) && okB b)) false ss) else
 bif op == 37 then (m2 (fun a b => (a == b) && okB a) false ss) else
 bif op == 3 then decide ((ss.length : Int) ≤ 8) else
 bif op == 42 then decide ((ss.length : Int) ≥ 1) && decide ((ss.length : Int) ≤ 40) else false
def shapeB (op : Int) (ss : List Int) : Bool :=
 bif ((F153 op).getD ([], false)).2 then ss == ((F153 op).getD ([], false)).1 else shapeT op ss
theorem three {α : Type} (l : List α) : (∃ a b c, l = [a, b, c]) ∨ (((l.length : Int) == 3) = false ∧ ∀ (β : Type) (f : α → α → α → β) (d : β), m3 f d l = d) := by
 match l with
 | [] => exact .inr ⟨rfl, fun _ _ _ => rfl⟩
 | [_] => exact .inr ⟨rfl, fun _ _ _ => rfl⟩
 | [_, _] => exact .inr ⟨rfl, fun _ _ _ => rfl⟩
 | [a, b, c] => exact .inl ⟨a, b, c, rfl⟩
 | _ :: _ :: _ :: _ :: r => exact .inr ⟨beq_eq_false_iff_ne.2 (by simp only [List.length_cons]; omega), fun _ _ _ => rfl⟩
theorem two {α : Type} (l : List α) : (∃ a b, l = [a, b]) ∨ (((l.length : Int) == 2) = false ∧ ∀ (β : Type) (f : α → α → β) (d : β), m2 f d l = d) := by
 match l with
 | [] => exact .inr ⟨rfl, fun _ _ _ => rfl⟩
 | [_] => exact .inr ⟨rfl, fun _ _ _ => rfl⟩
 | [a, b] => exact .inl ⟨a, b, rfl⟩
 | _ :: _ :: _ :: r => exact .inr ⟨beq_eq_false_iff_ne.2 (by simp only [List.length_cons]; omega), fun _ _ _ => rfl⟩
theorem tail117 (N : Nat) (n : Node) (ss : List Int) (h : ss.length < N) : F117_f1 N n ss = some (shapeB n.op ss) := by
 obtain ⟨⟨want, ok⟩, hr⟩ := takes_some n.op
 cases ok with
 | true => simp only [F117_f1, shapeB, hr, bindO_some, iteO_true, equal154 N ss want h, Option.getD_some, cond_true]
 | false =>
   simp only [F117_f1, shapeB, hr, bindO_some, iteO_false, Option.getD_some, cond_false, shapeT]
   cases n.op == 8 with
   | true =>
     rcases three ss with ⟨a, b, c, rfl⟩ | ⟨h3, h4⟩
     · have a0 : atO [a, b, c] 0 = some a := atO_lit (i := 0) rfl rfl
       have a1 : atO [a, b, c] 1 = some b := atO_lit (i := 1) rfl rfl
       have a2 : atO [a, b, c] 2 = some c := atO_lit (i := 2) rfl rfl
       have el : ((([a, b, c] : List Int).length : Int) == 3) = true := rfl
       simp only [iteO_true, cond_true, a0, a1, a2, el, bindO_some, okB, m3]
       cases a == 2 <;> cases b == c <;> cases b == 1 <;> rfl
     · have := h4 Bool (fun a b c => (a == 2) && ((b == c) && okB b)) false
       simp only [iteO_true, iteO_false, cond_true, h3]
       exact (congrArg some this).symm
   | false =>
     cases n.op == 37 with
     | true =>
       rcases two ss with ⟨a, b, rfl⟩ | ⟨h3, h4⟩
       · have a0 : atO [a, b] 0 = some a := atO_lit (i := 0) rfl rfl
         have a1 : atO [a, b] 1 = some b := atO_lit (i := 1) rfl rfl
         have el : ((([a, b] : List Int).length : Int) == 2) = true := rfl
         simp only [iteO_true, iteO_false, cond_true, cond_false, a0, a1, el, bindO_some, okB, m2]
         cases a == b <;> cases a == 1 <;> rfl
       · have := h4 Bool (fun a b => (a == b) && okB a) false
         simp only [iteO_true, iteO_false, cond_true, cond_false, h3]
         exact (congrArg some this).symm
     | false =>
       cases n.op == 3 with
       | true => rfl
       | false =>
         cases n.op == 42 with
         | true =>
           simp only [iteO_true, iteO_false, cond_true, cond_false]
           cases decide ((ss.length : Int) ≥ 1) <;> rfl
         | false => rfl
theorem drop_cons {α : Type} {l : List α} {i : Nat} {x : α} {xs : List α} (h : l.drop i = x :: xs) : l[i]? = some x ∧ l.drop (i + 1) = xs := by
 constructor
 · have := congrArg List.head? h
   simpa [List.head?_drop] using this
 · rw [← List.drop_drop, h]; rfl
theorem shape117 (N : Nat) (n : Node) (h : n.size < N) (hb : n.size ≤ 1048576) : F117 N n = some (shapeB n.op (n.kids.map sortS)) := by
 have hl := kids_len n
 have hd : decide (0 ≤ (n.kids.length : Int) ∧ (n.kids.length : Int) ≤ (n.kids.length : Int) ∧ (n.kids.length : Int) * 8 ≤ 140737488355328 ∧ (n.kids.length : Int) ≤ 9223372036854775807) = true := decide_eq_true (by omega)
 simp only [F117, hd, iteO_true]
 refine foldN_idx (step := F117_s1 N) (fin := F117_f1 N n) (fun s i k => s.set i (sortS k)) (fun i l s => n.kids.drop i = l ∧ s.length = n.kids.length ∧ ∀ j, j < i → s[j]? = (n.kids.map sortS)[j]?) (fun r => r = _) ?_ ?_ n.kids N 0 _ (by omega) ⟨rfl, by simp, fun j hj => absurd hj (Nat.not_lt_zero _)⟩
 · intro x xs i s ⟨h1, h2, h3⟩
   obtain ⟨hx, hxs⟩ := drop_cons h1
   obtain ⟨hi, hx'⟩ := List.getElem?_eq_some_iff.1 hx
   have hm : x ∈ n.kids := hx' ▸ List.getElem_mem hi
   have hs := kids_size hm
   have ha : ∃ v, s[i]? = some v := ⟨s[i]'(by omega), List.getElem?_eq_getElem (by omega)⟩
   obtain ⟨v, hv⟩ := ha
   refine ⟨by simp only [F117_s1, sort36n N x (by omega), bindO_some, atO_get hv], hxs, by simp [h2], ?_⟩
   intro j hj
   by_cases hji : j = i
   · subst hji
     rw [List.getElem?_set_self (by omega), List.getElem?_map, hx]; rfl
   · rw [List.getElem?_set_ne (by omega)]
     exact h3 j (by omega)
 · intro i s ⟨h1, h2, h3⟩
   have hi : n.kids.length ≤ i := List.drop_eq_nil_iff.1 h1
   have he : s = n.kids.map sortS := by
     apply List.ext_getElem?
     intro j
     by_cases hj : j < i
     · exact h3 j hj
     · rw [List.getElem?_eq_none (by omega), List.getElem?_eq_none (by simp; omega)]
   rw [he]
   exact tail117 N n _ (by simp; omega)
end Go.Abs.Try
namespace Go.Abs.Try
set_option maxRecDepth 100000
theorem name17 (N : Nat) (s : ByteArray) (hN : 30 ≤ N) : F17 N s = F17 30 s := by
 obtain ⟨M, rfl⟩ : ∃ M, N = M + 14 := ⟨N - 14, by omega⟩
 have h76 : F76 (M + 14) s = F76 30 s := by rw [word76, show (30 : Nat) = 16 + 14 from rfl, word76]
 by_cases h0 : s.size = 0
 · have : ((s.size : Int) == 0) = true := by simp [h0]
   simp only [F17, this, iteO_true]
 · by_cases h24 : s.size > 24
   · have : decide ((s.size : Int) > 24) = true := decide_eq_true (by omega)
     simp only [F17, this, iteO_true]
   · have t1 := tail17 s (by omega) (s.size - 1) 1 (M + 14) (by omega) (by omega)
     have t2 := tail17 s (by omega) (s.size - 1) 1 30 (by omega) (by omega)
     have : whileN (F17_s1 s) (M + 14) 1 = whileN (F17_s1 s) 30 1 := t1.trans t2.symm
     simp only [F17, h76, this]
def ownA (n : Node) : Bool := ownB 30 n
theorem own118A (N : Nat) (n : Node) (hN : 30 ≤ N) : F118 N n = some (ownA n) := by
 have : F118 N n = F118 30 n := by simp only [F118, name17 N n.name hN]
 rw [this, ownA, own118 30 n (Nat.le_refl _)]
theorem own116A (N : Nat) (n : Node) (hN : 30 ≤ N) : F116 N n = some (ownA n) := by rw [own_same N n hN, own118A N n hN]
theorem own_sort (n : Node) (h : ownA n = true) (ho : n.op = 1 ∨ n.op = 3) : 1 ≤ n.sortf ∧ n.sortf ≤ 5 := by
 have h1 := own118A 30 n (Nat.le_refl _)
 rw [h] at h1
 have key : ∀ z : Option Bool, iteO (decide (n.sortf < 1)) (some false) (iteO (decide (n.sortf > 5)) (some false) z) = some true → 1 ≤ n.sortf ∧ n.sortf ≤ 5 := by
   intro z hz
   by_cases ha : n.sortf < 1
   · rw [decide_eq_true ha] at hz; cases hz
   · by_cases hb : n.sortf > 5
     · rw [decide_eq_true hb, decide_eq_false ha] at hz; cases hz
     · omega
 obtain ⟨b, _, hb⟩ := name_same 30 n.name (Nat.le_refl _)
 rcases ho with ho | ho
 · have e : (n.op == 1) = true := beq_iff_eq.2 ho
   simp only [F118, e, iteO_true, hb, bindO_some] at h1
   cases b with
   | false => cases h1
   | true => exact key _ h1
 · have e : (n.op == 1) = false := beq_eq_false_iff_ne.2 (by omega)
   have e3 : (n.op == 3) = true := beq_iff_eq.2 ho
   simp only [F118, e, e3, iteO_true, iteO_false, hb, bindO_some] at h1
   cases b with
   | false => cases h1
   | true => exact key _ h1
def nodeB (n : Node) : Bool := ownA n && shapeB n.op (n.kids.map sortS)
mutual
def sortedR : Node → Bool
  | ⟨op, s, nm, k, ks⟩ => nodeB ⟨op, s, nm, k, ks⟩ && allR ks
def allR : List Node → Bool
  | [] => true
  | k :: ks => sortedR k && allR ks
end
theorem allR_eq : ∀ ks : List Node, allR ks = ks.all sortedR
 | [] => rfl
 | k :: ks => by simp only [allR, List.all_cons, allR_eq ks]
theorem sortedR_eq (n : Node) : sortedR n = (nodeB n && n.kids.all sortedR) := by cases n; simp only [sortedR, allR_eq]
mutual
theorem nodes_all : ∀ n : Node, (nodes n).all nodeB = sortedR n
  | ⟨o, s, nm, nu, ks⟩ => by simp only [nodes, List.all_cons, nodesL_all ks, sortedR]
theorem nodesL_all : ∀ ks : List Node, (nodesL ks).all nodeB = allR ks
  | [] => rfl
  | k :: ks => by simp only [nodesL, List.all_append, nodes_all k, nodesL_all ks, allR]
end
mutual
theorem nodes_size : ∀ n x : Node, x ∈ nodes n → x.size ≤ n.size
  | ⟨o, s, nm, nu, ks⟩, x, h => by
    simp only [nodes, List.mem_cons] at h
    rcases h with rfl | h
    · exact Nat.le_refl _
    · have := nodesL_size ks x h
      rw [Node.size_eq (⟨o, s, nm, nu, ks⟩ : Node)]
      simp only
      omega
theorem nodesL_size : ∀ (ks : List Node) (x : Node), x ∈ nodesL ks → x.size ≤ (ks.map Node.size).sum
  | [], x, h => by simp [nodesL] at h
  | k :: ks, x, h => by
    simp only [nodesL, List.mem_append] at h
    simp only [List.map_cons, List.sum_cons]
    rcases h with h | h
    · have := nodes_size k x h; omega
    · have := nodesL_size ks x h; omega
end
theorem sortC_range (op s : Int) (h : op = 1 ∨ op = 3 → 1 ≤ s ∧ s ≤ 5) : 0 ≤ sortC op s ∧ sortC op s ≤ 5 := by
 unfold sortC
 repeat' (split; first | (have := h (.inl ‹_›); omega) | (have := h (.inr ‹_›); omega) | decide | skip)
 all_goals first | decide | omega
mutual
theorem sort_range : ∀ n : Node, sortedR n = true → 0 ≤ sortS n ∧ sortS n ≤ 5
  | ⟨op, s, nm, k, ks⟩, h => by
    rw [sortedR] at h
    simp only [Bool.and_eq_true] at h
    rw [sortS]
    by_cases h8 : op = 8
    · rw [if_pos h8]; exact sortL_range ks h.2
    · rw [if_neg h8]
      have h1 := h.1
      simp only [nodeB, Bool.and_eq_true] at h1
      exact sortC_range op s fun ho => own_sort _ h1.1 ho
theorem sortL_range : ∀ ks : List Node, allR ks = true → 0 ≤ sortL ks ∧ sortL ks ≤ 5
  | [], _ => by rw [sortL]; decide
  | _ :: ks, h => by
    simp only [allR, Bool.and_eq_true] at h
    rw [sortL]; exact sortL1_range ks h.2
theorem sortL1_range : ∀ ks : List Node, allR ks = true → 0 ≤ sortL1 ks ∧ sortL1 ks ≤ 5
  | [], _ => by rw [sortL1]; decide
  | k :: _, h => by
    simp only [allR, Bool.and_eq_true] at h
    rw [sortL1]; exact sort_range k h.1
end
theorem ok119 (x : Int) (h : 0 ≤ x ∧ x ≤ 5) : F119 x = some (okB x) := by
 have : x = 0 ∨ x = 1 ∨ x = 2 ∨ x = 3 ∨ x = 4 ∨ x = 5 := by omega
 rcases this with rfl | rfl | rfl | rfl | rfl | rfl <;> rfl
theorem sorted71 (N : Nat) (n : Node) (h : 30 + n.size < N) (hb : n.size ≤ 1048576) : F71 N n = some (sortedR n) := by
 simp only [F71, walk_ok n (by omega), bindO_some]
 rw [foldO_all (step := F71_s1 N) (fin := F71_f1) nodeB false (nodes n) ?_, nodes_all]
 · cases sortedR n <;> rfl
 · intro x hx
   have := nodes_size n x hx
   simp only [F71_s1, own116A N x (by omega), shape117 N x (by omega) (by omega), bindO_some, nodeB]
   cases ownA x <;> cases shapeB x.op (x.kids.map sortS) <;> rfl
theorem zip_map_eq : ∀ (l : List Int) (ks : List Node), l.length = ks.length → ((l.zip ks).all fun p => sortS p.2 == p.1) = (ks.map sortS == l)
 | [], [], _ => rfl
 | [], _ :: _, h => by simp at h
 | _ :: _, [], h => by simp at h
 | x :: xs, y :: ys, h => by
   have := zip_map_eq xs ys (by simpa using h)
   simp only [List.zip_cons_cons, List.all_cons, this]
   rfl
theorem tail72 (N : Nat) (n : Node) (hl : n.kids.length < N) (h : ∀ k ∈ n.kids, F28 N k = some (sortS k) ∧ 0 ≤ sortS k ∧ sortS k ≤ 5) : F72_f1 N n () = some (shapeB n.op (n.kids.map sortS)) := by
 have hm : (n.kids.map sortS).length = n.kids.length := by simp
 by_cases h3 : n.op = 3
 · have e : (n.op == 3) = true := beq_iff_eq.2 h3
   have hr : F153 n.op = some ([], false) := by rw [h3]; rfl
   have hs : shapeB n.op (n.kids.map sortS) = decide (((n.kids.map sortS).length : Int) ≤ 8) := by simp only [shapeB, hr]; rw [h3]; rfl
   rw [hs, hm]
   simp only [F72_f1, e, iteO_true]
 have e3 : (n.op == 3) = false := beq_eq_false_iff_ne.2 h3
 by_cases h42 : n.op = 42
 · have e : (n.op == 42) = true := beq_iff_eq.2 h42
   have hr : F153 n.op = some ([], false) := by rw [h42]; rfl
   have hs : shapeB n.op (n.kids.map sortS) = (decide (((n.kids.map sortS).length : Int) ≥ 1) && decide (((n.kids.map sortS).length : Int) ≤ 40)) := by simp only [shapeB, hr]; rw [h42]; rfl
   rw [hs, hm]
   simp only [F72_f1, e, e3, iteO_true, iteO_false]
   cases decide ((n.kids.length : Int) ≥ 1) <;> rfl
 have e42 : (n.op == 42) = false := beq_eq_false_iff_ne.2 h42
 by_cases h37 : n.op = 37
 · have e : (n.op == 37) = true := beq_iff_eq.2 h37
   have hr : F153 n.op = some ([], false) := by rw [h37]; rfl
   have hs : shapeB n.op (n.kids.map sortS) = (m2 (fun a b => (a == b) && okB a) false (n.kids.map sortS)) := by simp only [shapeB, hr]; rw [h37]; rfl
   rw [hs]
   simp only [F72_f1, e, e3, e42, iteO_true, iteO_false]
   rcases two n.kids with ⟨a, b, hk⟩ | ⟨h2, h4⟩
   · obtain ⟨sa, ra⟩ := h a (by rw [hk]; simp)
     obtain ⟨sb, rb⟩ := h b (by rw [hk]; simp)
     have a0 : atO [a, b] 0 = some a := atO_lit (i := 0) rfl rfl
     have a1 : atO [a, b] 1 = some b := atO_lit (i := 1) rfl rfl
     have el : ((([a, b] : List Node).length : Int) == 2) = true := rfl
     simp only [hk, a0, a1, el, iteO_true, bindO_some, sa, sb, ok119 _ ra, List.map_cons, List.map_nil, m2]
     cases sortS a == sortS b <;> rfl
   · simp only [h2, iteO_false]
     rcases two (n.kids.map sortS) with ⟨a, b, hk⟩ | ⟨_, h5⟩
     · rw [← hm, hk] at h2; cases h2
     · exact (congrArg some (h5 Bool (fun a b => (a == b) && okB a) false)).symm
 have e37 : (n.op == 37) = false := beq_eq_false_iff_ne.2 h37
 by_cases h8 : n.op = 8
 · have e : (n.op == 8) = true := beq_iff_eq.2 h8
   have hr : F153 n.op = some ([], false) := by rw [h8]; rfl
   have hs : shapeB n.op (n.kids.map sortS) = (m3 (fun a b c => (a == 2) && ((b == c) && okB b)) false (n.kids.map sortS)) := by simp only [shapeB, hr]; rw [h8]; rfl
   rw [hs]
   simp only [F72_f1, e, e3, e42, e37, iteO_true, iteO_false]
   rcases three n.kids with ⟨a, b, c, hk⟩ | ⟨h2, h4⟩
   · obtain ⟨sa, ra⟩ := h a (by rw [hk]; simp)
     obtain ⟨sb, rb⟩ := h b (by rw [hk]; simp)
     obtain ⟨sc, rc⟩ := h c (by rw [hk]; simp)
     have a0 : atO [a, b, c] 0 = some a := atO_lit (i := 0) rfl rfl
     have a1 : atO [a, b, c] 1 = some b := atO_lit (i := 1) rfl rfl
     have a2 : atO [a, b, c] 2 = some c := atO_lit (i := 2) rfl rfl
     have el : ((([a, b, c] : List Node).length : Int) == 3) = true := rfl
     simp only [hk, a0, a1, a2, el, iteO_true, bindO_some, sa, sb, sc, ok119 _ rb, List.map_cons, List.map_nil, m3]
     cases sortS a == 2 <;> cases sortS b == sortS c <;> rfl
   · simp only [h2, iteO_false]
     rcases three (n.kids.map sortS) with ⟨a, b, c, hk⟩ | ⟨_, h5⟩
     · rw [← hm, hk] at h2; cases h2
     · exact (congrArg some (h5 Bool (fun a b c => (a == 2) && ((b == c) && okB b)) false)).symm
 have e8 : (n.op == 8) = false := beq_eq_false_iff_ne.2 h8
 obtain ⟨⟨want, ok⟩, hr⟩ := takes_some n.op
 have hr' := hr
 rw [takes_same] at hr'
 simp only [F72_f1, e3, e42, e37, e8, iteO_false, hr', bindO_some, shapeB, hr, Option.getD_some, shapeT, cond_false]
 cases ok with
 | false => rfl
 | true =>
   simp only [iteO_true, cond_true]
   cases hw : ((want.length : Int) == (n.kids.length : Int)) with
   | false =>
     have : (n.kids.map sortS == want) = false := beq_eq_false_iff_ne.2 fun e => by rw [← e] at hw; simp at hw
     simp only [iteO_false, this]
   | true =>
     have hw' : want.length = n.kids.length := by have := eq_of_beq hw; omega
     simp only [iteO_true]
     rw [foldN_zip (fin := F72_f2) n.kids (fun x k => sortS k == x) ?_ rfl want N 0 n.kids rfl hw' (by omega), zip_map_eq _ _ hw']
     intro i x y hy
     obtain ⟨hi, hx'⟩ := List.getElem?_eq_some_iff.1 hy
     have hy' : y ∈ n.kids := hx' ▸ List.getElem_mem hi
     simp only [F72_s2, atO_get hy, bindO_some, (h y hy').1]
     cases (sortS y == x) <;> rfl
theorem sorted72 : ∀ (N : Nat) (n : Node), 30 + n.size < N → F72 N n = some (sortedR n)
 | 0, n, h => absurd h (Nat.not_lt_zero _)
 | N + 1, n, h => by
   have hl := kids_len n
   show F72b (F72 N) N n = _
   simp only [F72b, own118A N n (by omega), bindO_some]
   rw [sortedR_eq, nodeB]
   cases ownA n with
   | false => rfl
   | true =>
     simp only [iteO_true, Bool.true_and]
     rw [foldN_all (step := F72_s1 (F72 N)) (fin := F72_f1 N n) sortedR false n.kids N 0 (by omega) ?_]
     · cases ha : n.kids.all sortedR with
       | false => simp only [cond_false, Bool.and_false]
       | true =>
         rw [cond_true, tail72 N n (by omega) ?_, Bool.and_true]
         intro k hk
         exact ⟨sort28 N k (by have := kids_size hk; omega), sort_range k (List.all_eq_true.1 ha k hk)⟩
     · intro x hx i
       have := kids_size hx
       simp only [F72_s1, sorted72 N x (by omega), bindO_some]
       cases sortedR x <;> rfl
end Go.Abs.Try
namespace Go.Abs.Try
set_option maxRecDepth 100000
theorem ba_loop2 (s : ByteArray) : ∀ (m i : Nat) (r : List UInt8), s.size - i = m → ByteArray.toList.loop s i r = r.reverse ++ s.data.toList.drop i
 | 0, i, r, h => by
   have hl : s.data.toList.length = s.size := Array.length_toList
   rw [ByteArray.toList.loop.eq_1, if_neg (by omega), List.drop_eq_nil_iff.2 (by omega), List.append_nil]
 | m + 1, i, r, h => by
   have hl : s.data.toList.length = s.size := Array.length_toList
   have hi : i < s.data.toList.length := by omega
   rw [ByteArray.toList.loop.eq_1, if_pos (by omega), ba_loop2 s m (i + 1) _ (by omega), List.drop_eq_getElem_cons hi]
   have hi2 : i < s.data.size := by simpa using hi
   have : s.get! i = s.data.toList[i] := by
     cases s with | mk d => simp only [ByteArray.get!]; simp at hi2; simp [hi2]
   simp [this]
theorem ba_toList (s : ByteArray) : s.toList = s.data.toList := by
 rw [ByteArray.toList, ba_loop2 s s.size 0 [] (by omega)]; simp
theorem ba_inj {a b : ByteArray} (h : a.toList = b.toList) : a = b := by
 rw [ba_toList, ba_toList] at h
 cases a; cases b
 simp only [ByteArray.mk.injEq]
 exact Array.toList_inj.1 h
theorem ba_beq (a b : ByteArray) : (a == b) = (a.toList == b.toList) := by
 cases a with | mk a => cases b with | mk b =>
 have h : ((⟨a⟩ : ByteArray) == ⟨b⟩) = (a == b) := rfl
 rw [h, ba_toList, ba_toList, Bool.eq_iff_iff, beq_iff_eq, beq_iff_eq]
 exact Array.toList_inj.symm
theorem ba_beq_iff (a b : ByteArray) : (a == b) = true ↔ a = b := by
 rw [ba_beq, beq_iff_eq]
 exact ⟨ba_inj, fun h => h ▸ rfl⟩
theorem bytes_lt : ∀ (x y : List UInt8), Op.bytesLess x y = decide (x < y)
 | [], [] => by simp [Op.bytesLess]
 | _ :: _, [] => by simp [Op.bytesLess]
 | [], _ :: _ => by simp [Op.bytesLess]
 | a :: x, b :: y => by
   rw [Op.bytesLess, bytes_lt x y]
   simp only [List.cons_lt_cons_iff]
   by_cases h1 : a < b <;> by_cases h2 : a = b <;> by_cases h3 : x < y <;> simp [h1, h2, h3]
theorem list_tri (x y : List UInt8) : x < y ∨ x = y ∨ y < x := by
 by_cases h : x < y
 · exact .inl h
 · by_cases h2 : y < x
   · exact .inr (.inr h2)
   · exact .inr (.inl (List.le_antisymm (List.not_lt.1 h2) (List.not_lt.1 h)))
def ahead (a b : Decl) : Prop := a.declName.toList < b.declName.toList ∨ (a.declName.toList = b.declName.toList ∧ a.declSort < b.declSort)
def aheadB (a b : Decl) : Bool := Op.bytesLess a.declName.toList b.declName.toList || (a.declName.toList == b.declName.toList && decide (a.declSort < b.declSort))
theorem ahead168 (a b : Decl) : F168 a b = some (aheadB a b) := by
 simp only [F168, aheadB]
 cases Op.bytesLess a.declName.toList b.declName.toList <;> cases a.declName.toList == b.declName.toList <;> rfl
theorem aheadB_iff (a b : Decl) : aheadB a b = true ↔ ahead a b := by
 simp only [aheadB, ahead, bytes_lt, Bool.or_eq_true, Bool.and_eq_true, decide_eq_true_eq, beq_iff_eq]
theorem ahead_irrefl (a : Decl) : ¬ ahead a a := by
 rintro (h | ⟨_, h⟩)
 · exact List.lt_irrefl _ h
 · omega
theorem ahead_trans {a b c : Decl} (h1 : ahead a b) (h2 : ahead b c) : ahead a c := by
 rcases h1 with h1 | ⟨e1, h1⟩ <;> rcases h2 with h2 | ⟨e2, h2⟩
 · exact .inl (List.lt_trans h1 h2)
 · exact .inl (e2 ▸ h1)
 · exact .inl (e1 ▸ h2)
 · exact .inr ⟨e1.trans e2, by omega⟩
def sameD (x d : Decl) : Bool := (x.declName.toList == d.declName.toList) && (x.declSort == d.declSort)
theorem sameD_iff (x d : Decl) : sameD x d = true ↔ x = d := by
 simp only [sameD, Bool.and_eq_true, beq_iff_eq]
 constructor
 · intro ⟨h1, h2⟩
   cases x; cases d
   simp only at h1 h2
   rw [ba_inj h1, h2]
 · intro h; subst h; exact ⟨rfl, rfl⟩
theorem ahead_tri {x d : Decl} (h1 : x ≠ d) (h2 : ¬ ahead d x) : ahead x d := by
 rcases list_tri x.declName.toList d.declName.toList with h | h | h
 · exact .inl h
 · refine .inr ⟨h, ?_⟩
   have h3 : ¬ d.declSort < x.declSort := fun hh => h2 (.inr ⟨h.symm, hh⟩)
   have h4 : x.declSort ≠ d.declSort := fun e => h1 ((sameD_iff x d).1 (by simp only [sameD, h, e, beq_self_eq_true, Bool.and_self]))
   omega
 · exact absurd (.inl h) h2
def ins (d : Decl) : List Decl → List Decl
 | [] => [d]
 | x :: xs => bif sameD x d then x :: xs else bif aheadB d x then d :: x :: xs else x :: ins d xs
theorem ins_len (d : Decl) : ∀ l, (ins d l).length ≤ l.length + 1
 | [] => Nat.le_refl _
 | x :: xs => by
   have := ins_len d xs
   simp only [ins]
   cases sameD x d <;> cases aheadB d x <;> simp only [cond_true, cond_false, List.length_cons] <;> omega
theorem ins_mem (d y : Decl) : ∀ l, y ∈ ins d l ↔ y = d ∨ y ∈ l
 | [] => by simp [ins]
 | x :: xs => by
   have := ins_mem d y xs
   simp only [ins]
   cases hs : sameD x d with
   | true =>
     have := (sameD_iff x d).1 hs
     subst this
     simp only [cond_true, List.mem_cons]
     constructor
     · rintro (h | h); exact .inl h; exact .inr (.inr h)
     · rintro (h | h | h); exact .inl h; exact .inl h; exact .inr h
   | false =>
     cases aheadB d x with
     | true => simp only [cond_true, cond_false, List.mem_cons]
     | false =>
       simp only [cond_false, List.mem_cons, this]
       constructor
       · rintro (h | h | h); exact .inr (.inl h); exact .inl h; exact .inr (.inr h)
       · rintro (h | h | h); exact .inr (.inl h); exact .inl h; exact .inr (.inr h)
theorem ins_sorted (d : Decl) : ∀ l : List Decl, l.Pairwise ahead → (ins d l).Pairwise ahead
 | [], _ => by simp [ins]
 | x :: xs, h => by
   obtain ⟨h1, h2⟩ := List.pairwise_cons.1 h
   simp only [ins]
   cases hs : sameD x d with
   | true => exact h
   | false =>
     have hne : x ≠ d := fun e => by rw [(sameD_iff x d).2 e] at hs; cases hs
     cases ha : aheadB d x with
     | true =>
       have hd := (aheadB_iff d x).1 ha
       refine List.pairwise_cons.2 ⟨?_, h⟩
       intro y hy
       rcases List.mem_cons.1 hy with rfl | hy
       · exact hd
       · exact ahead_trans hd (h1 y hy)
     | false =>
       have hd : ¬ ahead d x := fun e => by rw [(aheadB_iff d x).2 e] at ha; cases ha
       refine List.pairwise_cons.2 ⟨?_, ins_sorted d xs h2⟩
       intro y hy
       rcases (ins_mem d y xs).1 hy with rfl | hy
       · exact ahead_tri hne hd
       · exact h1 y hy
theorem fits_ok {n : Nat} (h : n ≤ 4000000) : fits n 24 = true := by
 simp only [fits, roomMax]; exact decide_eq_true (by omega)
theorem put_fold (d : Decl) : ∀ (l : List Decl) (N i : Nat) (acc : List Decl) (dn : Bool), l.length < N → acc.length + l.length + (bif dn then 1 else 2) ≤ 4000000 → foldN (F140_s1 d) (F140_f1 d) N l i (acc, dn) = some (bif dn then acc ++ l else acc ++ ins d l)
 | [], N, i, acc, dn, hN, hb => by
   obtain ⟨M, rfl⟩ : ∃ M, N = M + 1 := ⟨N - 1, by simp at hN; omega⟩
   simp only [List.length_nil] at hb
   have hb : acc.length + 1 ≤ 4000000 := by cases dn <;> simp only [cond_true, cond_false] at hb <;> omega
   simp only [foldN, F140_f1, fits_ok (n := acc.length + 1) (by omega), iteO_true]
   cases dn <;> simp [iteO, ins]
 | x :: xs, N, i, acc, dn, hN, hb => by
   obtain ⟨M, rfl⟩ : ∃ M, N = M + 1 := ⟨N - 1, by simp at hN; omega⟩
   simp only [List.length_cons] at hb hN
   have hb2 : acc.length + (xs.length + 1) + 1 ≤ 4000000 := by cases dn <;> simp only [cond_true, cond_false] at hb <;> omega
   have f1 : fits (acc.length + 1) 24 = true := fits_ok (by omega)
   have f2 : dn = false → fits (acc.length + 1 + 1) 24 = true := fun e => by subst e; simp only [cond_false] at hb; exact fits_ok (by omega)
   have hstep : F140_s1 d (acc, dn) i x = some (.inl (bif sameD x d then (acc ++ [x], true) else bif dn then (acc ++ [x], true) else bif aheadB d x then (acc ++ [d] ++ [x], true) else (acc ++ [x], false))) := by
     simp only [F140_s1, f1, iteO_true, ahead168, bindO_some, sameD]
     cases dn with
     | true => cases (x.declName.toList == d.declName.toList) && (x.declSort == d.declSort) <;> cases aheadB d x <;> rfl
     | false =>
       simp only [f2 rfl]
       cases (x.declName.toList == d.declName.toList) && (x.declSort == d.declSort) <;> cases aheadB d x <;> rfl
   simp only [foldN, hstep, bindO_some, ins]
   cases sameD x d with
   | true =>
     simp only [cond_true]
     rw [put_fold d xs M (i + 1) (acc ++ [x]) true (by omega) (by simp; omega)]
     cases dn <;> simp
   | false =>
     cases dn with
     | true =>
       simp only [cond_true, cond_false]
       rw [put_fold d xs M (i + 1) (acc ++ [x]) true (by omega) (by simp; omega)]
       simp
     | false =>
       cases aheadB d x with
       | true =>
         simp only [cond_true, cond_false]
         rw [put_fold d xs M (i + 1) (acc ++ [d] ++ [x]) true (by omega) (by simp only [cond_false] at hb; simp; omega)]
         simp
       | false =>
         simp only [cond_true, cond_false]
         rw [put_fold d xs M (i + 1) (acc ++ [x]) false (by omega) (by simp only [cond_false] at hb; simp; omega)]
         simp
theorem put140 (N : Nat) (l : List Decl) (d : Decl) (hN : l.length < N) (hb : l.length + 2 ≤ 4000000) : F140 N l d = some (ins d l) := by
 simp only [F140]
 rw [put_fold d l N 0 [] false hN (by simp; omega)]
 simp
def putV (l : List Decl) (x : Node) : List Decl := bif x.op == 1 then ins ⟨x.name, x.sortf⟩ l else l
theorem putV_len (l : List Decl) (x : Node) : (putV l x).length ≤ l.length + 1 := by
 have := ins_len ⟨x.name, x.sortf⟩ l
 simp only [putV]
 cases x.op == 1 <;> simp only [cond_true, cond_false] <;> omega
theorem foldV_len : ∀ (xs : List Node) (l : List Decl), (xs.foldl putV l).length ≤ l.length + xs.length
 | [], l => by simp
 | x :: xs, l => by
   have := foldV_len xs (putV l x)
   have := putV_len l x
   simp only [List.foldl_cons, List.length_cons]
   omega
theorem foldV_mem (y : Decl) : ∀ (xs : List Node) (l : List Decl), y ∈ xs.foldl putV l ↔ y ∈ l ∨ ∃ x ∈ xs, x.op = 1 ∧ y = ⟨x.name, x.sortf⟩
 | [], l => by simp
 | x :: xs, l => by
   rw [List.foldl_cons, foldV_mem y xs]
   simp only [putV]
   cases h : x.op == 1 with
   | true =>
     have ho : x.op = 1 := eq_of_beq h
     simp only [cond_true, ins_mem, List.mem_cons]
     constructor
     · rintro ((h1 | h1) | ⟨z, hz, h1⟩)
       · exact .inr ⟨x, .inl rfl, ho, h1⟩
       · exact .inl h1
       · exact .inr ⟨z, .inr hz, h1⟩
     · rintro (h1 | ⟨z, rfl | hz, h1⟩)
       · exact .inl (.inr h1)
       · exact .inl (.inl h1.2)
       · exact .inr ⟨z, hz, h1⟩
   | false =>
     have ho : x.op ≠ 1 := by intro e; rw [e] at h; cases h
     simp only [cond_false, List.mem_cons]
     constructor
     · rintro (h1 | ⟨z, hz, h1⟩)
       · exact .inl h1
       · exact .inr ⟨z, .inr hz, h1⟩
     · rintro (h1 | ⟨z, rfl | hz, h1⟩)
       · exact .inl h1
       · exact absurd h1.1 ho
       · exact .inr ⟨z, hz, h1⟩
theorem foldV_sorted : ∀ (xs : List Node) (l : List Decl), l.Pairwise ahead → (xs.foldl putV l).Pairwise ahead
 | [], l, h => h
 | x :: xs, l, h => by
   rw [List.foldl_cons]
   refine foldV_sorted xs _ ?_
   simp only [putV]
   cases x.op == 1 with
   | true => exact ins_sorted _ l h
   | false => exact h
theorem foldL_nodes : ∀ (ks : List Node) (l : List Decl), ks.foldl (fun l k => (nodes k).foldl putV l) l = (nodesL ks).foldl putV l
 | [], l => rfl
 | k :: ks, l => by rw [List.foldl_cons, foldL_nodes ks, nodesL, List.foldl_append]
theorem gather_kids (self : List Decl → Node → Option (List Decl)) (step : List Decl → Nat → Node → Option (Sum (List Decl) (List Decl))) (hstep : ∀ s i x, step s i x = bindO (self s x) fun r => some (.inl r)) (n : Node) (N : Nat) (l : List Decl) (hN : n.kids.length < N) (hb : l.length + (nodesL n.kids).length ≤ 3000000)
   (hs : ∀ k ∈ n.kids, ∀ l : List Decl, l.length + k.size ≤ 3000000 → self l k = some ((nodes k).foldl putV l)) : foldN step (fun s => some s) N n.kids 0 l = some ((nodesL n.kids).foldl putV l) := by
 have := foldN_inl (step := step) (fin := fun s => some s) (fun (l : List Decl) (k : Node) => (nodes k).foldl putV l) (fun ks l => (∀ k ∈ ks, k ∈ n.kids) ∧ l.length + (nodesL ks).length ≤ 3000000)
   (fun x xs i s ⟨h1, h2⟩ => by
     have hx := h1 x (by simp)
     simp only [nodesL, List.length_append, nodes_len] at h2
     have hl := foldV_len (nodes x) s
     rw [nodes_len] at hl
     refine ⟨by rw [hstep, hs x hx s (by omega)]; rfl, fun k hk => h1 k (by simp [hk]), by omega⟩) n.kids N 0 l hN ⟨fun _ h => h, hb⟩
 rw [this.1, foldL_nodes]
theorem nodes_eq (n : Node) : nodes n = n :: nodesL n.kids := by cases n; rfl
theorem gather95 : ∀ (N : Nat) (n : Node) (l : List Decl), n.size + 3000000 < N → l.length + n.size ≤ 3000000 → F95 N l n = some ((nodes n).foldl putV l)
 | 0, n, l, h, _ => absurd h (Nat.not_lt_zero _)
 | N + 1, n, l, h, hb => by
   have hk := kids_len n
   have hn := nodes_len n
   rw [nodes_eq, List.length_cons] at hn
   show F95b (F95 N) N l n = _
   have ih : ∀ k ∈ n.kids, ∀ l : List Decl, l.length + k.size ≤ 3000000 → F95 N l k = some ((nodes k).foldl putV l) := fun k hk l hl => gather95 N k l (by have := kids_size hk; omega) hl
   rw [nodes_eq, List.foldl_cons]
   have hp := putV_len l n
   cases h1 : n.op == 1 with
   | true =>
     have e : putV l n = ins ⟨n.name, n.sortf⟩ l := by simp only [putV, h1, cond_true]
     simp only [F95b, h1, iteO_true]
     rw [put140 N l _ (by omega) (by omega), ← e, bindO_some]
     exact gather_kids (F95 N) (F95_s1 (F95 N)) (fun _ _ _ => rfl) n N (putV l n) (by omega) (by omega) ih
   | false =>
     have e : putV l n = l := by simp only [putV, h1, cond_false]
     simp only [F95b, h1, iteO_false, e]
     exact gather_kids (F95 N) (F95_s2 (F95 N)) (fun _ _ _ => rfl) n N l (by omega) (by omega) ih
def varsR (n : Node) : List Decl := (nodes n).foldl putV []
theorem vars47 (N : Nat) (n : Node) (h : n.size + 3000000 < N) (hb : n.size ≤ 1048576) : F47 N n = some (varsR n) := by
 simp only [F47, gather95 N n [] h (by simp; omega), bindO_some, varsR]
def bareB (x : Node) : Bool := (x.op == 3) && ((x.kids.length : Int) == 0)
def hasB (name : ByteArray) (x : Node) : Bool := bareB x && (x.name.toList == name.toList)
theorem any_kids (self : Node → ByteArray → Option Bool) (name : ByteArray) (step : Unit → Nat → Node → Option (Sum Unit Bool)) (fin : Unit → Option Bool) (hstep : ∀ s i x, step s i x = bindO (self x name) fun r => iteO r (some (.inr true)) (some (.inl ()))) (hf : fin () = some false) (n : Node) (N : Nat) (hN : n.kids.length < N)
   (hs : ∀ k ∈ n.kids, self k name = some ((nodes k).any (hasB name))) : foldN step fin N n.kids 0 () = some ((nodesL n.kids).any (hasB name)) := by
 rw [foldN_all (step := step) (fin := fin) (fun k => !(nodes k).any (hasB name)) true n.kids N 0 hN ?_, hf]
 · have : ∀ ks : List Node, (bif ks.all (fun k => !(nodes k).any (hasB name)) then some false else some true) = some ((nodesL ks).any (hasB name)) := by
     intro ks
     induction ks with
     | nil => rfl
     | cons k ks ih =>
       simp only [List.all_cons, nodesL, List.any_append]
       cases h : (nodes k).any (hasB name) with
       | true => rfl
       | false => simpa using ih
   exact this n.kids
 · intro x hx i
   rw [hstep, hs x hx, bindO_some]
   cases (nodes x).any (hasB name) <;> rfl
theorem const92 : ∀ (N : Nat) (n : Node) (name : ByteArray), n.size < N → F92 N n name = some ((nodes n).any (hasB name))
 | 0, n, _, h => absurd h (Nat.not_lt_zero _)
 | N + 1, n, name, h => by
   have hk := kids_len n
   have ih : ∀ k ∈ n.kids, F92 N k name = some ((nodes k).any (hasB name)) := fun k hk => const92 N k name (by have := kids_size hk; omega)
   show F92b (F92 N) N n name = _
   have k1 := any_kids (F92 N) name (F92_s1 (F92 N) name) F92_f1 (fun _ _ _ => rfl) rfl n N (by omega) ih
   have k2 := any_kids (F92 N) name (F92_s2 (F92 N) name) F92_f2 (fun _ _ _ => rfl) rfl n N (by omega) ih
   have k3 := any_kids (F92 N) name (F92_s3 (F92 N) name) F92_f3 (fun _ _ _ => rfl) rfl n N (by omega) ih
   rw [nodes_eq, List.any_cons]
   simp only [F92b, k1, k2, k3, hasB, bareB]
   cases n.op == 3 <;> cases n.name.toList == name.toList <;> cases ((n.kids.length : Int) == 0) <;> rfl
end Go.Abs.Try
namespace Go.Abs.Try
set_option maxRecDepth 100000
def adjB : List Decl → Bool
 | a :: b :: r => !(a.declName.toList == b.declName.toList) && adjB (b :: r)
 | _ => true
def clearB (n : Node) (l : List Decl) : Bool := l.all fun d => !(nodes n).any (hasB d.declName)
theorem clear41 (N : Nat) (n : Node) (l : List Decl) (hl : l.length < N) (hn : n.size < N) : foldN (F41_s2 N n) F41_f2 N l 0 () = some (clearB n l) := by
 rw [foldN_all (step := F41_s2 N n) (fin := F41_f2) (fun d => !(nodes n).any (hasB d.declName)) false l N 0 hl ?_]
 · rw [clearB]
   cases l.all fun d => !(nodes n).any (hasB d.declName) <;> rfl
 · intro x hx i
   simp only [F41_s2, const92 N n x.declName hn, bindO_some]
   cases (nodes n).any (hasB x.declName) <;> rfl
theorem while41 (K : Nat) (n : Node) (l : List Decl) (hlen : l.length ≤ 4000000) (hl : l.length < K) (hn : n.size < K) : ∀ (m k N : Nat), (k + 1) + m = l.length → m < N → whileN (F41_s1 K n l) N ((k + 1 : Nat) : Int) = some (adjB (l.drop k) && clearB n l)
 | 0, k, N, h, hN => by
   obtain ⟨M, rfl⟩ : ∃ M, N = M + 1 := ⟨N - 1, by omega⟩
   have hd : decide (((k + 1 : Nat) : Int) < (l.length : Int)) = false := decide_eq_false (by omega)
   have ha : adjB (l.drop k) = true := by
     have : (l.drop k).length = 1 := by simp; omega
     match hh : l.drop k, this with
     | [a], _ => rfl
   simp only [whileN, F41_s1, hd, iteO_false, clear41 K n l hl hn, bindO_some, ha, Bool.true_and]
 | m + 1, k, N, h, hN => by
   obtain ⟨M, rfl⟩ : ∃ M, N = M + 1 := ⟨N - 1, by omega⟩
   have hd : decide (((k + 1 : Nat) : Int) < (l.length : Int)) = true := decide_eq_true (by omega)
   have h1 : k < l.length := by omega
   have h2 : k + 1 < l.length := by omega
   have a1 : atO l (IntKind.i64.wrap (((k + 1 : Nat) : Int) - 1)) = some l[k] := by
     rw [wrap_id (by omega)]
     exact atO_lit (i := k) (by omega) (List.getElem?_eq_getElem h1)
   have a2 : atO l ((k + 1 : Nat) : Int) = some l[k + 1] := atO_lit (i := k + 1) rfl (List.getElem?_eq_getElem h2)
   have hw : IntKind.i64.wrap (((k + 1 : Nat) : Int) + 1) = ((k + 1 + 1 : Nat) : Int) := by rw [wrap_id (by omega)]; omega
   have ih := while41 K n l hlen hl hn m (k + 1) M (by omega) (by omega)
   have hdr : l.drop k = l[k] :: l[k + 1] :: l.drop (k + 1 + 1) := by rw [List.drop_eq_getElem_cons h1, List.drop_eq_getElem_cons h2]
   have hdr2 : l.drop (k + 1) = l[k + 1] :: l.drop (k + 1 + 1) := List.drop_eq_getElem_cons h2
   rw [hdr, adjB, ← hdr2]
   simp only [whileN, F41_s1, hd, iteO_true, a1, a2, bindO_some, hw]
   cases (l[k].declName.toList == l[k + 1].declName.toList) with
   | true => rfl
   | false => simp only [iteO_false, bindO_some]; exact ih
theorem uni41 (N : Nat) (n : Node) (h : n.size + 3000000 < N) (hb : n.size ≤ 1048576) : F41 N n = some (adjB (varsR n) && clearB n (varsR n)) := by
 have hlen : (varsR n).length ≤ n.size := by
   have := foldV_len (nodes n) []
   rw [nodes_len] at this
   simpa [varsR] using this
 simp only [F41, vars47 N n h hb, bindO_some]
 generalize varsR n = l at hlen
 match l, hlen with
 | [], _ =>
   obtain ⟨M, rfl⟩ : ∃ M, N = M + 1 := ⟨N - 1, by omega⟩
   have c := clear41 (M + 1) n [] (by simp) (by omega)
   have hd : decide ((1 : Int) < (([] : List Decl).length : Int)) = false := rfl
   simp only [whileN, F41_s1, hd, iteO_false, c, bindO_some, adjB, Bool.true_and]
 | a :: r, hlen =>
   simp only [List.length_cons] at hlen
   have := while41 N n (a :: r) (by simp; omega) (by simp; omega) (by omega) r.length 0 N (by simp; omega) (by omega)
   exact this
def mark : Int := -4611686018427387904
def valN (x : Node) : Option Int := bif bareB x then some mark else bif x.op == 1 then some x.sortf else none
def US (l : List Node) : Prop := ∀ x ∈ l, ∀ y ∈ l, ∀ v w, valN x = some v → valN y = some w → x.name = y.name → v = w
theorem names_lt : ∀ (l : List Decl), l.Pairwise ahead → adjB l = true → l.Pairwise fun a b => a.declName.toList < b.declName.toList
 | [], _, _ => .nil
 | [a], _, _ => by simp
 | a :: b :: r, h, ha => by
   obtain ⟨h1, h2⟩ := List.pairwise_cons.1 h
   simp only [adjB, Bool.and_eq_true, Bool.not_eq_true', beq_eq_false_iff_ne] at ha
   have ih := names_lt (b :: r) h2 ha.2
   have hab : a.declName.toList < b.declName.toList := by
     rcases h1 b (by simp) with h | ⟨h, _⟩
     · exact h
     · exact absurd h ha.1
   refine List.pairwise_cons.2 ⟨?_, ih⟩
   intro c hc
   rcases List.mem_cons.1 hc with rfl | hc
   · exact hab
   · exact List.lt_trans hab ((List.pairwise_cons.1 ih).1 c hc)
theorem names_inj : ∀ (l : List Decl), (l.Pairwise fun a b => a.declName.toList < b.declName.toList) → ∀ a ∈ l, ∀ b ∈ l, a.declName = b.declName → a = b
 | [], _, a, ha, _, _, _ => by simp at ha
 | x :: xs, h, a, ha, b, hb, e => by
   obtain ⟨h1, h2⟩ := List.pairwise_cons.1 h
   rcases List.mem_cons.1 ha with ea | ha' <;> rcases List.mem_cons.1 hb with eb | hb'
   · rw [ea, eb]
   · exact absurd (h1 b hb') (by rw [← ea, e]; exact List.lt_irrefl _)
   · exact absurd (h1 a ha') (by rw [← eb, e]; exact List.lt_irrefl _)
   · exact names_inj xs h2 a ha' b hb' e
theorem adj_of : ∀ (l : List Decl), l.Pairwise ahead → (∀ a ∈ l, ∀ b ∈ l, a.declName = b.declName → a = b) → adjB l = true
 | [], _, _ => rfl
 | [a], _, _ => rfl
 | a :: b :: r, h, hi => by
   obtain ⟨h1, h2⟩ := List.pairwise_cons.1 h
   simp only [adjB, Bool.and_eq_true, Bool.not_eq_true', beq_eq_false_iff_ne]
   refine ⟨fun e => ?_, adj_of (b :: r) h2 fun a ha b hb => hi a (List.mem_cons_of_mem _ ha) b (List.mem_cons_of_mem _ hb)⟩
   have := hi a (by simp) b (by simp) (ba_inj e)
   have h3 := h1 b (by simp)
   rw [this] at h3
   exact ahead_irrefl b h3
theorem valN_bare {x : Node} (h : bareB x = true) : valN x = some mark := by simp only [valN, h, cond_true]
theorem bare_op {x : Node} (h : bareB x = true) : x.op = 3 := by simp only [bareB, Bool.and_eq_true, beq_iff_eq] at h; exact h.1
theorem valN_var {x : Node} (h : x.op = 1) : valN x = some x.sortf := by
 have hb : bareB x = false := by
   cases hb : bareB x with
   | false => rfl
   | true => have := bare_op hb; omega
 have h1 : (x.op == 1) = true := beq_iff_eq.2 h
 simp only [valN, hb, h1, cond_true, cond_false]
theorem valN_some {x : Node} {v : Int} (h : valN x = some v) : (bareB x = true ∧ v = mark) ∨ (x.op = 1 ∧ v = x.sortf) := by
 cases hb : bareB x with
 | true => rw [valN_bare hb] at h; cases h; exact .inl ⟨rfl, rfl⟩
 | false =>
   cases h1 : x.op == 1 with
   | true => have h1 := eq_of_beq h1; rw [valN_var h1] at h; cases h; exact .inr ⟨h1, rfl⟩
   | false => simp only [valN, hb, h1, cond_false] at h; cases h
theorem ref_says (n : Node) (hs : ∀ x ∈ nodes n, x.op = 1 → x.sortf ≠ mark) : (adjB (varsR n) && clearB n (varsR n)) = true ↔ US (nodes n) := by
 have hsort : (varsR n).Pairwise ahead := foldV_sorted (nodes n) [] .nil
 have hmem : ∀ y, y ∈ varsR n ↔ ∃ x ∈ nodes n, x.op = 1 ∧ y = ⟨x.name, x.sortf⟩ := fun y => by
   rw [varsR, foldV_mem]; simp
 have hclear : clearB n (varsR n) = true ↔ ∀ d ∈ varsR n, ∀ x ∈ nodes n, bareB x = true → x.name ≠ d.declName := by
   simp only [clearB, List.all_eq_true, Bool.not_eq_true', List.any_eq_false, hasB, Bool.and_eq_true, beq_iff_eq, not_and]
   constructor
   · intro h d hd x hx hb e; exact h d hd x hx hb (by rw [e])
   · intro h d hd x hx hb e; exact h d hd x hx hb (ba_inj e)
 rw [Bool.and_eq_true, hclear]
 constructor
 · intro ⟨ha, hc⟩ x hx y hy v w hv hw e
   have hinj := names_inj _ (names_lt _ hsort ha)
   rcases valN_some hv with ⟨h1, rfl⟩ | ⟨h1, rfl⟩ <;> rcases valN_some hw with ⟨h2, rfl⟩ | ⟨h2, rfl⟩
   · rfl
   · exact absurd e (hc _ ((hmem ⟨y.name, y.sortf⟩).2 ⟨y, hy, h2, rfl⟩) x hx h1)
   · exact absurd e.symm (hc _ ((hmem ⟨x.name, x.sortf⟩).2 ⟨x, hx, h1, rfl⟩) y hy h2)
   · have := hinj _ ((hmem ⟨x.name, x.sortf⟩).2 ⟨x, hx, h1, rfl⟩) _ ((hmem ⟨y.name, y.sortf⟩).2 ⟨y, hy, h2, rfl⟩) e
     injection this
 · intro hu
   refine ⟨adj_of _ hsort ?_, ?_⟩
   · intro a ha b hb e
     obtain ⟨x, hx, hx1, rfl⟩ := (hmem a).1 ha
     obtain ⟨y, hy, hy1, rfl⟩ := (hmem b).1 hb
     have := hu x hx y hy _ _ (valN_var hx1) (valN_var hy1) e
     simp only at e
     rw [this, e]
   · intro d hd x hx hb e
     obtain ⟨y, hy, hy1, rfl⟩ := (hmem d).1 hd
     have := hu y hy x hx _ _ (valN_var hy1) (valN_bare hb) e.symm
     exact hs y hy hy1 this
theorem step40 (s : ByteArray → Option Int) (x : Node) (hs : x.op = 1 → x.sortf ≠ mark) : F40_s1 s x = match valN x with
   | none => some (.inl s)
   | some v => match s x.name with
     | none => some (.inl (putM s x.name v))
     | some w => bif w == v then some (.inl (putM s x.name v)) else some (.inr false) := by
 cases h3 : x.op == 3 with
 | true =>
   have ho : x.op = 3 := eq_of_beq h3
   have h1 : (x.op == 1) = false := beq_eq_false_iff_ne.2 (by omega)
   cases hk : ((x.kids.length : Int) == 0) with
   | true =>
     have hv : valN x = some mark := valN_bare (by simp only [bareB, h3, hk, Bool.and_self])
     rw [hv]
     simp only [F40_s1, h3, h1, hk, iteO_true, iteO_false, optO]
     cases s x.name with
     | none => rfl
     | some w =>
       show iteO (w == mark) _ _ = bif w == mark then _ else _
       cases w == mark <;> rfl
   | false =>
     have hv : valN x = none := by simp only [valN, bareB, h3, h1, hk, Bool.and_false, cond_false]
     rw [hv]
     simp only [F40_s1, h3, h1, hk, iteO_true, iteO_false, optO]
     cases s x.name <;> rfl
 | false =>
   cases h1 : x.op == 1 with
   | true =>
     have ho : x.op = 1 := eq_of_beq h1
     rw [valN_var ho]
     simp only [F40_s1, h3, h1, iteO_true, iteO_false, optO]
     cases s x.name with
     | none => rfl
     | some w =>
       show iteO (w == mark) _ _ = bif w == x.sortf then _ else _
       cases hm : w == mark with
       | true =>
         have hw : w = mark := eq_of_beq hm
         have : (w == x.sortf) = false := beq_eq_false_iff_ne.2 fun e => hs ho (by rw [← e, hw])
         rw [this]; rfl
       | false =>
         simp only [iteO_false]
         cases w == x.sortf <;> rfl
   | false =>
     have hv : valN x = none := by simp only [valN, bareB, h3, h1, Bool.false_and, cond_false]
     rw [hv]
     simp only [F40_s1, h3, h1, iteO_true, iteO_false, optO]
     cases s x.name <;> rfl
theorem fold40 : ∀ (l p : List Node) (s : ByteArray → Option Int), (∀ k v, s k = some v ↔ ∃ x ∈ p, x.name = k ∧ valN x = some v) → US p → (∀ x ∈ l, x.op = 1 → x.sortf ≠ mark) → ∃ b, foldO F40_s1 F40_f1 l s = some b ∧ (b = true ↔ US (p ++ l))
 | [], p, s, _, hu, _ => ⟨true, rfl, by rw [List.append_nil]; exact ⟨fun _ => hu, fun _ => rfl⟩⟩
 | x :: xs, p, s, hm, hu, hs => by
   have hstep := step40 s x (hs x (by simp))
   have hs' : ∀ y ∈ xs, y.op = 1 → y.sortf ≠ mark := fun y hy => hs y (by simp [hy])
   have happ : p ++ x :: xs = (p ++ [x]) ++ xs := by simp
   rw [happ]
   cases hv : valN x with
   | none =>
     rw [hv] at hstep
     have hu' : US (p ++ [x]) := by
       intro a ha b hb v w h1 h2 e
       rcases List.mem_append.1 ha with ha | ha
       · rcases List.mem_append.1 hb with hb | hb
         · exact hu a ha b hb v w h1 h2 e
         · rw [List.mem_singleton.1 hb, hv] at h2; cases h2
       · rw [List.mem_singleton.1 ha, hv] at h1; cases h1
     have hm' : ∀ k v, s k = some v ↔ ∃ y ∈ p ++ [x], y.name = k ∧ valN y = some v := by
       intro k v
       rw [hm k v]
       constructor
       · rintro ⟨y, hy, h⟩; exact ⟨y, List.mem_append.2 (.inl hy), h⟩
       · rintro ⟨y, hy, h⟩
         rcases List.mem_append.1 hy with hy | hy
         · exact ⟨y, hy, h⟩
         · rw [List.mem_singleton.1 hy, hv] at h; cases h.2
     simp only [foldO, hstep, bindO_some]
     exact fold40 xs (p ++ [x]) s hm' hu' hs'
   | some v =>
     rw [hv] at hstep
     have hput : s x.name = none ∨ s x.name = some v → ∃ b, foldO F40_s1 F40_f1 xs (putM s x.name v) = some b ∧ (b = true ↔ US ((p ++ [x]) ++ xs)) := by
       intro hor
       have hold : ∀ y ∈ p, ∀ w, y.name = x.name → valN y = some w → w = v := by
         intro y hy w e hw
         have := (hm x.name w).2 ⟨y, hy, e, hw⟩
         rcases hor with h | h
         · rw [h] at this; cases this
         · rw [h] at this; cases this; rfl
       refine fold40 xs (p ++ [x]) (putM s x.name v) ?_ ?_ hs'
       · intro k u
         simp only [putM]
         cases hk : k == x.name with
         | true =>
           have hk' := (ba_beq_iff _ _).1 hk
           subst hk'
           show some v = some u ↔ _
           constructor
           · intro h; cases h; exact ⟨x, by simp, rfl, hv⟩
           · rintro ⟨y, hy, e, hw⟩
             rcases List.mem_append.1 hy with hy | hy
             · rw [hold y hy u e hw]
             · rw [List.mem_singleton.1 hy, hv] at hw; exact hw
         | false =>
           show s k = some u ↔ _
           rw [hm k u]
           constructor
           · rintro ⟨y, hy, h⟩; exact ⟨y, List.mem_append.2 (.inl hy), h⟩
           · rintro ⟨y, hy, h⟩
             rcases List.mem_append.1 hy with hy | hy
             · exact ⟨y, hy, h⟩
             · have := List.mem_singleton.1 hy
               subst this
               rw [(ba_beq_iff _ _).2 h.1.symm] at hk; cases hk
       · intro a ha b hb w u h1 h2 e
         rcases List.mem_append.1 ha with ha' | ha' <;> rcases List.mem_append.1 hb with hb' | hb'
         · exact hu a ha' b hb' w u h1 h2 e
         · have hbx := List.mem_singleton.1 hb'
           rw [hbx, hv] at h2; cases h2
           exact hold a ha' w (by rw [e, hbx]) h1
         · have hax := List.mem_singleton.1 ha'
           rw [hax, hv] at h1; cases h1
           exact (hold b hb' u (by rw [← e, hax]) h2).symm
         · have h3 := List.mem_singleton.1 ha'
           have h4 := List.mem_singleton.1 hb'
           rw [h3, hv] at h1; rw [h4, hv] at h2; cases h1; cases h2; rfl
     cases hx : s x.name with
     | none =>
       rw [hx] at hstep
       obtain ⟨b, h1, h2⟩ := hput (.inl hx)
       exact ⟨b, by simp only [foldO, hstep, bindO_some]; exact h1, h2⟩
     | some w =>
       rw [hx] at hstep
       cases he : w == v with
       | true =>
         have he' := eq_of_beq he
         subst he'
         simp only [he, cond_true] at hstep
         obtain ⟨b, h1, h2⟩ := hput (.inr hx)
         exact ⟨b, by simp only [foldO, hstep, bindO_some]; exact h1, h2⟩
       | false =>
         simp only [he, cond_false] at hstep
         refine ⟨false, by simp only [foldO, hstep, bindO_some], by simp, fun hU => ?_⟩
         obtain ⟨y, hy, e, hw⟩ := (hm x.name w).1 hx
         have := hU y (by simp [hy]) x (by simp) w v hw hv e
         rw [this] at he; simp at he
theorem uni_same (N : Nat) (n : Node) (h : n.size + 3000000 < N) (hb : n.size ≤ 1048576) (hs : ∀ x ∈ nodes n, x.op = 1 → x.sortf ≠ mark) : ∃ b, F40 n = some b ∧ F41 N n = some b := by
 obtain ⟨b, h1, h2⟩ := fold40 (nodes n) [] (fun _ => none) (by simp) (fun x hx => by simp at hx) hs
 refine ⟨b, by simp only [F40, walk_ok n (by omega), bindO_some]; exact h1, ?_⟩
 rw [uni41 N n h hb]
 have h3 := ref_says n hs
 rw [List.nil_append] at h2
 congr 1
 rw [Bool.eq_iff_iff, h2, h3]
end Go.Abs.Try
namespace Go.Abs.Try
set_option maxRecDepth 100000
theorem sorted_nodes (n : Node) (h : sortedR n = true) : ∀ x ∈ nodes n, x.op = 1 → x.sortf ≠ mark := by
 intro x hx ho e
 rw [← nodes_all, List.all_eq_true] at h
 have h1 := h x hx
 simp only [nodeB, Bool.and_eq_true] at h1
 have := own_sort x h1.1 (.inl ho)
 rw [e] at this
 have : mark = -4611686018427387904 := rfl
 omega
theorem check_same (N : Nat) (n : Node) (srt : Int) (hN : 4611686018400000000 ≤ N ∧ N ≤ 4611686018427387904) (hb : n.size ≤ 1048576) : ∃ r, F14 N n srt = some r ∧ F15 N n srt = some r := by
 obtain ⟨k, hk, _, _⟩ := levels39 N n (by omega) (by omega)
 have hk' : F38 N n = some k := by rw [levels_same, hk]
 have h37 := size37 n (by omega)
 have h27 := size27 N n (by omega) (by omega)
 have h71 := sorted71 N n (by omega) hb
 have h72 := sorted72 N n (by omega)
 have h36 := sort36n N n (by omega)
 have h28 := sort28 N n (by omega)
 cases h0 : decide (srt < 0) with
 | true => exact ⟨1, by simp only [F14, h0, iteO_true], by simp only [F15, h0, iteO_true]⟩
 | false =>
   cases h5 : decide (srt > 5) with
   | true => exact ⟨1, by simp only [F14, h0, h5, iteO_true, iteO_false], by simp only [F15, h0, h5, iteO_true, iteO_false]⟩
   | false =>
     simp only [F14, F15, F70, h0, h5, iteO_false, hk, hk', h37, h27, h71, h72, h36, h28, bindO_some]
     by_cases hs : (n.size : Int) ≤ 4000
     · have e1 : decide ((n.size : Int) ≤ 4000) = true := decide_eq_true hs
       have e2 : decide ((n.size : Int) > 4000) = false := decide_eq_false (by omega)
       simp only [e1, e2, iteO_true, iteO_false, bindO_some]
       by_cases hl : k ≤ 100
       · have e3 : decide (k ≤ 100) = true := decide_eq_true hl
         have e4 : decide (k > 100) = false := decide_eq_false (by omega)
         simp only [e3, e4, iteO_true, iteO_false, bindO_some]
         cases hsort : sortedR n with
         | false => exact ⟨_, rfl, rfl⟩
         | true =>
           obtain ⟨b, u1, u2⟩ := uni_same N n (by omega) hb (sorted_nodes n hsort)
           simp only [u1, u2, iteO_true, bindO_some]
           cases b <;> cases srt == 0 <;> cases sortS n == srt <;> exact ⟨_, rfl, rfl⟩
       · have e3 : decide (k ≤ 100) = false := decide_eq_false hl
         have e4 : decide (k > 100) = true := decide_eq_true (by omega)
         simp only [e3, e4, iteO_true, iteO_false, bindO_some]
         exact ⟨_, rfl, rfl⟩
     · have e1 : decide ((n.size : Int) ≤ 4000) = false := decide_eq_false hs
       have e2 : decide ((n.size : Int) > 4000) = true := decide_eq_true (by omega)
       simp only [e1, e2, iteO_true, iteO_false, bindO_some]
       exact ⟨_, rfl, rfl⟩
end Go.Abs.Try
namespace Go.Abs.Try
set_option maxRecDepth 100000
def nd (op : Int) (ks : List Node) : Node := ⟨op, 0, ⟨#[]⟩, 0, ks⟩
def plainOp (op : Int) : Prop := op ≠ 1 ∧ op ≠ 3 ∧ op ≠ 2 ∧ op ≠ 7 ∧ op ≠ 42
theorem own_plain {n : Node} (h : ownA n = true) (hp : plainOp n.op) : n = nd n.op n.kids := by
 have h1 := own118A 30 n (Nat.le_refl _)
 rw [h] at h1
 obtain ⟨p1, p3, p2, p7, p42⟩ := hp
 have e1 : (n.op == 1) = false := beq_eq_false_iff_ne.2 p1
 have e3 : (n.op == 3) = false := beq_eq_false_iff_ne.2 p3
 have e2 : (n.op == 2) = false := beq_eq_false_iff_ne.2 p2
 have e7 : (n.op == 7) = false := beq_eq_false_iff_ne.2 p7
 have e42 : (n.op == 42) = false := beq_eq_false_iff_ne.2 p42
 obtain ⟨o, s, nm, nu, ks⟩ := n
 simp only [F118, e1, e3, e2, e7, e42, iteO_false] at h1
 have hnm : nm.toList = (⟨#[]⟩ : ByteArray).toList := by
   cases hc : nm.toList == (⟨#[]⟩ : ByteArray).toList with
   | true => exact beq_iff_eq.1 hc
   | false => rw [hc] at h1; cases h1
 have hs : s = 0 := by
   rw [hnm, beq_self_eq_true] at h1
   cases hc : s == 0 with
   | true => exact beq_iff_eq.1 hc
   | false => simp only [hc, iteO_true, iteO_false] at h1; cases h1
 have hu : nu = 0 := by
   rw [hnm, beq_self_eq_true, hs] at h1
   cases hc : nu == 0 with
   | true => exact beq_iff_eq.1 hc
   | false => rw [hc] at h1; cases h1
 have := ba_inj hnm
 subst this; subst hs; subst hu
 rfl
theorem sortedR_kids {n : Node} (h : sortedR n = true) : ownA n = true ∧ shapeB n.op (n.kids.map sortS) = true ∧ ∀ k ∈ n.kids, sortedR k = true := by
 rw [sortedR_eq] at h
 simp only [nodeB, Bool.and_eq_true, List.all_eq_true] at h
 exact ⟨h.1.1, h.1.2, h.2⟩
theorem form_list {n : Node} {l : List Int} (h : sortedR n = true) (hp : plainOp n.op) (hf : F153 n.op = some (l, true)) : n = nd n.op n.kids ∧ n.kids.map sortS = l ∧ ∀ k ∈ n.kids, sortedR k = true := by
 obtain ⟨h1, h2, h3⟩ := sortedR_kids h
 refine ⟨own_plain h1 hp, ?_, h3⟩
 simp only [shapeB, hf, Option.getD_some, cond_true, beq_iff_eq] at h2
 exact h2
theorem map2 {α β : Type} {f : α → β} {l : List α} {x y : β} (h : l.map f = [x, y]) : ∃ a b, l = [a, b] ∧ f a = x ∧ f b = y := by
 match l, h with
 | [a, b], h => simp at h; exact ⟨a, b, rfl, h.1, h.2⟩
theorem map1 {α β : Type} {f : α → β} {l : List α} {x : β} (h : l.map f = [x]) : ∃ a, l = [a] ∧ f a = x := by
 match l, h with
 | [a], h => simp at h; exact ⟨a, rfl, h⟩
theorem form2 {n : Node} {k x y : Int} (h : sortedR n = true) (ho : n.op = k) (hp : plainOp k) (hf : F153 k = some ([x, y], true)) : ∃ a b, n = nd k [a, b] ∧ sortS a = x ∧ sortS b = y ∧ sortedR a = true ∧ sortedR b = true := by
 obtain ⟨h1, h2, h3⟩ := form_list h (by rw [ho]; exact hp) (by rw [ho]; exact hf)
 obtain ⟨a, b, hk, ha, hb⟩ := map2 h2
 rw [ho, hk] at h1
 rw [hk] at h3
 exact ⟨a, b, h1, ha, hb, h3 a (by simp), h3 b (by simp)⟩
theorem form1 {n : Node} {k x : Int} (h : sortedR n = true) (ho : n.op = k) (hp : plainOp k) (hf : F153 k = some ([x], true)) : ∃ a, n = nd k [a] ∧ sortS a = x ∧ sortedR a = true := by
 obtain ⟨h1, h2, h3⟩ := form_list h (by rw [ho]; exact hp) (by rw [ho]; exact hf)
 obtain ⟨a, hk, ha⟩ := map1 h2
 rw [ho, hk] at h1
 rw [hk] at h3
 exact ⟨a, h1, ha, h3 a (by simp)⟩
theorem form0 {n : Node} {k : Int} (h : sortedR n = true) (ho : n.op = k) (hp : plainOp k) (hf : F153 k = some ([], true)) : n = nd k [] := by
 obtain ⟨h1, h2, h3⟩ := form_list h (by rw [ho]; exact hp) (by rw [ho]; exact hf)
 rw [ho, List.map_eq_nil_iff.1 h2] at h1
 exact h1
end Go.Abs.Try
namespace Go.Abs.Try
set_option maxRecDepth 100000
def cB (x y : List UInt8) : Int := if x < y then -1 else if x = y then 0 else 1
theorem cmpB_eq : ∀ x y : List UInt8, Lib.compareBytes x y = cB x y
 | [], [] => by simp [Lib.compareBytes, cB]
 | [], b :: y => by simp [Lib.compareBytes, cB]
 | a :: x, [] => by simp [Lib.compareBytes, cB]
 | a :: x, b :: y => by
   have ih := cmpB_eq x y
   simp only [cB] at ih
   simp only [Lib.compareBytes, cB, List.cons_lt_cons_iff, List.cons.injEq, ih]
   by_cases h1 : a < b
   · simp [h1]
   · by_cases h2 : b < a
     · have h3 : a ≠ b := fun e => by subst e; exact UInt8.lt_irrefl _ h2
       simp [h1, h2, h3]
     · have h3 : a = b := UInt8.le_antisymm (UInt8.not_lt.1 h2) (UInt8.not_lt.1 h1)
       simp [h3, UInt8.lt_irrefl]
def sg (a b : Int) : Int := if a < b then -1 else if a > b then 1 else 0
theorem sg78 (a b : Int) : F78 a b = some (sg a b) := by
 simp only [F78, sg, iteO_if, decide_eq_true_eq]
 repeat' split
 all_goals rfl
theorem sg80 (a b : Int) : F80 a b = some (sg a b) := by
 simp only [F80, sg, iteO_if, decide_eq_true_eq]
 repeat' split
 all_goals rfl
theorem sg81 (a b : Int) : F81 a b = some (sg a b) := by
 simp only [F81, sg, iteO_if, decide_eq_true_eq]
 repeat' split
 all_goals rfl
theorem s79 (a b : ByteArray) : F79 a b = some (cB a.toList b.toList) := by
 rw [F79, cmpS, cmpB_eq, ba_toList, ba_toList]
def cmb (u v : Int) : Int := if u = 0 then v else u
def TT (x y z : Int) : Prop := (x = 0 → y = 0 → z = 0) ∧ (x ≤ 0 → y ≤ 0 → z ≤ 0 ∧ (z = 0 → x = 0 ∧ y = 0))
theorem cmb_neg (u v : Int) : cmb (-u) (-v) = -cmb u v := by
 unfold cmb; split <;> split <;> omega
theorem cmb_TT {x y z x' y' z' : Int} (h : TT x y z) (h' : x = 0 → y = 0 → TT x' y' z') : TT (cmb x x') (cmb y y') (cmb z z') := by
 obtain ⟨h1, h2⟩ := h
 by_cases hx : x = 0
 · by_cases hy : y = 0
   · have hz := h1 hx hy
     obtain ⟨h3, h4⟩ := h' hx hy
     simp only [cmb, hx, hy, hz, if_true]
     exact ⟨h3, h4⟩
   · simp only [cmb, hx, hy, if_true, if_false]
     refine ⟨fun _ h => absurd h hy, fun _ h4 => ?_⟩
     obtain ⟨h5, h6⟩ := h2 (by omega) h4
     have hz : z ≠ 0 := fun e => hy (h6 e).2
     rw [if_neg hz]
     exact ⟨h5, fun e => absurd e hz⟩
 · by_cases hy : y = 0
   · simp only [cmb, hx, hy, if_true, if_false]
     refine ⟨fun h => absurd h hx, fun h3 _ => ?_⟩
     obtain ⟨h5, h6⟩ := h2 h3 (by omega)
     have hz : z ≠ 0 := fun e => hx (h6 e).1
     rw [if_neg hz]
     exact ⟨h5, fun e => absurd e hz⟩
   · simp only [cmb, hx, hy, if_false]
     refine ⟨fun h => absurd h hx, fun h3 h4 => ?_⟩
     obtain ⟨h5, h6⟩ := h2 h3 h4
     have hz : z ≠ 0 := fun e => hx (h6 e).1
     rw [if_neg hz]
     exact ⟨h5, fun e => absurd e hz⟩
theorem sg_neg (a b : Int) : sg b a = -sg a b := by
 unfold sg
 by_cases h1 : a < b
 · have h2 : ¬ b < a := by omega
   simp [h1, h2]
 · by_cases h2 : b < a
   · simp [h1, h2]
   · simp [h1, h2]
theorem sg_spec (a b : Int) : (sg a b = -1 ∧ a < b) ∨ (sg a b = 0 ∧ a = b) ∨ (sg a b = 1 ∧ a > b) := by
 unfold sg
 by_cases h1 : a < b
 · exact .inl ⟨if_pos h1, h1⟩
 · by_cases h2 : a > b
   · exact .inr (.inr ⟨by rw [if_neg h1, if_pos h2], h2⟩)
   · exact .inr (.inl ⟨by rw [if_neg h1, if_neg h2], by omega⟩)
theorem sg_TT (a b c : Int) : TT (sg a b) (sg b c) (sg a c) := by
 have h1 := sg_spec a b
 have h2 := sg_spec b c
 have h3 := sg_spec a c
 exact ⟨fun x y => by omega, fun x y => ⟨by omega, fun z => ⟨by omega, by omega⟩⟩⟩
theorem cB_neg (x y : List UInt8) : cB y x = -cB x y := by
 unfold cB
 rcases list_tri x y with h | h | h
 · have h2 : ¬ y < x := fun h' => List.lt_irrefl x (List.lt_trans h h')
   have h3 : y ≠ x := fun e => by subst e; exact List.lt_irrefl _ h
   simp [h, h2, h3]
 · subst h; simp [List.lt_irrefl]
 · have h2 : ¬ x < y := fun h' => List.lt_irrefl x (List.lt_trans h' h)
   have h3 : x ≠ y := fun e => by subst e; exact List.lt_irrefl _ h
   simp [h, h2, h3]
theorem cB_zero {x y : List UInt8} (h : cB x y = 0) : x = y := by
 unfold cB at h
 by_cases h1 : x < y
 · simp [h1] at h
 · by_cases h2 : x = y
   · exact h2
   · simp [h1, h2] at h
theorem cB_self (x : List UInt8) : cB x x = 0 := by simp [cB, List.lt_irrefl]
theorem cB_lt {x y : List UInt8} (h : x < y) : cB x y = -1 := by simp [cB, h]
theorem cB_le {x y : List UInt8} (h : cB x y ≤ 0) : x < y ∨ x = y := by
 unfold cB at h
 by_cases h1 : x < y
 · exact .inl h1
 · by_cases h2 : x = y
   · exact .inr h2
   · simp [h1, h2] at h
theorem cB_TT (x y z : List UInt8) : TT (cB x y) (cB y z) (cB x z) := by
 constructor
 · intro h1 h2
   rw [cB_zero h1, cB_zero h2, cB_self]
 · intro h1 h2
   rcases cB_le h1 with h1 | h1 <;> rcases cB_le h2 with h2 | h2
   · rw [cB_lt (List.lt_trans h1 h2)]; exact ⟨by omega, fun h => by omega⟩
   · subst h2; rw [cB_lt h1]; exact ⟨by omega, fun h => by omega⟩
   · subst h1; rw [cB_lt h2]; exact ⟨by omega, fun h => by omega⟩
   · subst h1; subst h2; rw [cB_self]; exact ⟨by omega, fun _ => ⟨rfl, rfl⟩⟩
mutual
def cmpR : Node → Node → Int
  | ⟨o, s, nm, nu, ks⟩, b => cmb (sg o b.op) (cmb (sg s b.sortf) (cmb (cB nm.toList b.name.toList) (cmb (sg nu b.num) (cmb (sg ks.length b.kids.length) (cmpL ks b.kids)))))
def cmpL : List Node → List Node → Int
  | [], _ => 0
  | x :: xs, l => match l with
    | [] => 0
    | y :: ys => cmb (cmpR x y) (cmpL xs ys)
end
mutual
theorem cmpR_neg : ∀ a b : Node, cmpR b a = -cmpR a b
  | ⟨o, s, nm, nu, ks⟩, ⟨o', s', nm', nu', ks'⟩ => by
    simp only [cmpR, ← cmb_neg, sg_neg o o', sg_neg s s', cB_neg nm.toList nm'.toList, sg_neg nu nu', sg_neg (ks.length : Int) ks'.length, cmpL_neg ks ks']
theorem cmpL_neg : ∀ a b : List Node, cmpL b a = -cmpL a b
  | [], [] => by simp [cmpL]
  | [], y :: ys => by simp [cmpL]
  | x :: xs, [] => by simp [cmpL]
  | x :: xs, y :: ys => by simp only [cmpL, ← cmb_neg, cmpR_neg x y, cmpL_neg xs ys]
end
theorem sg_zero {a b : Int} (h : sg a b = 0) : a = b := by
 unfold sg at h
 by_cases h1 : a < b
 · simp [h1] at h
 · by_cases h2 : a > b
   · simp [h1, h2] at h
   · omega
mutual
theorem cmpR_TT : ∀ a b c : Node, TT (cmpR a b) (cmpR b c) (cmpR a c)
  | ⟨o, s, nm, nu, ks⟩, ⟨o', s', nm', nu', ks'⟩, ⟨o2, s2, nm2, nu2, ks2⟩ => by
    simp only [cmpR]
    refine cmb_TT (sg_TT _ _ _) fun _ _ => cmb_TT (sg_TT _ _ _) fun _ _ => cmb_TT (cB_TT _ _ _) fun _ _ => cmb_TT (sg_TT _ _ _) fun _ _ => cmb_TT (sg_TT _ _ _) fun h1 h2 => ?_
    have h1 := sg_zero h1
    have h2 := sg_zero h2
    exact cmpL_TT ks ks' ks2 (by omega) (by omega)
theorem cmpL_TT : ∀ a b c : List Node, a.length = b.length → b.length = c.length → TT (cmpL a b) (cmpL b c) (cmpL a c)
  | [], [], [], _, _ => by simp [cmpL, TT]
  | x :: xs, y :: ys, z :: zs, h1, h2 => by
    simp only [cmpL]
    exact cmb_TT (cmpR_TT x y z) fun _ _ => cmpL_TT xs ys zs (by simpa using h1) (by simpa using h2)
  | [], _ :: _, _, h1, _ => by simp at h1
  | _ :: _, [], _, h1, _ => by simp at h1
  | _, [], _ :: _, _, h2 => by simp at h2
  | _, _ :: _, [], _, h2 => by simp at h2
end
theorem cmpR_self (a : Node) : cmpR a a = 0 := by
 have := cmpR_neg a a
 omega
end Go.Abs.Try
