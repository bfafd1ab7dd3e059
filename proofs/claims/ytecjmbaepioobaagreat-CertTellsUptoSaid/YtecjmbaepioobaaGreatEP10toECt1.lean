import Derived.Test.YtecjmbaepioobaaGreatEP1toEP9
import Derived.Test.YtecjmbaepioobaaGreatED
import Derived.Test.YtecjmbaepioobaaGreatIns
set_option linter.unusedSimpArgs false
set_option linter.unusedVariables false
namespace Go.Abs.Try
set_option maxRecDepth 100000
theorem cmpR_eq (a b : Node) : cmpR a b = cmb (sg a.op b.op) (cmb (sg a.sortf b.sortf) (cmb (cB a.name.toList b.name.toList) (cmb (sg a.num b.num) (cmb (sg a.kids.length b.kids.length) (cmpL a.kids b.kids))))) := by
 cases a; simp only [cmpR]
theorem iteO_cmb (u : Int) (x : Option Int) (v : Int) (h : u = 0 → x = some v) : iteO (u == 0) x (some u) = some (cmb u v) := by
 by_cases hu : u = 0
 · have e : (u == 0) = true := beq_iff_eq.2 hu
   rw [e, iteO_true, h hu, cmb, if_pos hu]
 · have e : (u == 0) = false := beq_eq_false_iff_ne.2 hu
   rw [e, iteO_false, cmb, if_neg hu]
theorem kids18 (self : Node → Node → Option Int) (b : Node) : ∀ (ks : List Node) (N i : Nat), (∀ x ∈ ks, ∀ y, self x y = some (cmpR x y)) → ks.length = (b.kids.drop i).length → ks.length < N → foldN (F18_s1 self b) F18_f1 N ks i () = some (cmpL ks (b.kids.drop i))
 | [], N, i, _, _, hN => by
   obtain ⟨M, rfl⟩ : ∃ M, N = M + 1 := ⟨N - 1, by simp at hN; omega⟩
   simp only [foldN, F18_f1, cmpL]
 | x :: xs, N, i, hs, hl, hN => by
   obtain ⟨M, rfl⟩ : ∃ M, N = M + 1 := ⟨N - 1, by simp at hN; omega⟩
   simp only [List.length_cons] at hl hN
   have hi : i < b.kids.length := by simp at hl; omega
   have hd := List.drop_eq_getElem_cons hi
   have ha : atO b.kids (i : Int) = some b.kids[i] := atO_get (List.getElem?_eq_getElem hi)
   have ih := kids18 self b xs M (i + 1) (fun x hx => hs x (by simp [hx])) (by simp at hl ⊢; omega) (by omega)
   rw [hd, cmpL]
   simp only [foldN, F18_s1, ha, bindO_some, hs x (by simp)]
   by_cases hz : cmpR x b.kids[i] = 0
   · have e : (cmpR x b.kids[i] == 0) = true := beq_iff_eq.2 hz
     simp only [e, iteO_true, bindO_some, cmb, hz, if_true]
     exact ih
   · have e : (cmpR x b.kids[i] == 0) = false := beq_eq_false_iff_ne.2 hz
     simp only [e, iteO_false, bindO_some, cmb, hz, if_false]
theorem cmp18 : ∀ (N : Nat) (a b : Node), a.size < N → F18 N a b = some (cmpR a b)
 | 0, a, _, h => absurd h (Nat.not_lt_zero _)
 | N + 1, a, b, h => by
   have hk := kids_len a
   show F18b (F18 N) N a b = _
   rw [cmpR_eq]
   simp only [F18b, sg78, sg80, s79, bindO_some]
   refine iteO_cmb _ _ _ fun _ => iteO_cmb _ _ _ fun _ => iteO_cmb _ _ _ fun _ => iteO_cmb _ _ _ fun _ => iteO_cmb _ _ _ fun hl => ?_
   have hl := sg_zero hl
   have := kids18 (F18 N) b a.kids N 0 (fun x hx y => cmp18 N x y (by have := kids_size hx; omega)) (by simp; omega) (by omega)
   simpa using this
theorem kids19 (self : Node → Node → Option Int) (a b : Node) (hle : a.kids.length ≤ 4000000) (hl : a.kids.length = b.kids.length) (hs : ∀ x ∈ a.kids, ∀ y, self x y = some (cmpR x y)) : ∀ (m i N : Nat) (k : Int), i + m = a.kids.length → m + 1 < N → whileN (F19_s3 self a b) N (k, (i : Int)) = some (cmb k (cmpL (a.kids.drop i) (b.kids.drop i)))
 | 0, i, N, k, h, hN => by
   obtain ⟨M, rfl⟩ : ∃ M, N = M + 1 := ⟨N - 1, by omega⟩
   have hd : decide ((i : Int) < (a.kids.length : Int)) = false := decide_eq_false (by omega)
   have h0 : a.kids.drop i = [] := List.drop_eq_nil_iff.2 (by omega)
   rw [h0, cmpL]
   simp only [whileN, F19_s3, hd, iteO_false]
   by_cases hk : k = 0
   · subst hk; rfl
   · have e : (k == 0) = false := beq_eq_false_iff_ne.2 hk
     simp only [e, iteO_false, bindO_some, cmb, hk, if_false]
 | m + 1, i, N, k, h, hN => by
   obtain ⟨M, rfl⟩ : ∃ M, N = M + 1 := ⟨N - 1, by omega⟩
   have h1 : i < a.kids.length := by omega
   have h2 : i < b.kids.length := by omega
   have hd : decide ((i : Int) < (a.kids.length : Int)) = true := decide_eq_true (by omega)
   have a1 : atO a.kids (i : Int) = some a.kids[i] := atO_get (List.getElem?_eq_getElem h1)
   have a2 : atO b.kids (i : Int) = some b.kids[i] := atO_get (List.getElem?_eq_getElem h2)
   have hw : IntKind.i64.wrap ((i : Int) + 1) = ((i + 1 : Nat) : Int) := by rw [wrap_id (by omega)]; omega
   have ih := kids19 self a b hle hl hs m (i + 1) M (cmpR a.kids[i] b.kids[i]) (by omega) (by omega)
   rw [List.drop_eq_getElem_cons h1, List.drop_eq_getElem_cons h2, cmpL]
   by_cases hk : k = 0
   · subst hk
     have e : ((0 : Int) == 0) = true := rfl
     simp only [whileN, F19_s3, e, hd, iteO_true, a1, a2, bindO_some, hs _ (List.getElem_mem h1), hw, ih, cmb, if_true]
   · have e : (k == 0) = false := beq_eq_false_iff_ne.2 hk
     simp only [whileN, F19_s3, e, iteO_false, bindO_some, cmb, hk, if_false]
theorem cmp19 : ∀ (N : Nat) (a b : Node), a.size + 1 < N → a.size ≤ 1048576 → F19 N a b = some (cmpR a b)
 | 0, a, _, h, _ => absurd h (Nat.not_lt_zero _)
 | N + 1, a, b, h, hb => by
   have hk := kids_len a
   have hp := size_pos a
   obtain ⟨M, rfl⟩ : ∃ M, N = M + 1 := ⟨N - 1, by omega⟩
   show F19b (F19 (M + 1)) (M + 1) a b = _
   rw [cmpR_eq]
   simp only [F19b, sg81, bindO_some]
   have w4 : ∀ z : Int, whileN (F19_s4 z) (M + 1) () = some z := fun z => rfl
   have w5 : ∀ z : Int, whileN (F19_s5 z) (M + 1) () = some z := fun z => rfl
   have w6 : ∀ z : Int, whileN (F19_s6 z) (M + 1) () = some z := fun z => rfl
   have w1 : whileN F19_s1 (M + 1) () = some (-1) := rfl
   have w2 : whileN F19_s2 (M + 1) () = some 1 := rfl
   simp only [w1, w2, w4, w5, w6]
   refine iteO_cmb _ _ _ fun _ => iteO_cmb _ _ _ fun _ => ?_
   rw [bytes_lt]
   by_cases h1 : a.name.toList < b.name.toList
   · rw [decide_eq_true h1, iteO_true, cB_lt h1]; rfl
   · rw [decide_eq_false h1, iteO_false]
     by_cases h2 : a.name.toList = b.name.toList
     · have e : (a.name.toList == b.name.toList) = true := beq_iff_eq.2 h2
       rw [e, Bool.false_or, iteO_true, h2, cB_self]
       have : ∀ v, cmb 0 v = v := fun v => if_pos rfl
       rw [this]
       refine iteO_cmb _ _ _ fun _ => ?_
       by_cases hl : a.kids.length = b.kids.length
       · have := kids19 (F19 (M + 1)) a b (by omega) hl (fun x hx y => cmp19 (M + 1) x y (by have := kids_size hx; omega) (by have := kids_size hx; omega)) a.kids.length 0 (M + 1) (sg a.kids.length b.kids.length) (by omega) (by omega)
         simpa using this
       · have hz : sg (a.kids.length : Int) b.kids.length ≠ 0 := fun e => hl (by have := sg_zero e; omega)
         have e : (sg (a.kids.length : Int) b.kids.length == 0) = false := beq_eq_false_iff_ne.2 hz
         simp only [whileN, F19_s3, e, iteO_false, bindO_some, cmb, hz, if_false]
     · have e : (a.name.toList == b.name.toList) = false := beq_eq_false_iff_ne.2 h2
       rw [e, Bool.false_or, iteO_false]
       have : cB a.name.toList b.name.toList = 1 := by simp [cB, h1, h2]
       rw [this]; rfl
end Go.Abs.Try
namespace Go.Abs.Try
set_option maxRecDepth 100000
theorem cmb_zero {u v : Int} (h : cmb u v = 0) : u = 0 ∧ v = 0 := by
 unfold cmb at h
 split at h
 · exact ⟨by assumption, h⟩
 · exact absurd h (by assumption)
mutual
theorem cmpR_zero : ∀ a b : Node, cmpR a b = 0 → a = b
  | ⟨o, s, nm, k, ks⟩, ⟨o', s', nm', k', ks'⟩, h => by
    rw [cmpR_eq] at h
    obtain ⟨h1, h⟩ := cmb_zero h
    obtain ⟨h2, h⟩ := cmb_zero h
    obtain ⟨h3, h⟩ := cmb_zero h
    obtain ⟨h4, h⟩ := cmb_zero h
    obtain ⟨h5, h⟩ := cmb_zero h
    have e1 := sg_zero h1; have e2 := sg_zero h2; have e3 := ba_inj (cB_zero h3); have e4 := sg_zero h4; have e5 := sg_zero h5
    simp only at e1 e2 e3 e4 e5 h
    have e6 := cmpL_zero ks ks' (by omega) h
    subst e1; subst e2; subst e3; subst e4; subst e6; rfl
theorem cmpL_zero : ∀ a b : List Node, a.length = b.length → cmpL a b = 0 → a = b
  | [], [], _, _ => rfl
  | [], _ :: _, h, _ => by simp at h
  | _ :: _, [], h, _ => by simp at h
  | a :: l, b :: r, hl, h => by
    rw [cmpL] at h
    obtain ⟨h1, h2⟩ := cmb_zero h
    rw [cmpR_zero a b h1, cmpL_zero l r (by simpa using hl) h2]
end
end Go.Abs.Try
namespace Go.Abs.Try
set_option maxRecDepth 100000
open Classical in
theorem eq20 (N : Nat) (a b : Node) (h : a.size < N) : F20 N a b = some (decide (a = b)) := by
  unfold F20
  rw [cmp18 N a b h, bindO_some]
  congr 1
  rw [Bool.eq_iff_iff, beq_iff_eq, decide_eq_true_eq]
  exact ⟨cmpR_zero a b, fun e => by rw [e]; exact cmpR_self b⟩
open Classical in
theorem eq21 (N : Nat) (a b : Node) (h : a.size + 1 < N) (hb : a.size ≤ 1048576) : F21 N a b = some (decide (a = b)) := by
  unfold F21
  rw [cmp19 N a b h hb, bindO_some]
  congr 1
  rw [Bool.eq_iff_iff, beq_iff_eq, decide_eq_true_eq]
  exact ⟨cmpR_zero a b, fun e => by rw [e]; exact cmpR_self b⟩
where plainB (k : Int) : Bool := !(k == 1) && !(k == 3) && !(k == 2) && !(k == 7) && !(k == 42)
theorem plain_of (k : Int) (h : (k == 1 || k == 3 || k == 2 || k == 7 || k == 42) = false) : plainOp k := by
 simp only [Bool.or_eq_false_iff, beq_eq_false_iff_ne] at h
 exact ⟨h.1.1.1.1, h.1.1.1.2, h.1.1.2, h.1.2, h.2⟩
theorem fNot {n : Node} (h : sortedR n = true) (ho : n.op = 32) : ∃ a, n = nd 32 [a] ∧ sortS a = 2 ∧ sortedR a = true := form1 h ho (plain_of 32 rfl) rfl
theorem fTrue {n : Node} (h : sortedR n = true) (ho : n.op = 30) : n = nd 30 [] := form0 h ho (plain_of 30 rfl) rfl
theorem fAnd {n : Node} (h : sortedR n = true) (ho : n.op = 33) : ∃ a b, n = nd 33 [a, b] ∧ sortS a = 2 ∧ sortS b = 2 ∧ sortedR a = true ∧ sortedR b = true := form2 h ho (plain_of 33 rfl) rfl
theorem fOr {n : Node} (h : sortedR n = true) (ho : n.op = 34) : ∃ a b, n = nd 34 [a, b] ∧ sortS a = 2 ∧ sortS b = 2 ∧ sortedR a = true ∧ sortedR b = true := form2 h ho (plain_of 34 rfl) rfl
theorem fImp {n : Node} (h : sortedR n = true) (ho : n.op = 35) : ∃ a b, n = nd 35 [a, b] ∧ sortS a = 2 ∧ sortS b = 2 ∧ sortedR a = true ∧ sortedR b = true := form2 h ho (plain_of 35 rfl) rfl
theorem fIff {n : Node} (h : sortedR n = true) (ho : n.op = 36) : ∃ a b, n = nd 36 [a, b] ∧ sortS a = 2 ∧ sortS b = 2 ∧ sortedR a = true ∧ sortedR b = true := form2 h ho (plain_of 36 rfl) rfl
end Go.Abs.Try
namespace Go.Abs.Try
set_option maxRecDepth 100000
end Go.Abs.Try
namespace Go.Abs.Try
set_option maxRecDepth 100000
end Go.Abs.Try
namespace Go.Abs.Try
set_option maxRecDepth 100000
end Go.Abs.Try
namespace Go.Abs.Try
set_option maxRecDepth 100000
end Go.Abs.Try
namespace Go.Abs.Try
theorem cmp_lt1 {a b c : Node} (h1 : cmpR a b < 0) (h2 : cmpR b c ≤ 0) : cmpR a c < 0 := by
 have h := (cmpR_TT a b c).2 (by omega) h2
 rcases Int.lt_or_eq_of_le h.1 with h3 | h3
 · exact h3
 · have := (h.2 h3).1; omega
theorem cmp_lt2 {a b c : Node} (h1 : cmpR a b ≤ 0) (h2 : cmpR b c < 0) : cmpR a c < 0 := by
 have h := (cmpR_TT a b c).2 h1 (by omega)
 rcases Int.lt_or_eq_of_le h.1 with h3 | h3
 · exact h3
 · have := (h.2 h3).2; omega
theorem cmp_sym {a b : Node} (h : cmpR a b = 0) : cmpR b a = 0 := by rw [cmpR_neg, h]; rfl
end Go.Abs.Try
namespace Go.Abs
end Go.Abs
namespace Go.Abs.Try
set_option maxRecDepth 100000
end Go.Abs.Try
namespace Go.Abs.Try
set_option maxRecDepth 100000
end Go.Abs.Try
namespace Go.Abs.Try
set_option maxRecDepth 100000
end Go.Abs.Try
namespace Go.Abs.Try
set_option maxRecDepth 100000
end Go.Abs.Try
namespace Go.Abs.Try
set_option maxRecDepth 100000
theorem drop_nil {α : Type} {l : List α} {i : Nat} (hi : i ≤ l.length) (h : l.drop i = []) : i = l.length := by
 have := congrArg List.length h
 simp at this; omega
end Go.Abs.Try
namespace Go.Abs.Try
set_option maxRecDepth 100000
end Go.Abs.Try
namespace Go.Abs.Try
set_option maxRecDepth 100000
end Go.Abs.Try
namespace Go.Abs.Try
set_option maxRecDepth 100000
end Go.Abs.Try
namespace Go.Abs.Try
set_option maxRecDepth 100000
end Go.Abs.Try
namespace Go.Abs.Try
set_option maxRecDepth 100000
end Go.Abs.Try
namespace Go.Abs.Try
set_option maxRecDepth 100000
end Go.Abs.Try
namespace Go.Abs.Try
set_option maxRecDepth 100000
def SrtN (l : List Node) : Prop := l.Pairwise fun m k => cmpR m k < 0
def putR (n : Node) : List Node → List Node
 | [] => [n]
 | x :: l => if cmpR n x = 0 then x :: l else if cmpR n x < 0 then n :: x :: l else x :: putR n l
theorem putR_mem (n : Node) : ∀ (l : List Node), ∀ x ∈ putR n l, x = n ∨ x ∈ l
 | [], x, h => by simp [putR] at h; exact .inl h
 | y :: l, x, h => by
   rw [putR] at h
   split at h
   · exact .inr h
   · split at h
     · simp only [List.mem_cons] at h ⊢; exact h
     · rcases List.mem_cons.1 h with rfl | h
       · exact .inr (by simp)
       · rcases putR_mem n l x h with h | h
         · exact .inl h
         · exact .inr (by simp [h])
theorem putR_old (n : Node) : ∀ (l : List Node), ∀ x ∈ l, x ∈ putR n l
 | y :: l, x, h => by
   rw [putR]
   split
   · exact h
   · split
     · simp [List.mem_cons.1 h]
     · rcases List.mem_cons.1 h with rfl | h
       · simp
       · simp [putR_old n l x h]
theorem putR_new (n : Node) : ∀ (l : List Node), ∃ x ∈ putR n l, cmpR x n = 0
 | [] => ⟨n, by simp [putR], cmpR_self n⟩
 | y :: l => by
   rw [putR]
   split
   · rename_i h; exact ⟨y, by simp, cmp_sym h⟩
   · split
     · exact ⟨n, by simp, cmpR_self n⟩
     · obtain ⟨x, h1, h2⟩ := putR_new n l
       exact ⟨x, by simp [h1], h2⟩
theorem putR_srt (n : Node) : ∀ (l : List Node), SrtN l → SrtN (putR n l)
 | [], _ => by simp [putR, SrtN]
 | y :: l, h => by
   have hy := (List.pairwise_cons.1 h).1
   have hl := (List.pairwise_cons.1 h).2
   rw [putR]
   split
   · exact h
   · split
     · rename_i h1
       refine List.pairwise_cons.2 ⟨fun x hx => ?_, h⟩
       rcases List.mem_cons.1 hx with rfl | hx
       · exact h1
       · exact cmp_lt2 (by omega) (hy x hx)
     · rename_i h0 h1
       refine List.pairwise_cons.2 ⟨fun x hx => ?_, putR_srt n l hl⟩
       rcases putR_mem n l x hx with rfl | hx
       · rw [cmpR_neg]; omega
       · exact hy x hx
theorem putR_len (n : Node) : ∀ (l : List Node), (putR n l).length ≤ l.length + 1
 | [] => by simp [putR]
 | y :: l => by
   rw [putR]
   split
   · simp
   · split
     · simp
     · have := putR_len n l
       simp; omega
theorem fits64_le {n : Nat} (h : n ≤ 8388608) : fits n 64 = true := by
 simp only [fits, roomMax]; exact decide_eq_true (by omega)
theorem copy143 (N : Nat) (n : Node) (hn : n.size + 1 < N ∧ n.size ≤ 1048576) : ∀ (l : List Node) (M i : Nat) (out : List Node), l.length < M → out.length + l.length ≤ 5000000 → foldN (F143_s1 N n) (F143_f1 n) M l i (out, true) = some (out ++ l)
 | [], M, i, out, hM, _ => by
   obtain ⟨K, rfl⟩ : ∃ K, M = K + 1 := ⟨M - 1, by simp at hM; omega⟩
   simp [foldN, F143_f1, iteO_true]
 | x :: l, M, i, out, hM, ho => by
   obtain ⟨K, rfl⟩ : ∃ K, M = K + 1 := ⟨M - 1, by simp at hM; omega⟩
   simp only [List.length_cons] at hM ho
   have hf : fits (out.length + 1) 64 = true := fits64_le (by omega)
   have ih := copy143 N n hn l K (i + 1) (out ++ [x]) (by omega) (by simp; omega)
   simp only [foldN, F143_s1, cmp19 N n x hn.1 hn.2, hf, bindO_some, iteO_true]
   cases cmpR n x == 0 <;> exact ih.trans (by simp)
theorem fold143 (N : Nat) (n : Node) (hn : n.size + 1 < N ∧ n.size ≤ 1048576) : ∀ (l : List Node) (M i : Nat) (out : List Node), SrtN l → l.length < M → out.length + l.length ≤ 4194304 → foldN (F143_s1 N n) (F143_f1 n) M l i (out, false) = some (out ++ putR n l)
 | [], M, i, out, _, hM, ho => by
   obtain ⟨K, rfl⟩ : ∃ K, M = K + 1 := ⟨M - 1, by simp at hM; omega⟩
   have hf : fits (out.length + 1) 64 = true := fits64_le (by simp at ho; omega)
   simp [foldN, F143_f1, hf, putR, iteO_true, iteO_false]
 | x :: l, M, i, out, hs, hM, ho => by
   obtain ⟨K, rfl⟩ : ∃ K, M = K + 1 := ⟨M - 1, by simp at hM; omega⟩
   simp only [List.length_cons] at hM ho
   have hf : fits (out.length + 1) 64 = true := fits64_le (by omega)
   have hf2 : fits (out.length + 1 + 1) 64 = true := fits64_le (by omega)
   simp only [foldN, F143_s1, cmp19 N n x hn.1 hn.2, hf, hf2, bindO_some, iteO_true, iteO_false, putR]
   by_cases h0 : cmpR n x = 0
   · have e : (cmpR n x == 0) = true := beq_iff_eq.2 h0
     have ih := copy143 N n hn l K (i + 1) (out ++ [x]) (by omega) (by simp; omega)
     rw [e, iteO_true, if_pos h0]
     exact ih.trans (by simp)
   · have e : (cmpR n x == 0) = false := beq_eq_false_iff_ne.2 h0
     rw [e, iteO_false, if_neg h0]
     by_cases h1 : cmpR n x < 0
     · have ih := copy143 N n hn l K (i + 1) ((out ++ [n]) ++ [x]) (by omega) (by simp; omega)
       rw [decide_eq_true h1, iteO_true, if_pos h1]
       exact ih.trans (by simp)
     · have ih := fold143 N n hn l K (i + 1) (out ++ [x]) (List.pairwise_cons.1 hs).2 (by omega) (by simp; omega)
       rw [decide_eq_false h1, iteO_false, if_neg h1]
       exact ih.trans (by simp)
theorem put143 (N : Nat) (l : List Node) (n : Node) (hn : n.size + 1 < N ∧ n.size ≤ 1048576) (hs : SrtN l) (hM : l.length < N) (ho : l.length ≤ 4194304) : F143 N l n = some (putR n l) := by
 have := fold143 N n hn l N 0 [] hs hM (by simpa using ho)
 simpa [F143] using this
end Go.Abs.Try
namespace Go.Abs.Try
set_option maxRecDepth 100000
def connB (op : Int) : Bool := (op == 30) || ((op == 31) || ((op == 32) || ((op == 33) || ((op == 34) || ((op == 35) || (op == 36))))))
theorem conn1410 (op : Int) : F1410 op = some (connB op) := by
 unfold F1410 connB
 cases op == 30 <;> cases op == 31 <;> cases op == 32 <;> cases op == 33 <;> cases op == 34 <;> cases op == 35 <;> cases op == 36 <;> rfl
theorem conn1412 (n : Node) : F1412 n = some (connB n.op) := by
 unfold F1412 connB
 cases n.op == 30 <;> cases n.op == 31 <;> cases n.op == 32 <;> cases n.op == 33 <;> cases n.op == 34 <;> cases n.op == 35 <;> cases n.op == 36 <;> rfl
theorem conn_ops {op : Int} (h : connB op = true) : op = 30 ∨ op = 31 ∨ op = 32 ∨ op = 33 ∨ op = 34 ∨ op = 35 ∨ op = 36 := by
 simp only [connB, Bool.or_eq_true, beq_iff_eq] at h
 exact h
theorem sorted_of15 (N : Nat) (n : Node) (s : Int) (hN : 4611686018400000000 ≤ N ∧ N ≤ 4611686018427387904) (hb : n.size ≤ 1048576) (h : F15 N n s = some 0) : sortedR n = true ∧ n.size ≤ 4000 := by
 obtain ⟨k, hk, _, _⟩ := levels39 N n (by omega) (by omega)
 have h27 := size27 N n (by omega) (by omega)
 have h72 := sorted72 N n (by omega)
 unfold F15 at h
 cases h0 : decide (s < 0) with
 | true => rw [h0] at h; simp only [iteO_true] at h; injection h with h; omega
 | false =>
 rw [h0] at h; simp only [iteO_false] at h
 cases h5 : decide (s > 5) with
 | true => rw [h5] at h; simp only [iteO_true] at h; injection h with h; omega
 | false =>
 rw [h5] at h; simp only [iteO_false, hk, h27, h72, bindO_some] at h
 cases hx : decide ((n.size : Int) > 4000) with
 | true => rw [hx] at h; simp only [iteO_true] at h; injection h with h; omega
 | false =>
 have hx := of_decide_eq_false hx
 rw [decide_eq_false hx] at h; simp only [iteO_false] at h
 cases hy : decide (k > 100) with
 | true => rw [hy] at h; simp only [iteO_true] at h; injection h with h; omega
 | false =>
 rw [hy] at h; simp only [iteO_false] at h
 cases hs : sortedR n with
 | false => rw [hs] at h; simp only [iteO_false] at h; injection h with h; omega
 | true => exact ⟨rfl, by omega⟩
def K3 (t : Int) : Prop := t = -1 ∨ t = 0 ∨ t = 1
theorem fin_one (n : Node) (ho : n.op = 32) (a u : Int) (ha : K3 a) : ∃ t, F1411_f2 n (a, u) = some t ∧ F1413_f2 n [a] = some t ∧ K3 t := by
 simp only [F1411_f2, F1413_f2, ho]
 rcases ha with rfl | rfl | rfl
 · exact ⟨-1, rfl, rfl, .inl rfl⟩
 · exact ⟨1, rfl, rfl, .inr (.inr rfl)⟩
 · exact ⟨0, rfl, rfl, .inr (.inl rfl)⟩
theorem fin_two (n : Node) (ho : n.op = 33 ∨ n.op = 34 ∨ n.op = 35 ∨ n.op = 36) (a b : Int) (ha : K3 a) (hb : K3 b) : ∃ t, F1411_f2 n (a, b) = some t ∧ F1413_f2 n [a, b] = some t ∧ K3 t := by
 have d : ∀ t : Int, decide (t = -1 ∨ t = 0 ∨ t = 1) = true → K3 t := fun t h => (of_decide_eq_true h : t = -1 ∨ t = 0 ∨ t = 1)
 rcases ho with ho | ho | ho | ho <;> simp only [F1411_f2, F1413_f2, ho] <;> rcases ha with rfl | rfl | rfl <;> rcases hb with rfl | rfl | rfl <;> exact ⟨_, rfl, rfl, d _ rfl⟩
open Classical in
theorem find_both (N : Nat) (n : Node) (truths : List Bool) (hN : 1048600 < N) : ∀ (l : List Node) (M i : Nat), l.length < M → i + l.length = truths.length → (∀ a ∈ l, a.size ≤ 1048576) →
    ∃ t, foldN (F1411_s1 N n truths) F1411_f1 M l i () = some t ∧ foldN (F1413_s1 N n truths) F1413_f1 M l i () = some t ∧ K3 t
  | [], M, i, hM, _, _ => by
    obtain ⟨K, rfl⟩ : ∃ K, M = K + 1 := ⟨M - 1, by simp at hM; omega⟩
    exact ⟨-1, rfl, rfl, .inl rfl⟩
  | x :: l, M, i, hM, hl, hz => by
    obtain ⟨K, rfl⟩ : ∃ K, M = K + 1 := ⟨M - 1, by simp at hM; omega⟩
    simp only [List.length_cons] at hM hl
    have hx := hz x (by simp)
    obtain ⟨t, h1, h2, h3⟩ := find_both N n truths hN l K (i + 1) (by omega) (by omega) (fun a ha => hz a (by simp [ha]))
    have e1 := eq20 N x n (by omega)
    have e2 := eq21 N x n (by omega) (by omega)
    simp only [foldN, F1411_s1, F1413_s1, e1, e2, bindO_some]
    by_cases hxn : x = n
    · have hi : i < truths.length := by omega
      have ha : atO truths (i : Int) = some truths[i] := atO_get (List.getElem?_eq_getElem hi)
      simp only [decide_eq_true hxn, iteO_true, ha, bindO_some]
      cases truths[i] with
      | true => exact ⟨1, rfl, rfl, .inr (.inr rfl)⟩
      | false => exact ⟨0, rfl, rfl, .inr (.inl rfl)⟩
    · simp only [decide_eq_false hxn, iteO_false, bindO_some]
      exact ⟨t, h1, h2, h3⟩
theorem fits8_1 {n : Nat} (h : n ≤ 100) : fits (n + 1) 8 = true := by
 simp only [fits, roomMax]; exact decide_eq_true (by omega)
theorem truth_both (atoms : List Node) (truths : List Bool) (hl : atoms.length = truths.length) (hll : atoms.length ≤ 100000) (hz : ∀ a ∈ atoms, a.size ≤ 1048576) : ∀ (N : Nat) (n : Node), 1048700 + n.size < N → n.size ≤ 1048576 → sortedR n = true →
   ∃ t, F1411 N n atoms truths = some t ∧ F1413 N n atoms truths = some t ∧ K3 t
 | 0, n, h, _, _ => absurd h (Nat.not_lt_zero _)
 | N + 1, n, h, hb, hs => by
   have hkl := kids_len n
   have ih : ∀ k ∈ n.kids, ∃ t, F1411 N k atoms truths = some t ∧ F1413 N k atoms truths = some t ∧ K3 t := fun k hk => truth_both atoms truths hl hll hz N k (by have := kids_size hk; omega) (by have := kids_size hk; omega) (by rw [sortedR_eq, Bool.and_eq_true] at hs; exact List.all_eq_true.1 hs.2 k hk)
   show ∃ t, F1411b (F1411 N) N n atoms truths = some t ∧ F1413b (F1413 N) N n atoms truths = some t ∧ K3 t
   unfold F1411b F1413b
   rw [conn1410, conn1412, bindO_some, bindO_some]
   cases hc : connB n.op with
   | false =>
     rw [iteO_false, iteO_false]
     exact find_both N n truths (by omega) atoms N 0 (by omega) (by omega) hz
   | true =>
     rw [iteO_true, iteO_true]
     obtain ⟨K, rfl⟩ : ∃ K, N = K + 4 := ⟨N - 4, by omega⟩
     have none : n.kids = [] → (n.op = 30 ∨ n.op = 31) → ∃ t, foldN (S := Int × Int) (F1411_s2 (F1411 (K + 4)) atoms truths) (F1411_f2 n) (K + 4) n.kids 0 (-1, -1) = some t ∧ foldN (S := List Int) (F1413_s2 (F1413 (K + 4)) atoms truths) (F1413_f2 n) (K + 4) n.kids 0 [] = some t ∧ K3 t := by
       intro hk ho
       rw [hk]
       simp only [foldN, F1411_f2, F1413_f2]
       rcases ho with ho | ho <;> rw [ho]
       · exact ⟨1, rfl, rfl, .inr (.inr rfl)⟩
       · exact ⟨0, rfl, rfl, .inr (.inl rfl)⟩
     have two : ∀ a b, n.kids = [a, b] → (n.op = 33 ∨ n.op = 34 ∨ n.op = 35 ∨ n.op = 36) → ∃ t, foldN (S := Int × Int) (F1411_s2 (F1411 (K + 4)) atoms truths) (F1411_f2 n) (K + 4) n.kids 0 (-1, -1) = some t ∧ foldN (S := List Int) (F1413_s2 (F1413 (K + 4)) atoms truths) (F1413_f2 n) (K + 4) n.kids 0 [] = some t ∧ K3 t := by
       intro a b hk ho
       obtain ⟨u, a1, a2, a3⟩ := ih a (by rw [hk]; simp)
       obtain ⟨v, b1, b2, b3⟩ := ih b (by rw [hk]; simp)
       obtain ⟨t, t1, t2, t3⟩ := fin_two n ho u v a3 b3
       refine ⟨t, ?_, ?_, t3⟩
       · rw [hk]
         simp only [foldN, F1411_s2, a1, b1, bindO_some]
         exact t1
       · rw [hk]
         simp only [foldN, F1413_s2, a2, b2, bindO_some, List.length_nil, fits8_1 (Nat.zero_le 100), iteO_true, List.nil_append, List.length_cons, fits8_1 (show 0 + 1 ≤ 100 by omega), List.cons_append]
         exact t2
     rcases conn_ops hc with ho | ho | ho | ho | ho | ho | ho
     · obtain e := fTrue hs ho
       exact none (by rw [e]; rfl) (.inl ho)
     · obtain e : n = nd 31 [] := form0 hs ho (plain_of 31 rfl) rfl
       exact none (by rw [e]; rfl) (.inr ho)
     · obtain ⟨a, e, _⟩ := fNot hs ho
       have hk : n.kids = [a] := by rw [e]; rfl
       obtain ⟨u, a1, a2, a3⟩ := ih a (by rw [hk]; simp)
       obtain ⟨t, t1, t2, t3⟩ := fin_one n ho u (-1) a3
       refine ⟨t, ?_, ?_, t3⟩
       · rw [hk]
         simp only [foldN, F1411_s2, a1, bindO_some]
         exact t1
       · rw [hk]
         simp only [foldN, F1413_s2, a2, bindO_some, List.length_nil, fits8_1 (Nat.zero_le 100), iteO_true, List.nil_append]
         exact t2
     · obtain ⟨a, b, e, _⟩ := fAnd hs ho
       exact two a b (by rw [e]; rfl) (.inl ho)
     · obtain ⟨a, b, e, _⟩ := fOr hs ho
       exact two a b (by rw [e]; rfl) (.inr (.inl ho))
     · obtain ⟨a, b, e, _⟩ := fImp hs ho
       exact two a b (by rw [e]; rfl) (.inr (.inr (.inl ho)))
     · obtain ⟨a, b, e, _⟩ := fIff hs ho
       exact two a b (by rw [e]; rfl) (.inr (.inr (.inr ho)))
theorem truth3_both (N : Nat) (hN : 4611686018400000000 ≤ N ∧ N ≤ 4611686018427387904) (n : Node) (hb : n.size ≤ 1048576) (atoms : List Node) (truths : List Bool) (hll : atoms.length ≤ 100000) (hz : ∀ a ∈ atoms, a.size ≤ 1048576) : ∃ r, F1404 N n atoms truths = some r ∧ F1405 N n atoms truths = some r := by
 obtain ⟨c, h14, h15⟩ := check_same N n 2 hN (by omega)
 unfold F1404 F1405
 rw [h14, h15, bindO_some, bindO_some]
 by_cases hc : c = 0
 case neg => rw [beq_eq_false_iff_ne.2 hc]; exact ⟨_, rfl, rfl⟩
 subst hc
 rw [beq_self_eq_true, iteO_true, iteO_true]
 by_cases hl : (atoms.length : Int) = (truths.length : Int)
 case neg => rw [beq_eq_false_iff_ne.2 hl]; exact ⟨_, rfl, rfl⟩
 rw [beq_iff_eq.2 hl, iteO_true, iteO_true]
 obtain ⟨hs, _⟩ := sorted_of15 N n 2 hN (by omega) h15
 obtain ⟨t, t1, t2, _⟩ := truth_both atoms truths (by omega) hll hz N n (by omega) (by omega) hs
 have f1 := foldN_all (step := F1404_s1 N) (fin := F1404_f1 N atoms n truths) (fun x => (!connB x.op) && (F15 N x 2 == some 0)) ((0, 3) : Int × Int) atoms N 0 (by omega) (fun x hx i => by
   obtain ⟨c, g14, g15⟩ := check_same N x 2 hN (by have := hz x hx; omega)
   simp only [F1404_s1, conn1410, bindO_some, g14, g15]
   cases connB x.op with
   | true => rfl
   | false =>
     by_cases h0 : c = 0
     · subst h0; rfl
     · have : (some c == some (0 : Int)) = false := beq_eq_false_iff_ne.2 (fun e => h0 (Option.some.inj e))
       simp only [iteO_false, beq_eq_false_iff_ne.2 h0, this]; rfl)
 have f2 := foldN_all (step := F1405_s1 N) (fin := F1405_f1 N atoms n truths) (fun x => (!connB x.op) && (F15 N x 2 == some 0)) ((0, 3) : Int × Int) atoms N 0 (by omega) (fun x hx i => by
   obtain ⟨c, g14, g15⟩ := check_same N x 2 hN (by have := hz x hx; omega)
   simp only [F1405_s1, conn1412, bindO_some, g15]
   by_cases h0 : c = 0
   · subst h0
     cases connB x.op <;> rfl
   · have : (some c == some (0 : Int)) = false := beq_eq_false_iff_ne.2 (fun e => h0 (Option.some.inj e))
     simp only [iteO_false, beq_eq_false_iff_ne.2 h0, this, Bool.and_false]; rfl)
 rw [f1, f2]
 cases atoms.all (fun x => (!connB x.op) && (F15 N x 2 == some 0)) with
 | false => exact ⟨_, rfl, rfl⟩
 | true =>
   simp only [cond_true, F1404_f1, F1405_f1, t1, t2, bindO_some]
   exact ⟨_, rfl, rfl⟩
end Go.Abs.Try
