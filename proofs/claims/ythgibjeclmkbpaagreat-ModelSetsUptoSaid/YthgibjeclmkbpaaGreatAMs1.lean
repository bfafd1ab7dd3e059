import Derived.Test.YthgibjeclmkbpaaGreatAWt2
set_option linter.unusedSimpArgs false
set_option linter.unusedVariables false
namespace Go.Abs.Try
set_option maxRecDepth 100000
theorem eq1062 (N : Nat) (a b : List Int) : F1062 N a b = F189 N a b := rfl
theorem eq1051 (N : Nat) (a b : Val) : F1051 N a b = F183 N a b := by simp only [F1051, F183, eq1062]
theorem eq1037 (N : Nat) (a b : Entry) : F1037 N a b = F158 N a b := by
 have hs : F1037_s1 N b = F172_s1 N b.entryArgs := by funext s i x; simp only [F1037_s1, F172_s1, eq1051]
 have hf : F1037_f1 = F172_f1 := rfl
 simp only [F1037, F158, F172, hs, hf]
 cases a.entryName.toList == b.entryName.toList <;> cases a.entryVal.valSort == b.entryVal.valSort <;> cases ((a.entryArgs.length : Int) == (b.entryArgs.length : Int)) <;> simp only [iteO_true, iteO_false, bindO_some]
 cases foldN (F172_s1 N b.entryArgs) F172_f1 N a.entryArgs 0 () <;> rfl
theorem fits_cases (x : Int) : (decide (x < (-1152921504606846976)) = true ∧ fitsG x = false) ∨ (decide (x < (-1152921504606846976)) = false ∧ decide (x > 1152921504606846976) = true ∧ fitsG x = false) ∨ (decide (x < (-1152921504606846976)) = false ∧ decide (x > 1152921504606846976) = false ∧ fitsG x = true) := by
 simp only [fitsG, decide_eq_true_eq, decide_eq_false_iff_not, Bool.and_eq_true, Bool.and_eq_false_iff]
 omega
theorem eq1060 (N : Nat) (l : List Int) : F1060 N l = F182 N l := by
 have hs : F1060_s1 l = F182_s1 l := by
   funext s i x
   simp only [F1060_s1, F182_s1, fits181, bindO_some]
   rcases fits_cases x with ⟨h1, h2⟩ | ⟨h1, h2, h3⟩ | ⟨h1, h2, h3⟩ <;> simp only [*, iteO_true, iteO_false]
 have hf : F1060_f1 l = F182_f1 l := rfl
 simp only [F1060, F182, hs, hf]
theorem asc_nil (N : Nat) : F182 (N + 1) [] = some true := rfl
theorem to_fold (l : List Int) : ∃ g : Bool, ∀ (M i : Nat) (fin : Unit → Option Bool), l.length < M → foldN F171_s1 fin M l i () = bif g then fin () else some false := by
 induction l with
 | nil =>
   refine ⟨true, fun M i fin h => ?_⟩
   obtain ⟨K, rfl⟩ : ∃ K, M = K + 1 := ⟨M - 1, by simp at h; omega⟩
   rfl
 | cons x l ih =>
   obtain ⟨g, ih⟩ := ih
   cases hx : x == 0 with
   | true =>
     refine ⟨false, fun M i fin h => ?_⟩
     obtain ⟨K, rfl⟩ : ∃ K, M = K + 1 := ⟨M - 1, by simp at h; omega⟩
     simp only [foldN, F171_s1, hx, iteO_true, bindO_some, cond_false]
   | false =>
     cases hf : fitsG x with
     | false =>
       refine ⟨false, fun M i fin h => ?_⟩
       obtain ⟨K, rfl⟩ : ∃ K, M = K + 1 := ⟨M - 1, by simp at h; omega⟩
       simp only [foldN, F171_s1, hx, iteO_false, bindO_some, fits181, hf, cond_false]
     | true =>
       refine ⟨g, fun M i fin h => ?_⟩
       obtain ⟨K, rfl⟩ : ∃ K, M = K + 1 := ⟨M - 1, by simp at h; omega⟩
       simp only [foldN, F171_s1, hx, iteO_false, iteO_true, bindO_some, fits181, hf]
       exact ih K (i + 1) fin (by simp at h; omega)
theorem eq1047s : F1047_s1 = F171_s1 := by
 funext s i x
 simp only [F1047_s1, F171_s1, fits181, bindO_some]
 cases x == 0
 · rcases fits_cases x with ⟨h1, h2⟩ | ⟨h1, h2, h3⟩ | ⟨h1, h2, h3⟩ <;> simp only [*, iteO_true, iteO_false]
 · rfl
theorem len0 {α : Type} (l : List α) : (decide ((l.length : Int) > 0) = false ∧ ((l.length : Int) == 0) = true ∧ l = []) ∨ (decide ((l.length : Int) > 0) = true ∧ ((l.length : Int) == 0) = false) := by
 cases l with
 | nil => exact .inl ⟨rfl, rfl, rfl⟩
 | cons x l =>
   refine .inr ⟨decide_eq_true (by simp), beq_eq_false_iff_ne.2 (by simp; omega)⟩
theorem eq1047 (N : Nat) (hN : 1048600 < N) (v : Val) (hv : VSmall v) : F1047 N v = F171 N v := by
 obtain ⟨h1, h2, h3⟩ := hv
 obtain ⟨M, rfl⟩ : ∃ M, N = M + 1 := ⟨N - 1, by omega⟩
 obtain ⟨b1, e1, _⟩ := asc182 (M + 1) v.valSet (by omega) (by omega)
 obtain ⟨b2, e2, _⟩ := asc182 (M + 1) v.valAt (by omega) (by omega)
 obtain ⟨g, hg⟩ := to_fold v.valTo
 have hg1 := fun fin => hg (M + 1) 0 fin (by omega)
 have hw : IntKind.i64.wrap ((v.valAt.length : Int) + (v.valTo.length : Int)) = (v.valAt.length : Int) + (v.valTo.length : Int) := wrap_id (by omega)
 have hz : (decide ((v.valAt.length : Int) + (v.valTo.length : Int) > 0) = false ∧ v.valAt = [] ∧ v.valTo = []) ∨ (decide ((v.valAt.length : Int) + (v.valTo.length : Int) > 0) = true ∧ (((v.valTo.length : Int) == (v.valAt.length : Int)) = true → ((v.valAt.length : Int) == 0) = false)) := by
   by_cases hz : v.valAt.length = 0 ∧ v.valTo.length = 0
   · exact .inl ⟨decide_eq_false (by omega), List.length_eq_zero_iff.1 hz.1, List.length_eq_zero_iff.1 hz.2⟩
   · exact .inr ⟨decide_eq_true (by omega), fun h => by have := beq_iff_eq.1 h; exact beq_eq_false_iff_ne.2 (by omega)⟩
 simp only [F1047, F171, eq1060, eq1047s, fits181, bindO_some, hw, e1, e2, hg1, F1047_f1, F171_f1]
 obtain ⟨srt, num, st, at_, to⟩ := v
 simp only at *
 have hn := fits_cases num
 have hl := len0 st
 have hat := len0 at_
 have hb1 : st = [] → b1 = true := fun h => by subst h; injection e1.symm.trans (asc_nil M)
 have hb2 : at_ = [] → b2 = true := fun h => by subst h; injection e2.symm.trans (asc_nil M)
 have hg0 : to = [] → g = true := fun h => by
   subst h
   cases g with
   | true => rfl
   | false => have := hg 1 0 (fun _ => some true) (by simp); cases this
 have hsw : ((to.length : Int) == (at_.length : Int)) = ((at_.length : Int) == (to.length : Int)) := by rw [Bool.eq_iff_iff, beq_iff_eq, beq_iff_eq]; exact eq_comm
 rw [hsw] at hz ⊢
 clear h1 h2 h3 hw hg hg1 e1 e2 hN
 have hn0 : decide (num ≥ 0) = !decide (num < 0) := by cases h : decide (num < 0) <;> simp_all
 rw [hn0]
 have hn01 : (num == 0) = true → (num == 1) = false := fun h => by rw [beq_iff_eq.1 h]; rfl
 have hl2 : (decide ((st.length : Int) > 0) = false ∧ ((st.length : Int) == 0) = true ∧ b1 = true) ∨ (decide ((st.length : Int) > 0) = true ∧ ((st.length : Int) == 0) = false) := hl.imp (fun h => ⟨h.1, h.2.1, hb1 h.2.2⟩) id
 have hz2 : (decide ((at_.length : Int) + (to.length : Int) > 0) = false ∧ ((at_.length : Int) == 0) = true ∧ ((at_.length : Int) == (to.length : Int)) = true ∧ b2 = true ∧ g = true) ∨ (decide ((at_.length : Int) + (to.length : Int) > 0) = true ∧ (((at_.length : Int) == (to.length : Int)) = true → ((at_.length : Int) == 0) = false)) :=
   hz.imp (fun h => ⟨h.1, by rw [h.2.1]; rfl, by rw [h.2.1, h.2.2]; rfl, hb2 h.2.1, hg0 h.2.2⟩) id
 clear hl hz hb1 hb2 hg0 hat hsw
 generalize decide ((at_.length : Int) + (to.length : Int) > 0) = dz at *
 generalize ((at_.length : Int) == (to.length : Int)) = dt at *
 generalize decide ((st.length : Int) > 0) = ds at *
 generalize ((st.length : Int) == 0) = es at *
 generalize ((at_.length : Int) == 0) = ea at *
 generalize fitsG num = fn at *
 generalize decide (num < -1152921504606846976) = n1 at *
 generalize decide (num > 1152921504606846976) = n2 at *
 generalize decide (num < 0) = n3 at *
 generalize (num == 0) = m0 at *
 generalize (num == 1) = m1 at *
 clear hn0
 have r1 : ∀ c : Int, srt = c → (∀ x : Int, (srt == x) = (c == x)) ∧ (∀ x : Int, decide (srt < x) = decide (c < x)) ∧ (∀ x : Int, decide (srt > x) = decide (c > x)) := fun c h => by subst h; exact ⟨fun _ => rfl, fun _ => rfl, fun _ => rfl⟩
 by_cases h1 : srt < 1
 · have q : ∀ x : Int, 1 ≤ x → (srt == x) = false := fun x hx => beq_eq_false_iff_ne.2 (by omega)
   simp only [q 4 (by decide), q 5 (by decide), q 1 (by decide), q 3 (by decide), q 2 (by decide), decide_eq_true h1, iteO_true, iteO_false]
   cases ds <;> cases dz <;> cases n1 <;> cases n2 <;> rfl
 by_cases h2 : srt > 5
 · have q : ∀ x : Int, x ≤ 5 → (srt == x) = false := fun x hx => beq_eq_false_iff_ne.2 (by omega)
   simp only [q 4 (by decide), q 5 (by decide), q 1 (by decide), q 3 (by decide), q 2 (by decide), decide_eq_false h1, decide_eq_true h2, iteO_true, iteO_false]
   cases ds <;> cases dz <;> cases n1 <;> cases n2 <;> rfl
 rcases (show srt = 1 ∨ srt = 2 ∨ srt = 3 ∨ srt = 4 ∨ srt = 5 by omega) with h | h | h | h | h <;> subst h <;> clear h1 h2 r1 <;>
   rcases hl2 with ⟨rfl, rfl, rfl⟩ | ⟨rfl, rfl⟩ <;> rcases hz2 with ⟨rfl, rfl, rfl, rfl, rfl⟩ | ⟨rfl, hz2⟩ <;> rcases hn with ⟨rfl, rfl⟩ | ⟨rfl, rfl, rfl⟩ | ⟨rfl, rfl, rfl⟩ <;>
   simp only [Int.reduceBEq, Int.reduceLT, Int.reduceGT, decide_true, decide_false, iteO_true, iteO_false, bindO_some, Bool.not_true, Bool.not_false, beq_self_eq_true, gt_iff_lt] <;>
   (first | rfl | ((first | cases b1 | skip) <;> (first | rfl | ((first | cases b2 | skip) <;> (first | rfl | ((first | cases g | skip) <;> (first | rfl | ((first | cases m0 | skip) <;> (first | rfl | ((first | cases m1 | skip) <;> (first | rfl | ((first | cases n3 | skip) <;> (first | rfl | ((first | cases dt | skip) <;> (first | rfl | ((first | cases ea | skip) <;> (first | rfl | (exfalso; simp_all; done))))))))))))))))))
theorem eq1036 (N : Nat) (hN : 1048600 < N) (e : Entry) (h2 : ∀ a ∈ e.entryArgs, VSmall a) (h3 : VSmall e.entryVal) : F1036 N e = F157 N e := by
 obtain ⟨b, n1, n2⟩ := name_same N e.entryName (by omega)
 have key : ∀ (l : List Val) (M i : Nat), (∀ a ∈ l, VSmall a) → foldN (F1036_s1 N) F1036_f1 M l i () = foldN (F157_s1 N) F157_f1 M l i () := by
   intro l
   induction l with
   | nil => intro M i _; cases M <;> rfl
   | cons x l ih =>
     intro M i hx
     cases M with
     | zero => rfl
     | succ M =>
       have hd : decide ((i : Int) ≥ 0) = true := decide_eq_true (by omega)
       simp only [foldN, F1036_s1, F157_s1, F1049, eq1047 N hN x (hx x (by simp))]
       cases h : F171 N x with
       | none => rfl
       | some c =>
         cases c with
         | false => simp only [bindO_some, Bool.not_false, iteO_true, iteO_false, hd, Bool.not_true]
         | true => simp only [bindO_some, Bool.not_true, iteO_false, iteO_true]; exact ih M (i + 1) fun a ha => hx a (by simp [ha])
 simp only [F1036, F157, n1, n2, bindO_some, eq1047 N hN e.entryVal h3, key e.entryArgs N 0 h2]
theorem eq1033 (N : Nat) (hN : 1048600 < N) (m : List Entry) (hm : MSmall m) : F1033 N m = F126 N m := by
 have hs2 : ∀ i x, F1033_s2 N i m x = F126_s2 N i m x := fun i x => by funext j; simp only [F1033_s2, F126_s2, eq1037]
 have key : ∀ (l : List Entry) (M i : Nat), (∀ x ∈ l, x ∈ m) → foldN (F1033_s1 N m) F1033_f1 M l i () = foldN (F126_s1 N m) F126_f1 M l i () := by
   intro l
   induction l with
   | nil => intro M i _; cases M <;> rfl
   | cons x l ih =>
     intro M i hx
     cases M with
     | zero => rfl
     | succ M =>
       obtain ⟨_, a2, a3⟩ := hm.args x (hx x (by simp))
       simp only [foldN, F1033_s1, F126_s1, eq1036 N hN x a2 a3, hs2, ih M (i + 1) fun y hy => hx y (by simp [hy])]
 simp only [F1033, F126, key m N 0 fun _ h => h]
theorem fits_v {v : Val} (h : VSmall v) : fits v.valSet.length 8 = true ∧ fits v.valAt.length 8 = true ∧ fits v.valTo.length 8 = true :=
 ⟨fits8 (by have := h.1; omega), fits8 (by have := h.2.1; omega), fits8 (by have := h.2.2; omega)⟩
theorem copy_fold {α : Type} (step : List Val → Nat → Val → Option (Sum (List Val) α)) (fin : List Val → Option α) (hs : ∀ s i x, VSmall x → s.length ≤ 2097152 → step s i x = some (.inl (s ++ [x]))) :
   ∀ (l : List Val) (M i : Nat) (out : List Val), l.length < M → out.length + l.length ≤ 2097152 → (∀ a ∈ l, VSmall a) → foldN step fin M l i out = fin (out ++ l)
 | [], M, i, out, hM, _, _ => by
   obtain ⟨K, rfl⟩ : ∃ K, M = K + 1 := ⟨M - 1, by simp at hM; omega⟩
   simp [foldN]
 | x :: l, M, i, out, hM, ho, hx => by
   obtain ⟨K, rfl⟩ : ∃ K, M = K + 1 := ⟨M - 1, by simp at hM; omega⟩
   simp only [List.length_cons] at hM ho
   simp only [foldN, hs out i x (hx x (by simp)) (by omega), bindO_some]
   exact (copy_fold step fin hs l K (i + 1) (out ++ [x]) (by omega) (by simp; omega) fun a ha => hx a (by simp [ha])).trans (by simp)
theorem room88 {n : Nat} (h : n ≤ 1048576) : decide ((0 : Nat) ≤ 0 ∧ (0 : Int) ≤ (n : Int) ∧ (n : Int) * 88 ≤ 140737488355328 ∧ (n : Int) ≤ 9223372036854775807) = true := decide_eq_true ⟨by decide, by omega, by omega, by omega⟩
theorem copy_s (x : Val) (s : List Val) (hx : VSmall x) (hs : s.length ≤ 2097152) {α : Type} (y : Option α) : (iteO (fits (x.valSet.length) 8) (iteO (fits (x.valAt.length) 8) (iteO (fits (x.valTo.length) 8) (iteO (fits (s.length + 1) 88) y none) none) none) none) = y := by
 obtain ⟨h1, h2, h3⟩ := fits_v hx
 simp only [h1, h2, h3, fits88 (show s.length + 1 ≤ 4194304 by omega), iteO_true]
theorem s2_1302 (s : List Val) (i : Nat) (x : Val) (hx : VSmall x) (hs : s.length ≤ 2097152) : F1302_s2 s i x = some (.inl (s ++ [x])) := by unfold F1302_s2; exact copy_s x s hx hs _
theorem s3_1302 (s : List Val) (i : Nat) (x : Val) (hx : VSmall x) (hs : s.length ≤ 2097152) : F1302_s3 s i x = some (.inl (s ++ [x])) := by unfold F1302_s3; exact copy_s x s hx hs _
theorem s4_1302 (s : List Val) (i : Nat) (x : Val) (hx : VSmall x) (hs : s.length ≤ 2097152) : F1302_s4 s i x = some (.inl (s ++ [x])) := by unfold F1302_s4; exact copy_s x s hx hs _
def ESmall (e : Entry) : Prop := e.entryArgs.length ≤ 1048576 ∧ (∀ a ∈ e.entryArgs, VSmall a) ∧ VSmall e.entryVal
theorem step_1302 (N : Nat) (hN : 2097200 < N) (e : Entry) (he : ESmall e) (out : List Entry) (d : Bool) (i : Nat) (x : Entry) (hx : ESmall x) (ho : out.length ≤ 4000000) :
   F1302_s1 N e (out, d) i x = some (.inl (out ++ [bif placeB x e then e else x], d || placeB x e)) := by
 have c2 := copy_fold F1302_s2 (F1302_f2 e (out, d)) s2_1302 e.entryArgs N 0 [] (by have := he.1; omega) (by have := he.1; simp; omega) he.2.1
 have c3 := copy_fold F1302_s3 (F1302_f3 (out, d) x) s3_1302 x.entryArgs N 0 [] (by have := hx.1; omega) (by have := hx.1; simp; omega) hx.2.1
 obtain ⟨e1, e2, e3⟩ := fits_v he.2.2
 obtain ⟨x1, x2, x3⟩ := fits_v hx.2.2
 simp only [F1302_s1, eq1037, place_of158 N (by omega) x e hx.1 hx.2.1, bindO_some, e1, e2, e3, x1, x2, x3, iteO_true, room88 he.1, room88 hx.1, c2, c3, List.nil_append, F1302_f2, F1302_f3, fits128 (show out.length + 1 ≤ 4194304 by omega)]
 cases placeB x e with
 | true => simp only [iteO_true, cond_true, Bool.or_true]
 | false => simp only [iteO_false, cond_false, Bool.or_false]
theorem fold_1302 (N : Nat) (hN : 2097200 < N) (e : Entry) (he : ESmall e) (fin : List Entry × Bool → Option (List Entry × Int)) : ∀ (l : List Entry) (M i : Nat) (out : List Entry) (d : Bool), l.length < M → out.length + l.length ≤ 4000000 → (∀ x ∈ l, ESmall x) →
   foldN (F1302_s1 N e) fin M l i (out, d) = fin (out ++ l.map (fun x => bif placeB x e then e else x), d || l.any (fun x => placeB x e))
 | [], M, i, out, d, hM, _, _ => by
   obtain ⟨K, rfl⟩ : ∃ K, M = K + 1 := ⟨M - 1, by simp at hM; omega⟩
   simp [foldN]
 | x :: l, M, i, out, d, hM, ho, hx => by
   obtain ⟨K, rfl⟩ : ∃ K, M = K + 1 := ⟨M - 1, by simp at hM; omega⟩
   simp only [List.length_cons] at hM ho
   simp only [foldN, step_1302 N hN e he out d i x (hx x (by simp)) (by omega), bindO_some, List.map_cons, List.any_cons]
   exact (fold_1302 N hN e he fin l K (i + 1) _ _ (by omega) (by simp; omega) fun z hz => hx z (by simp [hz])).trans (by simp [Bool.or_assoc])
theorem eq1302 (N : Nat) (hN : 2097200 < N) (m : List Entry) (hm : MSmall m) (e : Entry) (he : ESmall e) (hl : m.length ≤ 60) : ∃ r, F1302 N m e = some r ∧ F1222 N m e = some r ∧ r.1.length ≤ 61 ∧ ∀ x ∈ r.1, ESmall x := by
 obtain ⟨b, hb, _⟩ := entry157 N (by omega) e he.1 he.2.1 he.2.2
 have hv : ∃ c, F126 N m = some c := by
   unfold F126
   rw [decide_eq_false (by omega : ¬ (m.length : Int) > 2000), iteO_false]
   rcases foldN_either (step := F126_s1 N m) (fin := F126_f1) false m (fun i x hx => by
     obtain ⟨b, _, e⟩ := step_126 N hN m hm i x hx
     rw [e]
     cases b && !(m.take i).any (fun y => placeB y x) with
     | true => exact .inl rfl
     | false => exact .inr rfl) m N 0 rfl (by omega) with ⟨k1, _⟩ | k1
   · exact ⟨true, k1⟩
   · exact ⟨false, k1⟩
 obtain ⟨c, hc⟩ := hv
 have hE : ∀ x ∈ m, ESmall x := fun x hx => hm.args x hx
 unfold F1302 F1222
 rw [eq1033 N (by omega) m hm, hc, bindO_some, bindO_some]
 cases c with
 | false => exact ⟨_, rfl, rfl, by simp, by simp⟩
 | true =>
   rw [iteO_true, iteO_true, eq1036 N (by omega) e he.2.1 he.2.2, hb, bindO_some, bindO_some]
   cases b with
   | false => exact ⟨_, rfl, rfl, by simp, by simp⟩
   | true =>
     have hmp : ∀ y ∈ m.map (fun x => bif placeB x e then e else x), ESmall y := fun y hy => by
       obtain ⟨x, hx, rfl⟩ := List.mem_map.1 hy
       cases placeB x e with
       | true => exact he
       | false => exact hE x hx
     have hr : decide ((0 : Nat) ≤ 0 ∧ (0 : Int) ≤ (IntKind.i64.wrap ((m.length : Int) + 1)) ∧ (IntKind.i64.wrap ((m.length : Int) + 1)) * 128 ≤ 140737488355328 ∧ (IntKind.i64.wrap ((m.length : Int) + 1)) ≤ 9223372036854775807) = true := by
       rw [wrap_id (by omega)]
       exact decide_eq_true ⟨by decide, by omega, by omega, by omega⟩
     rw [iteO_true, iteO_true, hr, iteO_true, fold_1302 N hN e he _ m N 0 [] false (by omega) (by simp; omega) hE, set_fold N hN e (F1222_f1 e m) m N 0 [] false (by omega) (by simp; omega) fun x hx => ⟨(hm.args x hx).1, (hm.args x hx).2.1⟩, List.nil_append, Bool.false_or]
     unfold F1222_f1 F1302_f1
     simp only
     cases ha : m.any (fun x => placeB x e) with
     | true =>
       rw [iteO_true, iteO_true, decide_eq_false (by simp; omega), iteO_false]
       exact ⟨_, rfl, rfl, by simp; omega, hmp⟩
     | false =>
       have c4 := copy_fold F1302_s4 (F1302_f4 e (m.map (fun x => bif placeB x e then e else x), false)) s4_1302 e.entryArgs N 0 [] (by have := he.1; omega) (by have := he.1; simp; omega) he.2.1
       obtain ⟨e1, e2, e3⟩ := fits_v he.2.2
       rw [iteO_false, iteO_false, decide_eq_false (by omega : ¬ (m.length : Int) ≥ 2000), iteO_false, fits128 (by simp; omega), iteO_true, e1, e2, e3, iteO_true, iteO_true, iteO_true, room88 he.1, iteO_true, c4]
       unfold F1302_f4
       simp only
       rw [fits128 (by simp; omega), iteO_true, decide_eq_false (by simp; omega), iteO_false]
       refine ⟨_, rfl, rfl, by simp; omega, fun y hy => ?_⟩
       rcases List.mem_append.1 hy with hy | hy
       · exact hmp y hy
       · rw [List.mem_singleton] at hy; subst hy; exact he
theorem eqDef (s : Int) : F1303 s = F1304 s := by
 simp only [F1303, F1304]
 by_cases h1 : s < 1
 · have q : ∀ x : Int, 1 ≤ x → (s == x) = false := fun x hx => beq_eq_false_iff_ne.2 (by omega)
   simp only [q 4 (by decide), q 5 (by decide), q 1 (by decide), q 3 (by decide), q 2 (by decide), decide_eq_true h1, iteO_true, iteO_false]
 by_cases h2 : s > 5
 · have q : ∀ x : Int, x ≤ 5 → (s == x) = false := fun x hx => beq_eq_false_iff_ne.2 (by omega)
   simp only [q 4 (by decide), q 5 (by decide), q 1 (by decide), q 3 (by decide), q 2 (by decide), decide_eq_false h1, decide_eq_true h2, iteO_true, iteO_false]
 rcases (show s = 1 ∨ s = 2 ∨ s = 3 ∨ s = 4 ∨ s = 5 by omega) with h | h | h | h | h <;> subst h <;> rfl
theorem small_1030 (N : Nat) (hN : 1048600 < N) (e : Entry) (he : e.entryArgs.length ≤ 1048576) : ∃ b, F1030 N e = some b := by
 unfold F1030 F1032
 have key : ∀ (l : List Val) (M i : Nat), l.length < M → ∃ b, foldN F1030_s1 F1030_f1 M l i () = some b := by
   intro l
   induction l with
   | nil => intro M i hM; obtain ⟨K, rfl⟩ : ∃ K, M = K + 1 := ⟨M - 1, by simp at hM; omega⟩; exact ⟨_, rfl⟩
   | cons x l ih =>
     intro M i hM
     obtain ⟨K, rfl⟩ : ∃ K, M = K + 1 := ⟨M - 1, by simp at hM; omega⟩
     obtain ⟨b, hb⟩ := ih K (i + 1) (by simp at hM; omega)
     simp only [foldN, F1030_s1, F1032]
     cases decide ((x.valSet.length : Int) ≤ 250) <;> cases decide ((x.valAt.length : Int) ≤ 250) <;> cases decide ((x.valTo.length : Int) ≤ 250) <;> first | exact ⟨_, rfl⟩ | exact ⟨b, hb⟩
 obtain ⟨b, hb⟩ := key e.entryArgs N 0 (by omega)
 rw [hb]
 cases decide ((e.entryArgs.length : Int) > 10) <;> cases decide ((e.entryVal.valSet.length : Int) ≤ 250) <;> cases decide ((e.entryVal.valAt.length : Int) ≤ 250) <;> cases decide ((e.entryVal.valTo.length : Int) ≤ 250) <;> exact ⟨_, rfl⟩
theorem short_1028 (N : Nat) (hN : 1048600 < N) (m : List Entry) (hm : ∀ e ∈ m, ESmall e) (hl : m.length ≤ 1048576) : ∃ b, F1028 N m = some b ∧ (b = true → m.length ≤ 60) := by
 unfold F1028
 have key : ∀ (l : List Entry) (M i : Nat), l.length < M → (∀ e ∈ l, ESmall e) → ∃ b, foldN (F1028_s1 N) F1028_f1 M l i () = some b := by
   intro l
   induction l with
   | nil => intro M i hM _; obtain ⟨K, rfl⟩ : ∃ K, M = K + 1 := ⟨M - 1, by simp at hM; omega⟩; exact ⟨_, rfl⟩
   | cons x l ih =>
     intro M i hM he
     obtain ⟨K, rfl⟩ : ∃ K, M = K + 1 := ⟨M - 1, by simp at hM; omega⟩
     obtain ⟨b, hb⟩ := ih K (i + 1) (by simp at hM; omega) fun e h => he e (by simp [h])
     obtain ⟨c, hc⟩ := small_1030 N hN x (he x (by simp)).1
     simp only [foldN, F1028_s1, hc, bindO_some]
     cases c with
     | true => exact ⟨b, hb⟩
     | false => exact ⟨_, rfl⟩
 by_cases h : m.length ≤ 60
 · rw [decide_eq_false (by omega), iteO_false]
   obtain ⟨b, hb⟩ := key m N 0 (by omega) hm
   exact ⟨b, hb, fun _ => h⟩
 · rw [decide_eq_true (by omega), iteO_true]
   exact ⟨false, rfl, fun h => by cases h⟩
theorem sameV_self (v : Val) : sameV v v = true := sameV_iff.2 rfl
theorem same_self (N : Nat) (v : Val) (hN : 1048600 < N) (h : VSmall v) : F183 N v v = some true := by
 rw [same183 N v v ⟨by have := h.1; omega, by have := h.2.1; omega, by have := h.2.2; omega⟩, sameV_self]
theorem same_some (N : Nat) (v u : Val) (hN : 1048600 < N) (h : VSmall v) : ∃ b, F183 N v u = some b := ⟨_, same183 N v u ⟨by have := h.1; omega, by have := h.2.1; omega, by have := h.2.2; omega⟩⟩
theorem models_self (N : Nat) (hN : 2097200 < N) (a : List Entry) (hl : a.length ≤ 61) (ha : ∀ x ∈ a, ESmall x) : F1305 N a a = some true := by
 unfold F1305
 rw [show ((a.length : Int) == (a.length : Int)) = true from beq_self_eq_true _, iteO_true]
 rw [foldN_go a (fun i x hx => ?_) a N 0 rfl (by omega)]
 · rfl
 · have hs := ha x (List.mem_of_getElem? hx)
   simp only [F1305_s1, atO_get hx, bindO_some, place_of158 N (by omega) x x hs.1 hs.2.1, placeB_self, iteO_true, same_self N x.entryVal (by omega) hs.2.2]
theorem awake1027 (M : Nat) : F1027 (M + 30) = some true := by kernel_rfl
theorem vals_1301 (N : Nat) (hN : 2097200 < N) (m : List Entry) (x : Entry) (he : ESmall x) (hl : m.length ≤ 60) (r : List Entry × Int) (hr : F1301_f2 N m r r x () = some true) :
   foldN (S := Unit) (F1301_s2 N x) (F1301_f2 N m r r x) N m 0 () = some true := by
 rw [foldN_go m (fun i y hy => ?_) m N 0 rfl (by omega), hr]
 obtain ⟨b, hb⟩ := same_some N x.entryVal y.entryVal (by omega) he.2.2
 simp only [F1301_s2, eq1051, hb, bindO_some, beq_self_eq_true, iteO_true]
theorem def_small (s : Int) : ∃ r, F1304 s = some r ∧ VSmall r.1 := by
 unfold F1304
 cases decide (s < 1) <;> cases decide (s > 5) <;> exact ⟨_, rfl, by simp [VSmall]⟩
theorem loop_1301 (N : Nat) (hN : 2097200 < N) (m : List Entry) (x : Entry) (r : List Entry × Int) (hf : foldN (S := Unit) (F1301_s2 N x) (F1301_f2 N m r r x) N m 0 () = some true) : ∀ (k M : Nat) (s : Int), s = 8 - (k : Int) → k ≤ 9 → k < M → whileN (S := Int) (F1301_s1 N m r r x) M s = some true
 | 0, M, s, hs, _, hM => by
   obtain ⟨K, rfl⟩ : ∃ K, M = K + 1 := ⟨M - 1, by omega⟩
   simp only [whileN, F1301_s1, decide_eq_false (by omega : ¬ s < 8), iteO_false, hf, bindO_some]
 | k + 1, M, s, hs, hk, hM => by
   obtain ⟨K, rfl⟩ : ∃ K, M = K + 1 := ⟨M - 1, by omega⟩
   obtain ⟨d, hd, hv⟩ := def_small s
   have hw : IntKind.i64.wrap (s + 1) = s + 1 := wrap_id (by omega)
   simp only [whileN, F1301_s1, decide_eq_true (by omega : s < 8), iteO_true, eqDef, hd, bindO_some, beq_self_eq_true, same_self N d.1 (by omega) hv, hw]
   exact loop_1301 N hN m x r hf k K (s + 1) (by omega) (by omega) (by omega)
def big : Nat := 4611686018427387904
theorem lawMs (m : List Entry) (x : Entry) (hm : MSmall m) (he : ESmall x) : F1301 4611686018427387904 m x = some true := by
 obtain ⟨N, hNe⟩ : ∃ N : Nat, N = 4611686018427387904 := ⟨_, rfl⟩
 have ha : F1027 N = some true := by rw [hNe]; exact awake1027 4611686018427387874
 have hN : 2097200 < N := by omega
 rw [← hNe]
 unfold F1301
 obtain ⟨b, hb, hbl⟩ := short_1028 N (by omega) m (fun e h => hm.args e h) hm.len
 obtain ⟨c, hc⟩ := small_1030 N (by omega) x he.1
 rw [ha, bindO_some, iteO_true, hb, bindO_some]
 cases b with
 | false => rfl
 | true =>
   rw [iteO_true, hc, bindO_some]
   cases c with
   | false => rfl
   | true =>
     obtain ⟨r, h1, h2, h3, h4⟩ := eq1302 N hN m hm x he (hbl rfl)
     rw [iteO_true, h1, bindO_some, h2, bindO_some]
     have hlen := hbl rfl
     obtain ⟨v, hv, _⟩ := val171 N (by omega) x.entryVal he.2.2
     have hvm : ∃ c, F126 N m = some c := by
       unfold F126
       rw [decide_eq_false (by omega : ¬ (m.length : Int) > 2000), iteO_false]
       rcases foldN_either (step := F126_s1 N m) (fin := F126_f1) false m (fun i x hx => by
         obtain ⟨b, _, e⟩ := step_126 N hN m hm i x hx
         rw [e]
         cases b && !(m.take i).any (fun y => placeB y x) with
         | true => exact .inl rfl
         | false => exact .inr rfl) m N 0 rfl (by omega) with ⟨k1, _⟩ | k1
       · exact ⟨true, k1⟩
       · exact ⟨false, k1⟩
     obtain ⟨q, hq⟩ := hvm
     refine loop_1301 N hN m x r (vals_1301 N hN m x he (hbl rfl) r ?_) 9 N (-1) rfl (by omega) (by omega)
     simp only [F1301_f2, eq1033 N (by omega) m hm, hq, bindO_some, beq_self_eq_true, iteO_true, eq1047 N (by omega) x.entryVal he.2.2, hv, models_self N hN r.1 h3 h4]
end Go.Abs.Try
