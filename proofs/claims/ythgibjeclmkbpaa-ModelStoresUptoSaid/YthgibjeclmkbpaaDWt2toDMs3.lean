import Derived.Test.YthgibjeclmkbpaaDMod2toDVal30
import Derived.Test.YthgibjeclmkbpaaDMod1toDP8
set_option linter.unusedSimpArgs false
set_option linter.unusedVariables false
namespace Go.Abs.Try
set_option maxRecDepth 100000
theorem ite_t {b : Bool} {x : Option Bool} (h : iteO b x (some false) = some true) : b = true ∧ x = some true := by
 cases b with
 | true => exact ⟨rfl, h⟩
 | false => cases h
theorem ite_f {b : Bool} {x : Option Bool} (h : iteO b (some false) x = some true) : b = false ∧ x = some true := by
 cases b with
 | true => cases h
 | false => exact ⟨rfl, h⟩
theorem bind_t {α : Type} {a : Option α} {f : α → Option Bool} (h : bindO a f = some true) : ∃ x, a = some x ∧ f x = some true := by
 cases a with
 | none => cases h
 | some x => exact ⟨x, rfl, h⟩
theorem asc_steps : ∀ (l : List Int), (∀ (i : Nat) (x y : Int), l[i]? = some x → l[i + 1]? = some y → x < y) → asc l
 | [], _ => .nil
 | [x], _ => by simp [asc]
 | x :: y :: l, h => by
   have h1 := h 0 x y rfl rfl
   have ih := asc_steps (y :: l) fun i a b ha hb => h (i + 1) a b ha hb
   refine List.pairwise_cons.2 ⟨fun z hz => ?_, ih⟩
   rcases List.mem_cons.1 hz with rfl | hz
   · exact h1
   · have := (List.pairwise_cons.1 ih).1 z hz; omega
theorem asc_of182 (N : Nat) (l : List Int) (h : F182 N l = some true) (h1 : l.length < N) (hl : l.length ≤ 1048576) : asc l := by
 have step : ∀ i x, l[i]? = some x → (F182_s1 l () i x = some (.inl ()) ∨ F182_s1 l () i x = some (.inr false)) ∧ (F182_s1 l () i x = some (.inl ()) → ∀ k y, i = k + 1 → l[k]? = some y → y < x) := by
   intro i x hx
   have hi := (List.getElem?_eq_some_iff.1 hx).1
   simp only [F182_s1, fits181, bindO_some]
   cases fitsG x with
   | false => exact ⟨.inr rfl, fun h => by cases h⟩
   | true =>
     by_cases h0 : (i : Int) > 0
     · have hi1 : i - 1 < l.length := by omega
       have ha : atO l (IntKind.i64.wrap ((i : Int) - 1)) = some l[i - 1] := by
         rw [wrap_id (by omega)]
         exact atO_lit (i := i - 1) (by omega) (List.getElem?_eq_getElem hi1)
       rw [decide_eq_true h0]
       simp only [iteO_true, ha, bindO_some]
       by_cases hd : l[i - 1] ≥ x
       · rw [decide_eq_true hd]; exact ⟨.inr rfl, fun h => by cases h⟩
       · rw [decide_eq_false hd]
         refine ⟨.inl rfl, fun _ k y hk hy => ?_⟩
         subst hk
         have e : l[k + 1 - 1] = y := (List.getElem?_eq_some_iff.1 hy).2
         rw [e] at hd
         omega
     · rw [decide_eq_false h0]
       exact ⟨.inl rfl, fun _ k y hk _ => by omega⟩
 rcases foldN_either (step := F182_s1 l) (fin := F182_f1 l) false l (fun i x hx => (step i x hx).1) l N 0 rfl h1 with ⟨_, k2⟩ | k1
 · exact asc_steps l fun i x y hx hy => (step (i + 1) y hy).2 (k2 (i + 1) y (Nat.zero_le _) hy) i x rfl hx
 · unfold F182 at h; rw [k1] at h; cases h
theorem vg_of171 (N : Nat) (hN : 1048600 < N) (v : Val) (hv : VSmall v) (h : F171 N v = some true) : VG v.valSort v := by
 unfold F171 at h
 obtain ⟨_, h⟩ := ite_f h
 obtain ⟨_, h⟩ := ite_f h
 obtain ⟨b1, _, h⟩ := bind_t h
 obtain ⟨_, h⟩ := ite_t h
 obtain ⟨b2, hs, h⟩ := bind_t h
 obtain ⟨e2, h⟩ := ite_t h
 obtain ⟨b3, ha, h⟩ := bind_t h
 obtain ⟨e3, h⟩ := ite_t h
 obtain ⟨hl, h⟩ := ite_t h
 rw [e2] at hs; rw [e3] at ha
 have hl : v.valTo.length = v.valAt.length := by have := beq_iff_eq.1 hl; omega
 have ha1 := asc_of182 N v.valSet hs (by have := hv.1; omega) hv.1
 have aa := asc_of182 N v.valAt ha (by have := hv.2.1; omega) hv.2.1
 have step : ∀ i x, v.valTo[i]? = some x → (F171_s1 () i x = some (.inl ()) ∨ F171_s1 () i x = some (.inr false)) ∧ (F171_s1 () i x = some (.inl ()) → x ≠ 0 ∧ fitsG x = true) := by
   intro i x _
   simp only [F171_s1, fits181, bindO_some]
   cases h0 : x == 0 with
   | true => exact ⟨.inr rfl, fun h => by cases h⟩
   | false =>
     have h0 := beq_eq_false_iff_ne.1 h0
     cases hf : fitsG x with
     | true => exact ⟨.inl rfl, fun _ => ⟨h0, rfl⟩⟩
     | false => exact ⟨.inr rfl, fun h => by cases h⟩
 rcases foldN_either (step := F171_s1) (fin := F171_f1 v) false v.valTo (fun i x hx => (step i x hx).1) v.valTo N 0 rfl (by have := hv.2.2; omega) with ⟨k1, k2⟩ | k1
 · rw [k1] at h
   unfold F171_f1 at h
   refine ⟨rfl, fun h4 => ?_, fun h5 => ?_⟩
   · rw [h4] at h
     obtain ⟨hn, h⟩ := ite_t (show iteO (v.valNum == 0) (some ((v.valAt.length : Int) == 0)) (some false) = some true from h)
     have h : v.valAt.length = 0 := by injection h with h; have := beq_iff_eq.1 h; omega
     exact ⟨beq_iff_eq.1 hn, List.eq_nil_of_length_eq_zero h, List.eq_nil_of_length_eq_zero (by omega), ha1⟩
   · rw [h5] at h
     obtain ⟨_, h⟩ := ite_t (show iteO (decide (v.valNum ≥ 0)) (some ((v.valSet.length : Int) == 0)) (some false) = some true from h)
     have h : v.valSet.length = 0 := by injection h with h; have := beq_iff_eq.1 h; omega
     have each : ∀ t ∈ v.valTo, t ≠ 0 ∧ fitsG t = true := fun t ht => by
       obtain ⟨i, hi, ei⟩ := List.getElem_of_mem ht
       have hx : v.valTo[i]? = some t := by rw [List.getElem?_eq_getElem hi, ei]
       exact (step i t hx).2 (k2 i t (Nat.zero_le _) hx)
     exact ⟨List.eq_nil_of_length_eq_zero h, aa, hl, fun t ht => (each t ht).1, fun t ht => (each t ht).2⟩
 · rw [k1] at h; cases h
theorem vg_of157 (N : Nat) (hN : 1048600 < N) (e : Entry) (hv : VSmall e.entryVal) (h : F157 N e = some true) : VG e.entryVal.valSort e.entryVal := by
 unfold F157 at h
 obtain ⟨_, _, h⟩ := bind_t h
 obtain ⟨_, h⟩ := ite_t h
 obtain ⟨_, h⟩ := ite_f h
 obtain ⟨b, hb, h⟩ := bind_t h
 obtain ⟨e, h⟩ := ite_t h
 rw [e] at hb
 exact vg_of171 N hN _ hv hb
def placeB (a b : Entry) : Bool := (a.entryName.toList == b.entryName.toList) && ((a.entryVal.valSort == b.entryVal.valSort) && sameVs a.entryArgs b.entryArgs)
theorem place_of158 (N : Nat) (hN : 1048600 < N) (a b : Entry) (h1 : a.entryArgs.length ≤ 1048576) (h2 : ∀ x ∈ a.entryArgs, VSmall x) : F158 N a b = some (placeB a b) := by
 simp only [F158, sameArgs172 N (by omega) a.entryArgs b.entryArgs (by omega) h2, bindO_some, placeB]
 cases a.entryName.toList == b.entryName.toList <;> cases a.entryVal.valSort == b.entryVal.valSort <;> rfl
theorem inner_126 (N : Nat) (hN : 1048600 < N) (m : List Entry) (hm : MSmall m) (i : Nat) (hi : i ≤ m.length) (x : Entry) : ∀ (k M j : Nat), j + k = i → k < M →
   whileN (F126_s2 N i m x) M (j : Int) = some (bif ((m.drop j).take k).any (fun y => placeB y x) then .inr false else .inl ())
 | 0, M, j, hj, hM => by
   obtain ⟨K, rfl⟩ : ∃ K, M = K + 1 := ⟨M - 1, by omega⟩
   have : decide ((j : Int) < (i : Int)) = false := decide_eq_false (by omega)
   simp only [whileN, F126_s2, this, iteO_false, bindO_some, List.take_zero, List.any_nil, cond_false]
 | k + 1, M, j, hj, hM => by
   obtain ⟨K, rfl⟩ : ∃ K, M = K + 1 := ⟨M - 1, by omega⟩
   have hl := hm.len
   have : decide ((j : Int) < (i : Int)) = true := decide_eq_true (by omega)
   have hjl : j < m.length := by omega
   have e : m[j]? = some m[j] := List.getElem?_eq_getElem hjl
   obtain ⟨a1, a2, _⟩ := hm.args _ (List.getElem_mem hjl)
   have w : IntKind.i64.wrap ((j : Int) + 1) = ((j + 1 : Nat) : Int) := by rw [wrap_id (by omega)]; rfl
   have ih := inner_126 N hN m hm i hi x k K (j + 1) (by omega) (by omega)
   rw [List.drop_eq_getElem_cons hjl, List.take_succ_cons, List.any_cons]
   simp only [whileN, F126_s2, this, iteO_true, atO_get e, bindO_some, place_of158 N hN m[j] x a1 a2, w]
   cases placeB m[j] x with
   | true => rfl
   | false => exact ih
structure VMod (N : Nat) (m : List Entry) : Prop where
 len : m.length ≤ 2000
 each : ∀ e ∈ m, F157 N e = some true
 apart : m.Pairwise fun a b => placeB a b = false
theorem foldN_go {α β : Type} {step : Unit → Nat → α → Option (Sum Unit β)} {fin : Unit → Option β} (full : List α) (hs : ∀ i x, full[i]? = some x → step () i x = some (.inl ())) :
   ∀ (l : List α) (N i : Nat), full.drop i = l → l.length < N → foldN step fin N l i () = fin ()
 | [], N, i, hd, hN => by
   obtain ⟨K, rfl⟩ : ∃ K, N = K + 1 := ⟨N - 1, by simp at hN; omega⟩
   rfl
 | x :: l, N, i, hd, hN => by
   obtain ⟨K, rfl⟩ : ∃ K, N = K + 1 := ⟨N - 1, by simp at hN; omega⟩
   obtain ⟨hx, hxs⟩ := drop_cons hd
   simp only [foldN, hs i x hx, bindO_some]
   exact foldN_go full hs l K (i + 1) hxs (by simp at hN; omega)
theorem step_126 (N : Nat) (hN : 2097200 < N) (m : List Entry) (hm : MSmall m) (i : Nat) (x : Entry) (hx : m[i]? = some x) :
   ∃ b, F157 N x = some b ∧ F126_s1 N m () i x = some (bif b && !(m.take i).any (fun y => placeB y x) then .inl () else .inr false) := by
 obtain ⟨a1, a2, a3⟩ := hm.args x (List.mem_of_getElem? hx)
 obtain ⟨b, s, _⟩ := entry157 N (by omega) x a1 a2 a3
 have hi := (List.getElem?_eq_some_iff.1 hx).1
 refine ⟨b, s, ?_⟩
 have hl := hm.len
 have := inner_126 N (by omega) m hm i (by omega) x i N 0 (by omega) (by omega)
 rw [List.drop_zero] at this
 simp only [F126_s1, s, bindO_some]
 cases b with
 | false => rfl
 | true =>
   rw [iteO_true, Bool.true_and]
   refine Eq.trans this ?_
   cases (m.take i).any (fun y => placeB y x) <;> rfl
theorem valid_iff (N : Nat) (hN : 2097200 < N) (m : List Entry) (hm : MSmall m) : F126 N m = some true ↔ VMod N m := by
 have hl := hm.len
 constructor
 · intro h
   unfold F126 at h
   obtain ⟨h0, h⟩ := ite_f h
   have h0 := of_decide_eq_false h0
   rcases foldN_either (step := F126_s1 N m) (fin := F126_f1) false m (fun i x hx => by
     obtain ⟨b, _, e⟩ := step_126 N hN m hm i x hx
     rw [e]
     cases b && !(m.take i).any (fun y => placeB y x) with
     | true => exact .inl rfl
     | false => exact .inr rfl) m N 0 rfl (by omega) with ⟨k1, k2⟩ | k1
   · have each : ∀ i x, m[i]? = some x → F157 N x = some true ∧ (m.take i).any (fun y => placeB y x) = false := fun i x hx => by
       obtain ⟨b, s, e⟩ := step_126 N hN m hm i x hx
       have := k2 i x (Nat.zero_le _) hx
       rw [e] at this
       cases b with
       | false => cases this
       | true =>
         refine ⟨s, ?_⟩
         cases hh : (m.take i).any (fun y => placeB y x) with
         | false => rfl
         | true => rw [hh] at this; cases this
     refine ⟨by omega, fun e he => ?_, List.pairwise_iff_getElem.2 fun i j hi hj hij => ?_⟩
     · obtain ⟨i, hi, ei⟩ := List.getElem_of_mem he
       exact (each i e (by rw [List.getElem?_eq_getElem hi, ei])).1
     · have := (each j m[j] (List.getElem?_eq_getElem hj)).2
       rw [List.any_eq_false] at this
       have h2 := this m[i] (List.mem_take_iff_getElem.2 ⟨i, by omega, rfl⟩)
       cases hh : placeB m[i] m[j] with
       | false => rfl
       | true => exact absurd hh h2
   · rw [k1] at h; cases h
 · intro ⟨h1, h2, h3⟩
   unfold F126
   rw [decide_eq_false (by omega : ¬ (m.length : Int) > 2000), iteO_false, foldN_go m (fun i x hx => ?_) m N 0 rfl (by omega)]
   · rfl
   · obtain ⟨b, s, e⟩ := step_126 N hN m hm i x hx
     have hi := (List.getElem?_eq_some_iff.1 hx).1
     have hxe := (List.getElem?_eq_some_iff.1 hx).2
     have hb : b = true := by have := h2 x (List.mem_of_getElem? hx); rw [s] at this; injection this
     rw [e, hb, show (m.take i).any (fun y => placeB y x) = false from ?_]
     · rfl
     · rw [List.any_eq_false]
       intro y hy
       obtain ⟨j, hj, ej⟩ := List.mem_take_iff_getElem.1 hy
       have := List.pairwise_iff_getElem.1 h3 j i (by omega) hi (by omega)
       rw [ej, hxe] at this
       rw [this]; exact Bool.false_ne_true
end Go.Abs.Try
namespace Go.Abs.Try
set_option maxRecDepth 100000
theorem eq1062 (N : Nat) (a b : List Int) : F1062 N a b = F189 N a b := rfl
theorem eq1051 (N : Nat) (a b : Val) : F1051 N a b = F183 N a b := by simp only [F1051, F183, eq1062]
theorem eq1037 (N : Nat) (a b : Entry) : F1037 N a b = F158 N a b := by
 have hs : F1037_s1 N b = F172_s1 N b.entryArgs := by funext s i x; simp only [F1037_s1, F172_s1, eq1051]
 have hf : F1037_f1 = F172_f1 := rfl
 simp only [F1037, F158, F172, hs, hf]
 cases a.entryName.toList == b.entryName.toList <;> cases a.entryVal.valSort == b.entryVal.valSort <;> cases ((a.entryArgs.length : Int) == (b.entryArgs.length : Int)) <;> simp only [iteO_true, iteO_false, bindO_some]
 cases foldN (F172_s1 N b.entryArgs) F172_f1 N a.entryArgs 0 () <;> rfl
theorem fits_cases (x : Int) : (decide (x < (-1152921504606846976)) = true ∧ fitsG x = false) ∨ (decide (x < (-1152921504606846976)) = false ∧ decide (x > 1152921504606846976) = true ∧ fitsG x = false) ∨ (decide (x < (-1152921504606846976)) = false ∧ decide (x > 1152921504606846976) = false ∧ fitsG x = true) := by
 simp only [fitsG, decide_eq_true_eq, decide_eq_false_iff_not, Bool.and_eq_true, Bool.and_eq_false_iff]
 omega
theorem eq1060 (N : Nat) (l : List Int) : F1060 N l = F182 N l := by
 have hs : F1060_s1 l = F182_s1 l := by
   funext s i x
   simp only [F1060_s1, F182_s1, fits181, bindO_some]
   rcases fits_cases x with ⟨h1, h2⟩ | ⟨h1, h2, h3⟩ | ⟨h1, h2, h3⟩ <;> simp only [*, iteO_true, iteO_false]
 have hf : F1060_f1 l = F182_f1 l := rfl
 simp only [F1060, F182, hs, hf]
theorem asc_nil (N : Nat) : F182 (N + 1) [] = some true := rfl
theorem to_fold (l : List Int) : ∃ g : Bool, ∀ (M i : Nat) (fin : Unit → Option Bool), l.length < M → foldN F171_s1 fin M l i () = bif g then fin () else some false := by
 induction l with
 | nil =>
   refine ⟨true, fun M i fin h => ?_⟩
   obtain ⟨K, rfl⟩ : ∃ K, M = K + 1 := ⟨M - 1, by simp at h; omega⟩
   rfl
 | cons x l ih =>
   obtain ⟨g, ih⟩ := ih
   cases hx : x == 0 with
   | true =>
     refine ⟨false, fun M i fin h => ?_⟩
     obtain ⟨K, rfl⟩ : ∃ K, M = K + 1 := ⟨M - 1, by simp at h; omega⟩
     simp only [foldN, F171_s1, hx, iteO_true, bindO_some, cond_false]
   | false =>
     cases hf : fitsG x with
     | false =>
       refine ⟨false, fun M i fin h => ?_⟩
       obtain ⟨K, rfl⟩ : ∃ K, M = K + 1 := ⟨M - 1, by simp at h; omega⟩
       simp only [foldN, F171_s1, hx, iteO_false, bindO_some, fits181, hf, cond_false]
     | true =>
       refine ⟨g, fun M i fin h => ?_⟩
       obtain ⟨K, rfl⟩ : ∃ K, M = K + 1 := ⟨M - 1, by simp at h; omega⟩
       simp only [foldN, F171_s1, hx, iteO_false, iteO_true, bindO_some, fits181, hf]
       exact ih K (i + 1) fin (by simp at h; omega)
theorem eq1047s : F1047_s1 = F171_s1 := by
 funext s i x
 simp only [F1047_s1, F171_s1, fits181, bindO_some]
 cases x == 0
 · rcases fits_cases x with ⟨h1, h2⟩ | ⟨h1, h2, h3⟩ | ⟨h1, h2, h3⟩ <;> simp only [*, iteO_true, iteO_false]
 · rfl
theorem len0 {α : Type} (l : List α) : (decide ((l.length : Int) > 0) = false ∧ ((l.length : Int) == 0) = true ∧ l = []) ∨ (decide ((l.length : Int) > 0) = true ∧ ((l.length : Int) == 0) = false) := by
 cases l with
 | nil => exact .inl ⟨rfl, rfl, rfl⟩
 | cons x l =>
   refine .inr ⟨decide_eq_true (by simp), beq_eq_false_iff_ne.2 (by simp; omega)⟩
theorem eq1047 (N : Nat) (hN : 1048600 < N) (v : Val) (hv : VSmall v) : F1047 N v = F171 N v := by
 obtain ⟨h1, h2, h3⟩ := hv
 obtain ⟨M, rfl⟩ : ∃ M, N = M + 1 := ⟨N - 1, by omega⟩
 obtain ⟨b1, e1, _⟩ := asc182 (M + 1) v.valSet (by omega) (by omega)
 obtain ⟨b2, e2, _⟩ := asc182 (M + 1) v.valAt (by omega) (by omega)
 obtain ⟨g, hg⟩ := to_fold v.valTo
 have hg1 := fun fin => hg (M + 1) 0 fin (by omega)
 have hw : IntKind.i64.wrap ((v.valAt.length : Int) + (v.valTo.length : Int)) = (v.valAt.length : Int) + (v.valTo.length : Int) := wrap_id (by omega)
 have hz : (decide ((v.valAt.length : Int) + (v.valTo.length : Int) > 0) = false ∧ v.valAt = [] ∧ v.valTo = []) ∨ (decide ((v.valAt.length : Int) + (v.valTo.length : Int) > 0) = true ∧ (((v.valTo.length : Int) == (v.valAt.length : Int)) = true → ((v.valAt.length : Int) == 0) = false)) := by
   by_cases hz : v.valAt.length = 0 ∧ v.valTo.length = 0
   · exact .inl ⟨decide_eq_false (by omega), List.length_eq_zero_iff.1 hz.1, List.length_eq_zero_iff.1 hz.2⟩
   · exact .inr ⟨decide_eq_true (by omega), fun h => by have := beq_iff_eq.1 h; exact beq_eq_false_iff_ne.2 (by omega)⟩
 simp only [F1047, F171, eq1060, eq1047s, fits181, bindO_some, hw, e1, e2, hg1, F1047_f1, F171_f1]
 obtain ⟨srt, num, st, at_, to⟩ := v
 simp only at *
 have hn := fits_cases num
 have hl := len0 st
 have hat := len0 at_
 have hb1 : st = [] → b1 = true := fun h => by subst h; injection e1.symm.trans (asc_nil M)
 have hb2 : at_ = [] → b2 = true := fun h => by subst h; injection e2.symm.trans (asc_nil M)
 have hg0 : to = [] → g = true := fun h => by
   subst h
   cases g with
   | true => rfl
   | false => have := hg 1 0 (fun _ => some true) (by simp); cases this
 have hsw : ((to.length : Int) == (at_.length : Int)) = ((at_.length : Int) == (to.length : Int)) := by rw [Bool.eq_iff_iff, beq_iff_eq, beq_iff_eq]; exact eq_comm
 rw [hsw] at hz ⊢
 clear h1 h2 h3 hw hg hg1 e1 e2 hN
 have hn0 : decide (num ≥ 0) = !decide (num < 0) := by cases h : decide (num < 0) <;> simp_all
 rw [hn0]
 have hn01 : (num == 0) = true → (num == 1) = false := fun h => by rw [beq_iff_eq.1 h]; rfl
 have hl2 : (decide ((st.length : Int) > 0) = false ∧ ((st.length : Int) == 0) = true ∧ b1 = true) ∨ (decide ((st.length : Int) > 0) = true ∧ ((st.length : Int) == 0) = false) := hl.imp (fun h => ⟨h.1, h.2.1, hb1 h.2.2⟩) id
 have hz2 : (decide ((at_.length : Int) + (to.length : Int) > 0) = false ∧ ((at_.length : Int) == 0) = true ∧ ((at_.length : Int) == (to.length : Int)) = true ∧ b2 = true ∧ g = true) ∨ (decide ((at_.length : Int) + (to.length : Int) > 0) = true ∧ (((at_.length : Int) == (to.length : Int)) = true → ((at_.length : Int) == 0) = false)) :=
   hz.imp (fun h => ⟨h.1, by rw [h.2.1]; rfl, by rw [h.2.1, h.2.2]; rfl, hb2 h.2.1, hg0 h.2.2⟩) id
 clear hl hz hb1 hb2 hg0 hat hsw
 generalize decide ((at_.length : Int) + (to.length : Int) > 0) = dz at *
 generalize ((at_.length : Int) == (to.length : Int)) = dt at *
 generalize decide ((st.length : Int) > 0) = ds at *
 generalize ((st.length : Int) == 0) = es at *
 generalize ((at_.length : Int) == 0) = ea at *
 generalize fitsG num = fn at *
 generalize decide (num < -1152921504606846976) = n1 at *
 generalize decide (num > 1152921504606846976) = n2 at *
 generalize decide (num < 0) = n3 at *
 generalize (num == 0) = m0 at *
 generalize (num == 1) = m1 at *
 clear hn0
 have r1 : ∀ c : Int, srt = c → (∀ x : Int, (srt == x) = (c == x)) ∧ (∀ x : Int, decide (srt < x) = decide (c < x)) ∧ (∀ x : Int, decide (srt > x) = decide (c > x)) := fun c h => by subst h; exact ⟨fun _ => rfl, fun _ => rfl, fun _ => rfl⟩
 by_cases h1 : srt < 1
 · have q : ∀ x : Int, 1 ≤ x → (srt == x) = false := fun x hx => beq_eq_false_iff_ne.2 (by omega)
   simp only [q 4 (by decide), q 5 (by decide), q 1 (by decide), q 3 (by decide), q 2 (by decide), decide_eq_true h1, iteO_true, iteO_false]
   cases ds <;> cases dz <;> cases n1 <;> cases n2 <;> rfl
 by_cases h2 : srt > 5
 · have q : ∀ x : Int, x ≤ 5 → (srt == x) = false := fun x hx => beq_eq_false_iff_ne.2 (by omega)
   simp only [q 4 (by decide), q 5 (by decide), q 1 (by decide), q 3 (by decide), q 2 (by decide), decide_eq_false h1, decide_eq_true h2, iteO_true, iteO_false]
   cases ds <;> cases dz <;> cases n1 <;> cases n2 <;> rfl
 rcases (show srt = 1 ∨ srt = 2 ∨ srt = 3 ∨ srt = 4 ∨ srt = 5 by omega) with h | h | h | h | h <;> subst h <;> clear h1 h2 r1 <;>
   rcases hl2 with ⟨rfl, rfl, rfl⟩ | ⟨rfl, rfl⟩ <;> rcases hz2 with ⟨rfl, rfl, rfl, rfl, rfl⟩ | ⟨rfl, hz2⟩ <;> rcases hn with ⟨rfl, rfl⟩ | ⟨rfl, rfl, rfl⟩ | ⟨rfl, rfl, rfl⟩ <;>
   simp only [Int.reduceBEq, Int.reduceLT, Int.reduceGT, decide_true, decide_false, iteO_true, iteO_false, bindO_some, Bool.not_true, Bool.not_false, beq_self_eq_true, gt_iff_lt] <;>
   (first | rfl | ((first | cases b1 | skip) <;> (first | rfl | ((first | cases b2 | skip) <;> (first | rfl | ((first | cases g | skip) <;> (first | rfl | ((first | cases m0 | skip) <;> (first | rfl | ((first | cases m1 | skip) <;> (first | rfl | ((first | cases n3 | skip) <;> (first | rfl | ((first | cases dt | skip) <;> (first | rfl | ((first | cases ea | skip) <;> (first | rfl | (exfalso; simp_all; done))))))))))))))))))
theorem eq1036 (N : Nat) (hN : 1048600 < N) (e : Entry) (h2 : ∀ a ∈ e.entryArgs, VSmall a) (h3 : VSmall e.entryVal) : F1036 N e = F157 N e := by
 obtain ⟨b, n1, n2⟩ := name_same N e.entryName (by omega)
 have key : ∀ (l : List Val) (M i : Nat), (∀ a ∈ l, VSmall a) → foldN (F1036_s1 N) F1036_f1 M l i () = foldN (F157_s1 N) F157_f1 M l i () := by
   intro l
   induction l with
   | nil => intro M i _; cases M <;> rfl
   | cons x l ih =>
     intro M i hx
     cases M with
     | zero => rfl
     | succ M =>
       have hd : decide ((i : Int) ≥ 0) = true := decide_eq_true (by omega)
       simp only [foldN, F1036_s1, F157_s1, F1049, eq1047 N hN x (hx x (by simp))]
       cases h : F171 N x with
       | none => rfl
       | some c =>
         cases c with
         | false => simp only [bindO_some, Bool.not_false, iteO_true, iteO_false, hd, Bool.not_true]
         | true => simp only [bindO_some, Bool.not_true, iteO_false, iteO_true]; exact ih M (i + 1) fun a ha => hx a (by simp [ha])
 simp only [F1036, F157, n1, n2, bindO_some, eq1047 N hN e.entryVal h3, key e.entryArgs N 0 h2]
theorem eq1033 (N : Nat) (hN : 1048600 < N) (m : List Entry) (hm : MSmall m) : F1033 N m = F126 N m := by
 have hs2 : ∀ i x, F1033_s2 N i m x = F126_s2 N i m x := fun i x => by funext j; simp only [F1033_s2, F126_s2, eq1037]
 have key : ∀ (l : List Entry) (M i : Nat), (∀ x ∈ l, x ∈ m) → foldN (F1033_s1 N m) F1033_f1 M l i () = foldN (F126_s1 N m) F126_f1 M l i () := by
   intro l
   induction l with
   | nil => intro M i _; cases M <;> rfl
   | cons x l ih =>
     intro M i hx
     cases M with
     | zero => rfl
     | succ M =>
       obtain ⟨_, a2, a3⟩ := hm.args x (hx x (by simp))
       simp only [foldN, F1033_s1, F126_s1, eq1036 N hN x a2 a3, hs2, ih M (i + 1) fun y hy => hx y (by simp [hy])]
 simp only [F1033, F126, key m N 0 fun _ h => h]
theorem fits_v {v : Val} (h : VSmall v) : fits v.valSet.length 8 = true ∧ fits v.valAt.length 8 = true ∧ fits v.valTo.length 8 = true :=
 ⟨fits8 (by have := h.1; omega), fits8 (by have := h.2.1; omega), fits8 (by have := h.2.2; omega)⟩
theorem room88 {n : Nat} (h : n ≤ 1048576) : decide ((0 : Nat) ≤ 0 ∧ (0 : Int) ≤ (n : Int) ∧ (n : Int) * 88 ≤ 140737488355328 ∧ (n : Int) ≤ 9223372036854775807) = true := decide_eq_true ⟨by decide, by omega, by omega, by omega⟩
def ESmall (e : Entry) : Prop := e.entryArgs.length ≤ 1048576 ∧ (∀ a ∈ e.entryArgs, VSmall a) ∧ VSmall e.entryVal
theorem small_1030 (N : Nat) (hN : 1048600 < N) (e : Entry) (he : e.entryArgs.length ≤ 1048576) : ∃ b, F1030 N e = some b := by
 unfold F1030 F1032
 have key : ∀ (l : List Val) (M i : Nat), l.length < M → ∃ b, foldN F1030_s1 F1030_f1 M l i () = some b := by
   intro l
   induction l with
   | nil => intro M i hM; obtain ⟨K, rfl⟩ : ∃ K, M = K + 1 := ⟨M - 1, by simp at hM; omega⟩; exact ⟨_, rfl⟩
   | cons x l ih =>
     intro M i hM
     obtain ⟨K, rfl⟩ : ∃ K, M = K + 1 := ⟨M - 1, by simp at hM; omega⟩
     obtain ⟨b, hb⟩ := ih K (i + 1) (by simp at hM; omega)
     simp only [foldN, F1030_s1, F1032]
     cases decide ((x.valSet.length : Int) ≤ 250) <;> cases decide ((x.valAt.length : Int) ≤ 250) <;> cases decide ((x.valTo.length : Int) ≤ 250) <;> first | exact ⟨_, rfl⟩ | exact ⟨b, hb⟩
 obtain ⟨b, hb⟩ := key e.entryArgs N 0 (by omega)
 rw [hb]
 cases decide ((e.entryArgs.length : Int) > 10) <;> cases decide ((e.entryVal.valSet.length : Int) ≤ 250) <;> cases decide ((e.entryVal.valAt.length : Int) ≤ 250) <;> cases decide ((e.entryVal.valTo.length : Int) ≤ 250) <;> exact ⟨_, rfl⟩
theorem short_1028 (N : Nat) (hN : 1048600 < N) (m : List Entry) (hm : ∀ e ∈ m, ESmall e) (hl : m.length ≤ 1048576) : ∃ b, F1028 N m = some b ∧ (b = true → m.length ≤ 60) := by
 unfold F1028
 have key : ∀ (l : List Entry) (M i : Nat), l.length < M → (∀ e ∈ l, ESmall e) → ∃ b, foldN (F1028_s1 N) F1028_f1 M l i () = some b := by
   intro l
   induction l with
   | nil => intro M i hM _; obtain ⟨K, rfl⟩ : ∃ K, M = K + 1 := ⟨M - 1, by simp at hM; omega⟩; exact ⟨_, rfl⟩
   | cons x l ih =>
     intro M i hM he
     obtain ⟨K, rfl⟩ : ∃ K, M = K + 1 := ⟨M - 1, by simp at hM; omega⟩
     obtain ⟨b, hb⟩ := ih K (i + 1) (by simp at hM; omega) fun e h => he e (by simp [h])
     obtain ⟨c, hc⟩ := small_1030 N hN x (he x (by simp)).1
     simp only [foldN, F1028_s1, hc, bindO_some]
     cases c with
     | true => exact ⟨b, hb⟩
     | false => exact ⟨_, rfl⟩
 by_cases h : m.length ≤ 60
 · rw [decide_eq_false (by omega), iteO_false]
   obtain ⟨b, hb⟩ := key m N 0 (by omega) hm
   exact ⟨b, hb, fun _ => h⟩
 · rw [decide_eq_true (by omega), iteO_true]
   exact ⟨false, rfl, fun h => by cases h⟩
theorem sameV_self (v : Val) : sameV v v = true := sameV_iff.2 rfl
theorem same_self (N : Nat) (v : Val) (hN : 1048600 < N) (h : VSmall v) : F183 N v v = some true := by
 rw [same183 N v v ⟨by have := h.1; omega, by have := h.2.1; omega, by have := h.2.2; omega⟩, sameV_self]
theorem awake1027 (M : Nat) : F1027 (M + 30) = some true := by kernel_rfl
def big : Nat := 4611686018427387904
end Go.Abs.Try
namespace Go.Abs.Try
set_option maxRecDepth 100000
def nd (op : Int) (ks : List Node) : Node := ⟨op, 0, ⟨#[]⟩, 0, ks⟩
def plainOp (op : Int) : Prop := op ≠ 1 ∧ op ≠ 3 ∧ op ≠ 2 ∧ op ≠ 7 ∧ op ≠ 42
theorem own_plain {n : Node} (h : ownA n = true) (hp : plainOp n.op) : n = nd n.op n.kids := by
 have h1 := own118A 30 n (Nat.le_refl _)
 rw [h] at h1
 obtain ⟨p1, p3, p2, p7, p42⟩ := hp
 have e1 : (n.op == 1) = false := beq_eq_false_iff_ne.2 p1
 have e3 : (n.op == 3) = false := beq_eq_false_iff_ne.2 p3
 have e2 : (n.op == 2) = false := beq_eq_false_iff_ne.2 p2
 have e7 : (n.op == 7) = false := beq_eq_false_iff_ne.2 p7
 have e42 : (n.op == 42) = false := beq_eq_false_iff_ne.2 p42
 obtain ⟨o, s, nm, nu, ks⟩ := n
 simp only [F118, e1, e3, e2, e7, e42, iteO_false] at h1
 have hnm : nm.toList = (⟨#[]⟩ : ByteArray).toList := by
   cases hc : nm.toList == (⟨#[]⟩ : ByteArray).toList with
   | true => exact beq_iff_eq.1 hc
   | false => rw [hc] at h1; cases h1
 have hs : s = 0 := by
   rw [hnm, beq_self_eq_true] at h1
   cases hc : s == 0 with
   | true => exact beq_iff_eq.1 hc
   | false => simp only [hc, iteO_true, iteO_false] at h1; cases h1
 have hu : nu = 0 := by
   rw [hnm, beq_self_eq_true, hs] at h1
   cases hc : nu == 0 with
   | true => exact beq_iff_eq.1 hc
   | false => rw [hc] at h1; cases h1
 have := ba_inj hnm
 subst this; subst hs; subst hu
 rfl
theorem sortedR_kids {n : Node} (h : sortedR n = true) : ownA n = true ∧ shapeB n.op (n.kids.map sortS) = true ∧ ∀ k ∈ n.kids, sortedR k = true := by
 rw [sortedR_eq] at h
 simp only [nodeB, Bool.and_eq_true, List.all_eq_true] at h
 exact ⟨h.1.1, h.1.2, h.2⟩
theorem form_list {n : Node} {l : List Int} (h : sortedR n = true) (hp : plainOp n.op) (hf : F153 n.op = some (l, true)) : n = nd n.op n.kids ∧ n.kids.map sortS = l ∧ ∀ k ∈ n.kids, sortedR k = true := by
 obtain ⟨h1, h2, h3⟩ := sortedR_kids h
 refine ⟨own_plain h1 hp, ?_, h3⟩
 simp only [shapeB, hf, Option.getD_some, cond_true, beq_iff_eq] at h2
 exact h2
theorem map2 {α β : Type} {f : α → β} {l : List α} {x y : β} (h : l.map f = [x, y]) : ∃ a b, l = [a, b] ∧ f a = x ∧ f b = y := by
 match l, h with
 | [a, b], h => simp at h; exact ⟨a, b, rfl, h.1, h.2⟩
theorem map1 {α β : Type} {f : α → β} {l : List α} {x : β} (h : l.map f = [x]) : ∃ a, l = [a] ∧ f a = x := by
 match l, h with
 | [a], h => simp at h; exact ⟨a, rfl, h⟩
theorem map3 {α β : Type} {f : α → β} {l : List α} {x y z : β} (h : l.map f = [x, y, z]) : ∃ a b c, l = [a, b, c] ∧ f a = x ∧ f b = y ∧ f c = z := by
 match l, h with
 | [a, b, c], h => simp at h; exact ⟨a, b, c, rfl, h.1, h.2.1, h.2.2⟩
theorem form2 {n : Node} {k x y : Int} (h : sortedR n = true) (ho : n.op = k) (hp : plainOp k) (hf : F153 k = some ([x, y], true)) : ∃ a b, n = nd k [a, b] ∧ sortS a = x ∧ sortS b = y ∧ sortedR a = true ∧ sortedR b = true := by
 obtain ⟨h1, h2, h3⟩ := form_list h (by rw [ho]; exact hp) (by rw [ho]; exact hf)
 obtain ⟨a, b, hk, ha, hb⟩ := map2 h2
 rw [ho, hk] at h1
 rw [hk] at h3
 exact ⟨a, b, h1, ha, hb, h3 a (by simp), h3 b (by simp)⟩
theorem form1 {n : Node} {k x : Int} (h : sortedR n = true) (ho : n.op = k) (hp : plainOp k) (hf : F153 k = some ([x], true)) : ∃ a, n = nd k [a] ∧ sortS a = x ∧ sortedR a = true := by
 obtain ⟨h1, h2, h3⟩ := form_list h (by rw [ho]; exact hp) (by rw [ho]; exact hf)
 obtain ⟨a, hk, ha⟩ := map1 h2
 rw [ho, hk] at h1
 rw [hk] at h3
 exact ⟨a, h1, ha, h3 a (by simp)⟩
theorem form3 {n : Node} {k x y z : Int} (h : sortedR n = true) (ho : n.op = k) (hp : plainOp k) (hf : F153 k = some ([x, y, z], true)) : ∃ a b c, n = nd k [a, b, c] ∧ sortS a = x ∧ sortS b = y ∧ sortS c = z ∧ sortedR a = true ∧ sortedR b = true ∧ sortedR c = true := by
 obtain ⟨h1, h2, h3⟩ := form_list h (by rw [ho]; exact hp) (by rw [ho]; exact hf)
 obtain ⟨a, b, c, hk, ha, hb, hc⟩ := map3 h2
 rw [ho, hk] at h1
 rw [hk] at h3
 exact ⟨a, b, c, h1, ha, hb, hc, h3 a (by simp), h3 b (by simp), h3 c (by simp)⟩
theorem form0 {n : Node} {k : Int} (h : sortedR n = true) (ho : n.op = k) (hp : plainOp k) (hf : F153 k = some ([], true)) : n = nd k [] := by
 obtain ⟨h1, h2, h3⟩ := form_list h (by rw [ho]; exact hp) (by rw [ho]; exact hf)
 rw [ho, List.map_eq_nil_iff.1 h2] at h1
 exact h1
def eqSort (s : Int) : Prop := s = 1 ∨ 3 ≤ s
theorem okB_eq {x : Int} (h : okB x = true) : eqSort x := by
 unfold okB at h
 cases hx : x == 1 with
 | true => exact .inl (beq_iff_eq.1 hx)
 | false => rw [hx] at h; exact .inr (of_decide_eq_true h)
theorem formIte {n : Node} (h : sortedR n = true) (ho : n.op = 8) : ∃ c a b, n = nd 8 [c, a, b] ∧ sortS c = 2 ∧ sortS a = sortS b ∧ eqSort (sortS a) ∧ sortedR c = true ∧ sortedR a = true ∧ sortedR b = true := by
 obtain ⟨h1, h2, h3⟩ := sortedR_kids h
 have h1 := own_plain h1 (by rw [ho]; refine ⟨?_, ?_, ?_, ?_, ?_⟩ <;> decide)
 have e153 : F153 8 = some ([], false) := rfl
 rw [ho] at h2 h1
 simp only [shapeB, e153, Option.getD_some, cond_false] at h2
 match hk : n.kids, h2, h3 with
 | [c, a, b], h2, h3 =>
   rw [hk] at h1
   have h2 : ((sortS c == 2) && ((sortS a == sortS b) && okB (sortS a))) = true := h2
   simp only [Bool.and_eq_true, beq_iff_eq] at h2
   exact ⟨c, a, b, h1, h2.1, h2.2.1, okB_eq (h2.2.1 ▸ h2.2.2), h3 c (by simp), h3 a (by simp), h3 b (by simp)⟩
 | [], h2, _ => cases h2
 | [_], h2, _ => cases h2
 | [_, _], h2, _ => cases h2
 | _ :: _ :: _ :: _ :: _, h2, _ => cases h2
end Go.Abs.Try
namespace Go.Abs.Try
set_option maxRecDepth 100000
end Go.Abs.Try
namespace Go.Abs.Try
set_option maxRecDepth 100000
theorem nd_op (k : Int) (ks : List Node) : (nd k ks).op = k := rfl
theorem nd_kids (k : Int) (ks : List Node) : (nd k ks).kids = ks := rfl
theorem nd_sort (k : Int) (ks : List Node) : (nd k ks).sortf = 0 := rfl
theorem nd_num (k : Int) (ks : List Node) : (nd k ks).num = 0 := rfl
theorem nd_name (k : Int) (ks : List Node) : (nd k ks).name = ⟨#[]⟩ := rfl
theorem nd_mk (k : Int) (ks : List Node) : (⟨k, 0, ⟨#[]⟩, 0, ks⟩ : Node) = nd k ks := rfl
theorem nd_size (k : Int) (ks : List Node) : (nd k ks).size = 1 + (ks.map Node.size).sum := Node.size_eq _
where plainB (k : Int) : Bool := !(k == 1) && !(k == 3) && !(k == 2) && !(k == 7) && !(k == 42)
theorem plain_of (k : Int) (h : (k == 1 || k == 3 || k == 2 || k == 7 || k == 42) = false) : plainOp k := by
 simp only [Bool.or_eq_false_iff, beq_eq_false_iff_ne] at h
 exact ⟨h.1.1.1.1, h.1.1.1.2, h.1.1.2, h.1.2, h.2⟩
theorem fSing {n : Node} (h : sortedR n = true) (ho : n.op = 10) : ∃ a, n = nd 10 [a] ∧ sortS a = 1 ∧ sortedR a = true := form1 h ho (plain_of 10 rfl) rfl
theorem fEmpty {n : Node} (h : sortedR n = true) (ho : n.op = 9) : n = nd 9 [] := form0 h ho (plain_of 9 rfl) rfl
theorem fMem {n : Node} (h : sortedR n = true) (ho : n.op = 40) : ∃ a b, n = nd 40 [a, b] ∧ sortS a = 1 ∧ sortS b = 4 ∧ sortedR a = true ∧ sortedR b = true := form2 h ho (plain_of 40 rfl) rfl
theorem fSub {n : Node} (h : sortedR n = true) (ho : n.op = 41) : ∃ a b, n = nd 41 [a, b] ∧ sortS a = 4 ∧ sortS b = 4 ∧ sortedR a = true ∧ sortedR b = true := form2 h ho (plain_of 41 rfl) rfl
theorem fCup {n : Node} (h : sortedR n = true) (ho : n.op = 11) : ∃ a b, n = nd 11 [a, b] ∧ sortS a = 4 ∧ sortS b = 4 ∧ sortedR a = true ∧ sortedR b = true := form2 h ho (plain_of 11 rfl) rfl
theorem fCap {n : Node} (h : sortedR n = true) (ho : n.op = 12) : ∃ a b, n = nd 12 [a, b] ∧ sortS a = 4 ∧ sortS b = 4 ∧ sortedR a = true ∧ sortedR b = true := form2 h ho (plain_of 12 rfl) rfl
theorem fMinus {n : Node} (h : sortedR n = true) (ho : n.op = 13) : ∃ a b, n = nd 13 [a, b] ∧ sortS a = 4 ∧ sortS b = 4 ∧ sortedR a = true ∧ sortedR b = true := form2 h ho (plain_of 13 rfl) rfl
theorem fSel {n : Node} (h : sortedR n = true) (ho : n.op = 14) : ∃ a b, n = nd 14 [a, b] ∧ sortS a = 5 ∧ sortS b = 1 ∧ sortedR a = true ∧ sortedR b = true := form2 h ho (plain_of 14 rfl) rfl
theorem fSto {n : Node} (h : sortedR n = true) (ho : n.op = 15) : ∃ a i x, n = nd 15 [a, i, x] ∧ sortS a = 5 ∧ sortS i = 1 ∧ sortS x = 1 ∧ sortedR a = true ∧ sortedR i = true ∧ sortedR x = true := form3 h ho (plain_of 15 rfl) rfl
end Go.Abs.Try
namespace Go.Abs.Try
set_option maxRecDepth 100000
theorem dT {p : Prop} [Decidable p] (h : p) : (some true : Option Bool) = some (decide p) := by rw [decide_eq_true h]
section
open Classical
variable (N : Nat) (n : Node)
end
end Go.Abs.Try
namespace Go.Abs.Try
set_option maxRecDepth 100000
section
open Classical
variable (N : Nat) (n : Node)
end
end Go.Abs.Try
namespace Go.Abs.Try
set_option maxRecDepth 100000
section
open Classical
variable (N : Nat) (n : Node)
end
end Go.Abs.Try
namespace Go.Abs.Try
set_option maxRecDepth 100000
section
open Classical
variable (N : Nat) (n : Node)
end
end Go.Abs.Try
namespace Go.Abs.Try
set_option maxRecDepth 100000
section
variable (N : Nat) (n : Node)
end
end Go.Abs.Try
namespace Go.Abs.Try
set_option maxRecDepth 100000
section
open Classical
variable (N : Nat) (n : Node)
theorem sortS_ite (c x y : Node) : sortS (nd 8 [c, x, y]) = sortS x := by rw [sortS_eq]; rfl
end
end Go.Abs.Try
namespace Go.Abs.Try
set_option maxRecDepth 100000
theorem ev_kids {m : List Entry} {n : Node} (h : (evalR m n).2 = true) : ∀ x ∈ n.kids, (evalR m x).2 = true := by
 rw [evalR_eq] at h
 cases hall : (n.kids.map (evalR m)).all (·.2) with
 | false => rw [hall] at h; cases h
 | true => exact fun x hx => List.all_eq_true.1 hall _ (List.mem_map.2 ⟨x, hx, rfl⟩)
theorem ev_all {m : List Entry} {ks : List Node} (h : ∀ x ∈ ks, (evalR m x).2 = true) : (ks.map (evalR m)).all (·.2) = true := by
 rw [List.all_eq_true]
 intro y hy
 obtain ⟨x, hx, rfl⟩ := List.mem_map.1 hy
 exact h x hx
theorem ev_nd {m : List Entry} {k : Int} {ks : List Node} (h13 : ((k == 1) || (k == 3)) = false) (h : ∀ x ∈ ks, (evalR m x).2 = true) : evalR m (nd k ks) = applyR k 0 ((ks.map (evalR m)).map (·.1)) := by
 rw [evalR_eq, nd_kids, nd_op, nd_num, ev_all h, cond_true, h13, cond_false]
theorem ev_look {m : List Entry} {n : Node} (h13 : ((n.op == 1) || (n.op == 3)) = true) (h : ∀ x ∈ n.kids, (evalR m x).2 = true) : evalR m n = (lookR n.name ((n.kids.map (evalR m)).map (·.1)) n.sortf m, true) := by
 rw [evalR_eq, ev_all h, cond_true, h13, cond_true]
theorem look_vg (nm : ByteArray) (args : List Val) (s : Int) : ∀ m : List Entry, (∀ e ∈ m, VG e.entryVal.valSort e.entryVal) → VG s (lookR nm args s m)
 | [], _ => default_vg s
 | x :: m, h => by
   rw [lookR]
   cases hc : (x.entryName.toList == nm.toList) && ((x.entryVal.valSort == s) && sameVs x.entryArgs args) with
   | true =>
     rw [Bool.and_eq_true, Bool.and_eq_true] at hc
     have := h x (by simp)
     rw [beq_iff_eq.1 hc.2.1] at this
     exact this
   | false => exact look_vg nm args s m fun e he => h e (by simp [he])
theorem set_vg {l : List Int} (h : asc l) : VG 4 ⟨4, 0, l, [], []⟩ := ⟨rfl, fun _ => ⟨rfl, rfl, rfl, h⟩, fun h => (by cases h)⟩
theorem sortC_45 {op s : Int} (h : sortC op s = 4 ∨ sortC op s = 5) : op = 1 ∨ op = 3 ∨ op = 9 ∨ op = 10 ∨ op = 11 ∨ op = 12 ∨ op = 13 ∨ op = 15 := by
 unfold sortC at h
 by_cases h1 : op = 1; · exact .inl h1
 by_cases h3 : op = 3; · exact .inr (.inl h3)
 by_cases h9 : op = 9; · exact .inr (.inr (.inl h9))
 by_cases h10 : op = 10; · exact .inr (.inr (.inr (.inl h10)))
 by_cases h11 : op = 11; · exact .inr (.inr (.inr (.inr (.inl h11))))
 by_cases h12 : op = 12; · exact .inr (.inr (.inr (.inr (.inr (.inl h12)))))
 by_cases h13 : op = 13; · exact .inr (.inr (.inr (.inr (.inr (.inr (.inl h13))))))
 by_cases h15 : op = 15; · exact .inr (.inr (.inr (.inr (.inr (.inr (.inr h15))))))
 rw [if_neg h1, if_neg h3, if_neg h9, if_neg h10, if_neg h11, if_neg h12, if_neg h13, if_neg h15] at h
 exfalso
 have key : ∀ c (d : Decidable c) (x y : Int), (x ≠ 4 ∧ x ≠ 5) → (y ≠ 4 ∧ y ≠ 5) → (@ite _ c d x y ≠ 4 ∧ @ite _ c d x y ≠ 5) := by
   intro c d x y hx hy
   split
   · exact hx
   · exact hy
 have c1 : (1 : Int) ≠ 4 ∧ (1 : Int) ≠ 5 := by decide
 have c2 : (2 : Int) ≠ 4 ∧ (2 : Int) ≠ 5 := by decide
 have c0 : (0 : Int) ≠ 4 ∧ (0 : Int) ≠ 5 := by decide
 have := key (op = 2) inferInstance _ _ c1 (key (op = 4) inferInstance _ _ c1 (key (op = 5) inferInstance _ _ c1 (key (op = 6) inferInstance _ _ c1 (key (op = 7) inferInstance _ _ c1 (key (op = 14) inferInstance _ _ c1 (key (op = 16) inferInstance _ _ c1 (key (op ≥ 30) inferInstance _ _ (key (op ≤ 42) inferInstance _ _ c2 c0) c0)))))))
 rcases h with h | h
 · exact this.1 h
 · exact this.2 h
theorem ev_ok {m : List Entry} (hm : MOk m) {n : Node} (hb : n.size ≤ 1048576) (hs : sortedR n = true) (h : (evalR m n).2 = true) : VOk (evalR m n).1 :=
 (eval127 m hm (1048601 + n.size) n (by omega) hb (fine_all n hs)).2 h
theorem eval_vg (m : List Entry) (hm : MOk m) (hv : ∀ e ∈ m, VG e.entryVal.valSort e.entryVal) : ∀ (P : Nat) (n : Node), n.size < P → n.size ≤ 1048576 → sortedR n = true → (evalR m n).2 = true → sortS n = 4 ∨ sortS n = 5 → VG (sortS n) (evalR m n).1
 | 0, _, h, _, _, _, _ => absurd h (Nat.not_lt_zero _)
 | P + 1, n, h, hz, hs, he, h45 => by
   have hk := ev_kids he
   by_cases h8 : n.op = 8
   · obtain ⟨c, a, b, rfl, _, hab, _, _, ha, hb⟩ := formIte hs h8
     simp only [nd_size, List.map_cons, List.map_nil, List.sum_cons, List.sum_nil] at h hz
     have e : (evalR m (nd 8 [c, a, b])).1 = bif (evalR m c).1.valNum == 1 then (evalR m a).1 else (evalR m b).1 := by
       rw [show evalR m (nd 8 [c, a, b]) = _ from ev_nd rfl hk]; rfl
     rw [sortS_ite] at h45 ⊢
     rw [e]
     cases (evalR m c).1.valNum == 1 with
     | true => exact eval_vg m hm hv P a (by omega) (by omega) ha (hk a (by simp [nd_kids])) h45
     | false =>
       rw [cond_false, hab]
       rw [hab] at h45
       exact eval_vg m hm hv P b (by omega) (by omega) hb (hk b (by simp [nd_kids])) h45
   have hsc : sortS n = sortC n.op n.sortf := by rw [sortS_eq, if_neg h8]
   rw [hsc] at h45
   have look : n.op = 1 ∨ n.op = 3 → VG (sortS n) (evalR m n).1 := by
     intro h13
     rw [ev_look (by rcases h13 with h | h <;> rw [h] <;> rfl) hk]
     have : sortS n = n.sortf := by rw [hsc]; rcases h13 with h | h <;> rw [h] <;> rfl
     rw [this]
     exact look_vg _ _ _ m hv
   have two : ∀ (k : Int), (k = 11 ∨ k = 12 ∨ k = 13) → (∃ a b, n = nd k [a, b] ∧ sortS a = 4 ∧ sortS b = 4 ∧ sortedR a = true ∧ sortedR b = true) → VG (sortS n) (evalR m n).1 := by
     intro k hk3 ⟨a, b, e, sa, sb, ha, hb⟩
     subst e
     simp only [nd_size, List.map_cons, List.map_nil, List.sum_cons, List.sum_nil] at h hz
     have va := eval_vg m hm hv P a (by omega) (by omega) ha (hk a (by simp [nd_kids])) (.inl sa)
     rw [sa] at va
     rcases hk3 with rfl | rfl | rfl <;> (rw [show evalR m (nd _ [a, b]) = _ from ev_nd rfl hk]; exact set_vg (combL_asc _ _ (va.2.1 rfl).ord))
   rcases sortC_45 h45 with o | o | o | o | o | o | o | o
   · exact look (.inl o)
   · exact look (.inr o)
   · obtain rfl := fEmpty hs o
     rw [ev_nd rfl (by simp)]; exact set_vg .nil
   · obtain ⟨a, rfl, _⟩ := fSing hs o
     rw [show evalR m (nd 10 [a]) = _ from ev_nd rfl hk]; exact set_vg (List.pairwise_singleton _ _)
   · obtain ⟨a, b, r⟩ := fCup hs o; exact two 11 (.inl rfl) ⟨a, b, r⟩
   · obtain ⟨a, b, r⟩ := fCap hs o; exact two 12 (.inr (.inl rfl)) ⟨a, b, r⟩
   · obtain ⟨a, b, r⟩ := fMinus hs o; exact two 13 (.inr (.inr rfl)) ⟨a, b, r⟩
   · obtain ⟨a, i, x, rfl, sa, _, _, ha, _, hx⟩ := fSto hs o
     simp only [nd_size, List.map_cons, List.map_nil, List.sum_cons, List.sum_nil] at h hz
     have va := eval_vg m hm hv P a (by omega) (by omega) ha (hk a (by simp [nd_kids])) (.inr sa)
     rw [sa] at va
     rw [show evalR m (nd 15 [a, i, x]) = _ from ev_nd rfl hk]
     have ox := ev_ok hm (by omega) hx (hk x (by simp [nd_kids]))
     exact stored_vg (va.2.2 rfl) _ _ (fitsG_iff.2 ox.1)
theorem mem_nodesL {x k : Node} : ∀ {ks : List Node}, k ∈ ks → x ∈ nodes k → x ∈ nodesL ks
 | y :: ks, hk, hx => by
   rw [nodesL]
   rcases List.mem_cons.1 hk with rfl | hk
   · exact List.mem_append.2 (.inl hx)
   · exact List.mem_append.2 (.inr (mem_nodesL hk hx))
theorem nodes_sub {n k : Node} (hk : k ∈ n.kids) {x : Node} (hx : x ∈ nodes k) : x ∈ nodes n := by
 rw [nodes_eq]; exact List.mem_cons_of_mem _ (mem_nodesL hk hx)
end Go.Abs.Try
namespace Go.Abs.Try
set_option maxRecDepth 100000
theorem mid2 (i j : Nat) (h : i + j < 4611686018427387904) : IntKind.i64.wrap ((IntKind.u64.wrap (IntKind.i64.wrap ((i : Int) + (j : Int)))).fdiv (2 ^ (min (1 : Int).toNat (IntKind.u64).bits))) = (((i + j) / 2 : Nat) : Int) := by
 have e1 : IntKind.i64.wrap ((i : Int) + (j : Int)) = ((i + j : Nat) : Int) := by rw [wrap_id (by omega)]; omega
 have e2 : IntKind.u64.wrap ((i + j : Nat) : Int) = ((i + j : Nat) : Int) := by
   rw [IntKind.wrap_u64]
   exact Int.emod_eq_of_lt (by omega) (by omega)
 have e3 : (2 : Int) ^ (min (1 : Int).toNat (IntKind.u64).bits) = 2 := by decide
 rw [e1, e2, e3]
 have e4 : (((i + j : Nat) : Int)).fdiv 2 = (((i + j) / 2 : Nat) : Int) := by
   rw [Int.fdiv_eq_ediv_of_nonneg _ (by omega)]; omega
 rw [e4, wrap_id (by omega)]
theorem less1063 (x y : Int) : F1063 x y = some (decide (x < y)) := by
 have h : ∀ z : Int, F1070 z = some false := fun z => by unfold F1070; rw [show (z == z) = true from beq_self_eq_true z]; rfl
 simp only [F1063, h, bindO_some, iteO_false]
theorem nan1064 (x : Int) : F1064 x = some false := by unfold F1064; rw [show (x == x) = true from beq_self_eq_true x]; rfl
structure Found (l : List Int) (t : Int) (i : Nat) (b : Bool) : Prop where
 le : i ≤ l.length
 hit : b = true → l[i]? = some t
 miss : b = false → l[i]? ≠ some t
theorem bin_loop (l : List Int) (t : Int) (hlen : l.length ≤ 4194304) : ∀ (d lo hi M : Nat), hi - lo ≤ d → d < M → lo ≤ hi → hi ≤ l.length →
   ∃ (i : Nat) (b : Bool), whileN (F1053_s1 t l) M ((lo : Int), (hi : Int)) = some ((i : Int), b) ∧ Found l t i b ∧
     (asc l → (∀ k x, l[k]? = some x → k < lo → x < t) → (∀ k x, l[k]? = some x → hi ≤ k → t ≤ x) → (∀ k x, l[k]? = some x → k < i → x < t) ∧ (∀ k x, l[k]? = some x → i ≤ k → t ≤ x)) := by
 intro d
 induction d with
 | zero =>
   intro lo hi M hd hM hlh hhi
   obtain ⟨K, rfl⟩ : ∃ K, M = K + 1 := ⟨M - 1, by omega⟩
   have e : lo = hi := by omega
   subst e
   have hdd : decide ((lo : Int) < (lo : Int)) = false := decide_eq_false (by omega)
   cases hu : l[lo]? with
   | none =>
     have hge := List.getElem?_eq_none_iff.1 hu
     have hdl : decide ((lo : Int) < (l.length : Int)) = false := decide_eq_false (by omega)
     exact ⟨lo, false, by simp only [whileN, F1053_s1, hdd, hdl, iteO_false, bindO_some], ⟨hhi, (fun h => by cases h), fun _ h => by rw [hu] at h; cases h⟩, fun _ h1 h2 => ⟨h1, h2⟩⟩
   | some x =>
     have hlt := (List.getElem?_eq_some_iff.1 hu).1
     have hdl : decide ((lo : Int) < (l.length : Int)) = true := decide_eq_true (by omega)
     cases hx : x == t with
     | true =>
       have := beq_iff_eq.1 hx
       subst this
       exact ⟨lo, true, by simp only [whileN, F1053_s1, hdd, hdl, iteO_false, iteO_true, bindO_some, atO_get hu, hx], ⟨hhi, fun _ => hu, fun h => by cases h⟩, fun _ h1 h2 => ⟨h1, h2⟩⟩
     | false =>
       exact ⟨lo, false, by simp only [whileN, F1053_s1, hdd, hdl, iteO_false, iteO_true, bindO_some, atO_get hu, hx, nan1064], ⟨hhi, (fun h => by cases h), fun _ h => by rw [hu] at h; injection h with h; subst h; simp at hx⟩, fun _ h1 h2 => ⟨h1, h2⟩⟩
 | succ d ih =>
   intro lo hi M hd hM hlh hhi
   by_cases hlt : lo < hi
   · obtain ⟨K, rfl⟩ : ∃ K, M = K + 1 := ⟨M - 1, by omega⟩
     have hdd : decide ((lo : Int) < (hi : Int)) = true := decide_eq_true (by omega)
     obtain ⟨h, hh⟩ : ∃ h, h = (lo + hi) / 2 := ⟨_, rfl⟩
     have hm := mid2 lo hi (by omega)
     rw [← hh] at hm
     have hlt2 : h < l.length := by omega
     obtain ⟨m, hu⟩ : ∃ m, l[h]? = some m := ⟨_, List.getElem?_eq_getElem hlt2⟩
     have hw : IntKind.i64.wrap ((h : Int) + 1) = ((h + 1 : Nat) : Int) := by rw [wrap_id (by omega)]; omega
     have ord : asc l → ∀ k j (x y : Int), l[k]? = some x → l[j]? = some y → k < j → x < y := fun ha k j x y h1 h2 h => by
       obtain ⟨a1, a2⟩ := List.getElem?_eq_some_iff.1 h1
       obtain ⟨b1, b2⟩ := List.getElem?_eq_some_iff.1 h2
       have := List.pairwise_iff_getElem.1 ha k j a1 b1 h
       rw [a2, b2] at this; exact this
     by_cases h0 : m < t
     · obtain ⟨i, b, e, hf, hs⟩ := ih (h + 1) hi K (by omega) (by omega) (by omega) hhi
       refine ⟨i, b, ?_, hf, fun ha h1 h2 => hs ha (fun k x hx hk => ?_) h2⟩
       · simp only [whileN, F1053_s1, hdd, iteO_true, hm, atO_get hu, less1063, bindO_some, decide_eq_true h0, hw]
         exact e
       · rcases Nat.lt_or_ge k h with h3 | h3
         · have := ord ha k h x m hx hu h3; omega
         · have e : k = h := by omega
           subst e
           rw [hu] at hx; injection hx with hx; subst hx; exact h0
     · obtain ⟨i, b, e, hf, hs⟩ := ih lo h K (by omega) (by omega) (by omega) (by omega)
       refine ⟨i, b, ?_, hf, fun ha h1 h2 => hs ha h1 (fun k x hx hk => ?_)⟩
       · simp only [whileN, F1053_s1, hdd, iteO_true, hm, atO_get hu, less1063, bindO_some, decide_eq_false h0, iteO_false]
         exact e
       · rcases Nat.lt_or_ge h k with h3 | h3
         · have := ord ha h k m x hu hx h3; omega
         · have e : k = h := by omega
           subst e
           rw [hu] at hx; injection hx with hx; subst hx; omega
   · exact ih lo hi M (by omega) (by omega) hlh hhi
structure Stands (l : List Int) (t : Int) (i : Nat) (b : Bool) : Prop extends Found l t i b where
 low : asc l → ∀ k x, l[k]? = some x → k < i → x < t
 high : asc l → ∀ k x, l[k]? = some x → i ≤ k → t ≤ x
 mem : asc l → b = hasL l t
theorem bin1053 (N : Nat) (l : List Int) (t : Int) (hN : l.length < N) (hl : l.length ≤ 4194304) : ∃ (i : Nat) (b : Bool), F1053 N l t = some ((i : Int), b) ∧ Stands l t i b := by
 obtain ⟨i, b, e, hf, hs⟩ := bin_loop l t hl l.length 0 l.length N (by omega) hN (by omega) (Nat.le_refl _)
 have hs2 := fun ha => hs ha (fun k x _ hk => by omega) (fun k x hx hk => by have := (List.getElem?_eq_some_iff.1 hx).1; omega)
 refine ⟨i, b, e, ⟨hf, fun ha => (hs2 ha).1, fun ha => (hs2 ha).2, fun ha => ?_⟩⟩
 cases b with
 | true => exact (hasL_iff.2 (List.mem_of_getElem? (hf.hit rfl))).symm
 | false =>
   cases hh : hasL l t with
   | false => rfl
   | true =>
     exfalso
     obtain ⟨k, hk⟩ := List.getElem?_of_mem (hasL_iff.1 hh)
     rcases Nat.lt_or_ge k i with h1 | h1
     · have := (hs2 ha).1 k t hk h1; omega
     · rcases Nat.lt_or_ge i k with h2 | h2
       · obtain ⟨hkl, _⟩ := List.getElem?_eq_some_iff.1 hk
         obtain ⟨y, hy⟩ : ∃ y, l[i]? = some y := ⟨_, List.getElem?_eq_getElem (by omega)⟩
         have h3 := (hs2 ha).2 i y hy (Nat.le_refl _)
         have h4 : y < t := by
           obtain ⟨a1, a2⟩ := List.getElem?_eq_some_iff.1 hy
           obtain ⟨b1, b2⟩ := List.getElem?_eq_some_iff.1 hk
           have := List.pairwise_iff_getElem.1 ha i k a1 b1 h2
           rw [a2, b2] at this; exact this
         omega
       · have : k = i := by omega
         subst this
         exact hf.miss rfl hk
end Go.Abs.Try
namespace Go.Abs.Try
set_option maxRecDepth 100000
theorem comp_upto (zs : List Int) (h : zs.Pairwise (· ≤ ·)) : ∀ m, m ≤ zs.length → asc (Lib.compactUpTo zs.toArray m) ∧ ∀ x, x ∈ Lib.compactUpTo zs.toArray m ↔ x ∈ zs.take m
 | 0, _ => ⟨by simp [Lib.compactUpTo, asc], fun x => by simp [Lib.compactUpTo]⟩
 | m + 1, hm => by
   obtain ⟨h1, h2⟩ := comp_upto zs h m (by omega)
   have hd : ∀ j, (hj : j < zs.length) → zs.toArray[j]! = zs[j] := fun j hj => by simp [hj]
   have ht : zs.take (m + 1) = zs.take m ++ [zs[m]] := by rw [List.take_succ_eq_append_getElem (by omega)]
   rw [Lib.compactUpTo_succ, hd m (by omega)]
   cases hk : Lib.keeps zs.toArray m with
   | true =>
     have hlt : ∀ x ∈ Lib.compactUpTo zs.toArray m, x < zs[m] := fun x hx => by
       have hx2 := (h2 x).1 hx
       obtain ⟨j, hj, e⟩ := List.mem_take_iff_getElem.1 hx2
       have hne : m ≠ 0 := by omega
       have hk2 := of_decide_eq_true hk
       have hk3 := hk2.resolve_left hne
       rw [hd m (by omega), hd (m - 1) (by omega)] at hk3
       have l1 : zs[m - 1]'(by omega) ≤ zs[m]'(by omega) := List.pairwise_iff_getElem.1 h (m - 1) m (by omega) (by omega) (by omega)
       have l2 : zs[j]'(by omega) ≤ zs[m - 1]'(by omega) := by
         rcases Nat.lt_or_ge j (m - 1) with q | q
         · exact List.pairwise_iff_getElem.1 h j (m - 1) (by omega) (by omega) q
         · have : j = m - 1 := by omega
           subst this; exact Int.le_refl _
       omega
     simp only [if_true]
     refine ⟨List.pairwise_append.2 ⟨h1, by simp, fun x hx y hy => by rw [List.mem_singleton] at hy; subst hy; exact hlt x hx⟩, fun x => ?_⟩
     rw [ht, List.mem_append, List.mem_append, h2]
   | false =>
     have hk2 := of_decide_eq_false hk
     have hne : m ≠ 0 := fun e => hk2 (.inl e)
     have he : zs[m]'(by omega) = zs[m - 1]'(by omega) := by
       have : ¬ zs.toArray[m]! ≠ zs.toArray[m - 1]! := fun h => hk2 (.inr h)
       rw [hd m (by omega), hd (m - 1) (by omega)] at this
       exact Classical.not_not.1 this
     simp only [Bool.false_eq_true, if_false, List.append_nil]
     refine ⟨h1, fun x => ?_⟩
     rw [ht, List.mem_append, List.mem_singleton, h2]
     refine ⟨.inl, fun hx => hx.elim id fun hx => ?_⟩
     rw [hx, he]
     exact List.mem_take_iff_getElem.2 ⟨m - 1, by omega, rfl⟩
theorem sort_sorted (l : List Int) : (sortF l).Pairwise (· ≤ ·) := by
 have := List.pairwise_mergeSort (le := fun x y : Int => decide (x ≤ y)) (fun a b c h1 h2 => by simp at *; omega) (fun a b => by simp; omega) l
 exact this.imp fun h => by simpa using h
theorem sort_mem {l : List Int} {x : Int} : x ∈ sortF l ↔ x ∈ l := by unfold sortF; exact List.mem_mergeSort
theorem comp_sort (l : List Int) : asc (compF (sortF l)) ∧ ∀ x, x ∈ compF (sortF l) ↔ x ∈ l := by
 obtain ⟨h1, h2⟩ := comp_upto (sortF l) (sort_sorted l) (sortF l).length (Nat.le_refl _)
 exact ⟨h1, fun x => (h2 x).trans (by rw [List.take_length]; exact sort_mem)⟩
theorem comp_len (l : List Int) : (compF (sortF l)).length ≤ l.length := by
 unfold compF Lib.compact Lib.compactUpTo
 rw [List.length_map]
 refine Nat.le_trans (List.length_filter_le _ _) ?_
 rw [List.length_range, sortF_length]
 exact Nat.le_refl _
theorem keep11 (b : List Int) : (keepC 11 b) = fun _ => true := by funext x; rfl
theorem fold_insU_mem {x : Int} : ∀ (b l : List Int), x ∈ b.foldl insU l ↔ x ∈ l ∨ x ∈ b
 | [], l => by simp
 | y :: b, l => by
   rw [List.foldl_cons, fold_insU_mem b (insU l y)]
   have : x ∈ insU l y ↔ x ∈ l ∨ x = y := by
     unfold insU
     cases hh : hasL l y with
     | true =>
       rw [cond_true]
       exact ⟨.inl, fun h => h.elim id fun e => by rw [e]; exact hasL_iff.1 hh⟩
     | false => rw [cond_false, insL_mem]; exact or_comm
   rw [this, List.mem_cons, or_assoc]
theorem comb11 {a : List Int} (b : List Int) (ha : asc a) : compF (sortF (a ++ b)) = combL 11 a b := by
 obtain ⟨h1, h2⟩ := comp_sort (a ++ b)
 refine asc_ext h1 (combL_asc 11 b ha) fun x => ?_
 rw [h2, List.mem_append]
 have : combL 11 a b = b.foldl insU a := by
   unfold combL
   rw [keep11, List.filter_eq_self.2 (by simp)]; rfl
 rw [this, fold_insU_mem]
theorem comb12 (a b : List Int) : combL 12 a b = a.filter fun x => hasL b x := by
 unfold combL
 rw [show ((12 : Int) == 11) = false from rfl, cond_false]
 refine List.filter_congr fun x _ => ?_
 simp [keepC]
theorem comb13 (a b : List Int) : combL 13 a b = a.filter fun x => !hasL b x := by
 unfold combL
 rw [show ((13 : Int) == 11) = false from rfl, cond_false]
 refine List.filter_congr fun x _ => ?_
 simp [keepC]
def WB (P : Nat) (v : Val) : Prop := (-1152921504606846976 ≤ v.valNum ∧ v.valNum ≤ 1152921504606846976) ∧ v.valSet.length ≤ P ∧ v.valAt.length ≤ P ∧ v.valTo.length = v.valAt.length
theorem WB.mono {P Q : Nat} {v : Val} (h : WB P v) (hq : P ≤ Q) : WB Q v := ⟨h.1, by have := h.2.1; omega, by have := h.2.2.1; omega, h.2.2.2⟩
theorem VOk.wb {v : Val} (h : VOk v) : WB 200 v := h
def Out (P : Nat) (st : Bool) (good : Prop) (ref : Val × Bool) (o : Option (Val × Bool)) : Prop := ∃ v st', o = some (v, st') ∧ WB P v ∧ (st = true → st' = true) ∧ (st = false → good → st' = !ref.2 ∧ (ref.2 = true → v = ref.1))
theorem wb_set {P : Nat} {l : List Int} (h : l.length ≤ P) : WB P ⟨4, 0, l, [], []⟩ := ⟨⟨by show (-1152921504606846976 : Int) ≤ 0; decide, by show (0 : Int) ≤ 1152921504606846976; decide⟩, h, by simp, rfl⟩
theorem out_set {P : Nat} {st : Bool} {good : Prop} {l l' : List Int} (h : l.length ≤ P) (hg : good → l = l') : Out P st good (⟨4, 0, l', [], []⟩, decide ((l'.length : Int) ≤ 200)) (iteO st (some ((⟨4, 0, l, [], []⟩ : Val), true)) (some ((⟨4, 0, l, [], []⟩ : Val), decide ((l.length : Int) > 200)))) := by
 cases st with
 | true => exact ⟨_, _, rfl, wb_set h, fun _ => rfl, fun h => by cases h⟩
 | false =>
   refine ⟨_, _, rfl, wb_set h, fun h => (by cases h), fun _ hgo => ?_⟩
   rw [hg hgo]
   refine ⟨?_, fun _ => rfl⟩
   by_cases hh : (l'.length : Int) ≤ 200
   · rw [decide_eq_true hh, decide_eq_false (by omega)]; rfl
   · rw [decide_eq_false hh, decide_eq_true (by omega)]; rfl
theorem bin_all (N : Nat) (l : List Int) (hb : l.length < N) (hb2 : l.length ≤ 4194304) : ∃ ff : Int → Nat × Bool, ∀ x, F1053 N l x = some (((ff x).1 : Int), (ff x).2) ∧ Stands l x (ff x).1 (ff x).2 := by
 have hf : ∀ x, ∃ p : Nat × Bool, F1053 N l x = some ((p.1 : Int), p.2) ∧ Stands l x p.1 p.2 := fun x => by
   obtain ⟨i, b, h⟩ := bin1053 N l x hb hb2
   exact ⟨(i, b), h⟩
 exact ⟨fun x => Classical.choose (hf x), fun x => Classical.choose_spec (hf x)⟩
theorem cap_fold (N : Nat) (k : List Val) (b : Val) (hk : k[1]? = some b) (hb : b.valSet.length < N) (hb2 : b.valSet.length ≤ 4194304) (fin : List Int → Option (Val × Bool)) : ∃ f : Int → Bool, (asc b.valSet → ∀ x, f x = hasL b.valSet x) ∧ ∀ (l : List Int) (M i : Nat) (out : List Int), l.length < M → out.length + l.length ≤ 4194304 →
   foldN (F1401_s1 N k) fin M l i out = fin (out ++ l.filter f) := by
 obtain ⟨ff, hff⟩ := bin_all N b.valSet hb hb2
 refine ⟨fun x => (ff x).2, fun ha x => (hff x).2.mem ha, ?_⟩
 intro l
 induction l with
 | nil =>
   intro M i out hM _
   obtain ⟨K, rfl⟩ : ∃ K, M = K + 1 := ⟨M - 1, by simp at hM; omega⟩
   simp [foldN]
 | cons x l ih =>
   intro M i out hM ho
   obtain ⟨K, rfl⟩ : ∃ K, M = K + 1 := ⟨M - 1, by simp at hM; omega⟩
   simp only [List.length_cons] at hM ho
   have hx := (hff x).1
   have i1 := ih K (i + 1) (out ++ [x]) (by omega) (by simp; omega)
   have i0 := ih K (i + 1) out (by omega) (by omega)
   simp only [foldN, F1401_s1, show atO k 1 = some b from atO_lit (i := 1) rfl hk, bindO_some, hx, List.filter_cons, fits8 (show out.length + 1 ≤ 8388608 by omega)]
   cases hc : (ff x).2 with
   | true => simp only [iteO_true, bindO_some, if_true]; exact i1.trans (by simp)
   | false => simp only [iteO_false, bindO_some, Bool.false_eq_true, if_false]; exact i0
theorem minus_fold (N : Nat) (k : List Val) (b : Val) (hk : k[1]? = some b) (hb : b.valSet.length < N) (hb2 : b.valSet.length ≤ 4194304) (fin : List Int → Option (Val × Bool)) : ∃ f : Int → Bool, (asc b.valSet → ∀ x, f x = !hasL b.valSet x) ∧ ∀ (l : List Int) (M i : Nat) (out : List Int), l.length < M → out.length + l.length ≤ 4194304 →
   foldN (F1401_s2 N k) fin M l i out = fin (out ++ l.filter f) := by
 obtain ⟨ff, hff⟩ := bin_all N b.valSet hb hb2
 refine ⟨fun x => !(ff x).2, fun ha x => congrArg (!·) ((hff x).2.mem ha), ?_⟩
 intro l
 induction l with
 | nil =>
   intro M i out hM _
   obtain ⟨K, rfl⟩ : ∃ K, M = K + 1 := ⟨M - 1, by simp at hM; omega⟩
   simp [foldN]
 | cons x l ih =>
   intro M i out hM ho
   obtain ⟨K, rfl⟩ : ∃ K, M = K + 1 := ⟨M - 1, by simp at hM; omega⟩
   simp only [List.length_cons] at hM ho
   have hx := (hff x).1
   have i1 := ih K (i + 1) (out ++ [x]) (by omega) (by simp; omega)
   have i0 := ih K (i + 1) out (by omega) (by omega)
   simp only [foldN, F1401_s2, show atO k 1 = some b from atO_lit (i := 1) rfl hk, bindO_some, hx, List.filter_cons, fits8 (show out.length + 1 ≤ 8388608 by omega)]
   cases hc : (ff x).2 with
   | true => simp only [iteO_true, bindO_some, Bool.not_true, Bool.false_eq_true, if_false]; exact i0
   | false => simp only [iteO_false, bindO_some, Bool.not_false, if_true]; exact i1.trans (by simp)
end Go.Abs.Try
