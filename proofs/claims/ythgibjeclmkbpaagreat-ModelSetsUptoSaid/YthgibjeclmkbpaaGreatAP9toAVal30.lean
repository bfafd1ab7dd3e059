import Derived.Test.YthgibjeclmkbpaaGreatAMod1toAMod3
import Derived.Test.YthgibjeclmkbpaaGreatAD
set_option linter.unusedSimpArgs false
set_option linter.unusedVariables false
namespace Go.Abs.Try
set_option maxRecDepth 100000
def cB (x y : List UInt8) : Int := if x < y then -1 else if x = y then 0 else 1
end Go.Abs.Try
namespace Go.Abs.Try
set_option maxRecDepth 100000
end Go.Abs.Try
namespace Go.Abs.Try
set_option maxRecDepth 100000
end Go.Abs.Try
namespace Go.Abs.Try
set_option maxRecDepth 100000
end Go.Abs.Try
namespace Go.Abs.Try
set_option maxRecDepth 100000
end Go.Abs.Try
namespace Go.Abs.Try
set_option maxRecDepth 100000
theorem foldN_either {α β : Type} {step : Unit → Nat → α → Option (Sum Unit β)} {fin : Unit → Option β} (r : β) (full : List α) (hs : ∀ i x, full[i]? = some x → step () i x = some (.inl ()) ∨ step () i x = some (.inr r)) :
   ∀ (l : List α) (N i : Nat), full.drop i = l → l.length < N → (foldN step fin N l i () = fin () ∧ ∀ j x, i ≤ j → full[j]? = some x → step () j x = some (.inl ())) ∨ foldN step fin N l i () = some r
 | [], N, i, hd, hN => by
   obtain ⟨K, rfl⟩ : ∃ K, N = K + 1 := ⟨N - 1, by simp at hN; omega⟩
   refine .inl ⟨rfl, fun j x hj hx => ?_⟩
   have := (List.getElem?_eq_some_iff.1 hx).1
   have h2 := List.drop_eq_nil_iff.1 hd
   omega
 | x :: l, N, i, hd, hN => by
   obtain ⟨K, rfl⟩ : ∃ K, N = K + 1 := ⟨N - 1, by simp at hN; omega⟩
   obtain ⟨hx, hxs⟩ := drop_cons hd
   have ih := foldN_either (fin := fin) r full hs l K (i + 1) hxs (by simp at hN; omega)
   rcases hs i x hx with h | h
   · simp only [foldN, h, bindO_some]
     rcases ih with ⟨h1, h2⟩ | h1
     · refine .inl ⟨h1, fun j y hj hy => ?_⟩
       by_cases e : j = i
       · subst e; rw [hx] at hy; injection hy with hy; subst hy; exact h
       · exact h2 j y (by omega) hy
     · exact .inr h1
   · simp only [foldN, h, bindO_some]
     exact .inr trivial
theorem asc182 (N : Nat) (l : List Int) (h : l.length < N) (hl : l.length ≤ 1048576) : ∃ b, F182 N l = some b ∧ (b = true → l.length ≤ 200) := by
 have key := foldN_either (step := F182_s1 l) (fin := F182_f1 l) false l (fun i x hx => by
   have hi := (List.getElem?_eq_some_iff.1 hx).1
   simp only [F182_s1, fits181, bindO_some]
   cases fitsG x with
   | false => exact .inr rfl
   | true =>
     by_cases h0 : (i : Int) > 0
     · have hi1 : i - 1 < l.length := by omega
       have ha : atO l (IntKind.i64.wrap ((i : Int) - 1)) = some l[i - 1] := by
         rw [wrap_id (by omega)]
         exact atO_lit (i := i - 1) (by omega) (List.getElem?_eq_getElem hi1)
       rw [decide_eq_true h0]
       simp only [iteO_true, ha, bindO_some]
       cases decide (l[i - 1] ≥ x) with
       | true => exact .inr rfl
       | false => exact .inl rfl
     · rw [decide_eq_false h0]; exact .inl rfl) l N 0 rfl h
 rcases key with ⟨h1, _⟩ | h1
 · exact ⟨_, h1, fun e => by have := of_decide_eq_true e; omega⟩
 · exact ⟨_, h1, fun e => by cases e⟩
theorem val171 (N : Nat) (hN : 1048600 < N) (v : Val) (hv : VSmall v) : ∃ b, F171 N v = some b ∧ (b = true → VOk v) := by
 simp only [F171, fits181, bindO_some]
 obtain ⟨b1, s1, t1⟩ := asc182 N v.valSet (by have := hv.1; omega) hv.1
 obtain ⟨b2, s2, t2⟩ := asc182 N v.valAt (by have := hv.2.1; omega) hv.2.1
 cases decide (v.valSort < 1) with
 | true => exact ⟨_, rfl, fun e => by cases e⟩
 | false =>
   cases decide (v.valSort > 5) with
   | true => exact ⟨_, rfl, fun e => by cases e⟩
   | false =>
     simp only [iteO_false]
     cases hf : fitsG v.valNum with
     | false => exact ⟨_, rfl, fun e => by cases e⟩
     | true =>
       simp only [iteO_true, s1, s2, bindO_some]
       cases b1 with
       | false => exact ⟨_, rfl, fun e => by cases e⟩
       | true =>
         cases b2 with
         | false => exact ⟨_, rfl, fun e => by cases e⟩
         | true =>
           simp only [iteO_true]
           by_cases hl : (v.valTo.length : Int) = (v.valAt.length : Int)
           · rw [beq_iff_eq.2 hl, iteO_true]
             have hok : VOk v := ⟨fitsG_iff.1 hf, t1 rfl, t2 rfl, by omega⟩
             have key := foldN_either (step := F171_s1) (fin := F171_f1 v) false v.valTo (fun i x _ => by
               simp only [F171_s1, fits181, bindO_some]
               cases x == 0 with
               | true => exact .inr rfl
               | false =>
                 cases fitsG x with
                 | true => exact .inl rfl
                 | false => exact .inr rfl) v.valTo N 0 rfl (by have := hv.2.2; omega)
             have hfin : ∃ b, F171_f1 v () = some b := by
               simp only [F171_f1]
               cases v.valSort == 2 <;> cases v.valNum == 0 <;> cases v.valNum == 1 <;> cases (v.valSet.length : Int) == 0 <;> cases v.valSort == 5 <;> cases decide (v.valNum ≥ 0) <;> cases v.valSort == 4 <;> exact ⟨_, rfl⟩
             rcases key with ⟨h1, _⟩ | h1
             · obtain ⟨b, hb⟩ := hfin
               exact ⟨b, h1.trans hb, fun _ => hok⟩
             · exact ⟨_, h1, fun e => by cases e⟩
           · rw [beq_eq_false_iff_ne.2 hl]; exact ⟨_, rfl, fun e => by cases e⟩
structure MSmall (m : List Entry) : Prop where
 len : m.length ≤ 1048576
 args : ∀ e ∈ m, e.entryArgs.length ≤ 1048576 ∧ (∀ a ∈ e.entryArgs, VSmall a) ∧ VSmall e.entryVal
theorem entry157 (N : Nat) (hN : 1048600 < N) (e : Entry) (h1 : e.entryArgs.length ≤ 1048576) (h2 : ∀ a ∈ e.entryArgs, VSmall a) (h3 : VSmall e.entryVal) : ∃ b, F157 N e = some b ∧ (b = true → (∀ a ∈ e.entryArgs, VOk a) ∧ VOk e.entryVal) := by
 obtain ⟨b, _, hb⟩ := name_same N e.entryName (by omega)
 obtain ⟨b2, s2, t2⟩ := val171 N hN e.entryVal h3
 simp only [F157, hb, bindO_some]
 cases b with
 | false => exact ⟨_, rfl, fun e => by cases e⟩
 | true =>
   simp only [iteO_true]
   cases decide ((e.entryArgs.length : Int) > 8) with
   | true => exact ⟨_, rfl, fun e => by cases e⟩
   | false =>
     simp only [iteO_false, s2, bindO_some]
     cases b2 with
     | false => exact ⟨_, rfl, fun e => by cases e⟩
     | true =>
       simp only [iteO_true]
       have key := foldN_either (step := F157_s1 N) (fin := F157_f1) false e.entryArgs (fun i x hx => by
         obtain ⟨b, s, _⟩ := val171 N hN x (h2 x (List.mem_of_getElem? hx))
         simp only [F157_s1, s, bindO_some]
         cases b with
         | true => exact .inl rfl
         | false => exact .inr rfl) e.entryArgs N 0 rfl (by omega)
       rcases key with ⟨k1, k2⟩ | k1
       · refine ⟨_, k1, fun _ => ⟨fun a ha => ?_, t2 rfl⟩⟩
         obtain ⟨i, hi, ei⟩ := List.getElem_of_mem ha
         have hx : e.entryArgs[i]? = some a := by rw [List.getElem?_eq_getElem hi, ei]
         have := k2 i a (Nat.zero_le _) hx
         obtain ⟨b, s, t⟩ := val171 N hN a (h2 a ha)
         simp only [F157_s1, s, bindO_some] at this
         cases b with
         | true => exact t rfl
         | false => cases this
       · exact ⟨_, k1, fun e => by cases e⟩
end Go.Abs.Try
