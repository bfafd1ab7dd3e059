import Derived.Test.YthgibjeclmkbpaaDMod1toDP8
import Derived.Test.YthgibjeclmkbpaaDD
set_option linter.unusedSimpArgs false
set_option linter.unusedVariables false
namespace Go.Abs.Try
set_option maxRecDepth 100000
def zV : Val := ⟨0, 0, [], [], []⟩
def gV (v : List Val) (i : Nat) : Val := v.getD i zV
theorem at_gV {v : List Val} {i : Nat} (h : i < v.length) : atO v (i : Int) = some (gV v i) := by
 have : v[i]? = some v[i] := List.getElem?_eq_getElem h
 rw [atO_get this, gV, List.getD_eq_getElem?_getD, this]; rfl
theorem gV_mem {v : List Val} {i : Nat} (h : i < v.length) : gV v i ∈ v := by
 have : v[i]? = some v[i] := List.getElem?_eq_getElem h
 rw [gV, List.getD_eq_getElem?_getD, this]; exact List.getElem_mem h
def truthV (b : Bool) : Val := ⟨2, bif b then 1 else 0, [], [], []⟩
theorem truth186 (b : Bool) : F186 b = some (truthV b) := by cases b <;> rfl
def decB (op : Int) (v : List Val) : Bool :=
 bif op == 30 then true else
 bif op == 32 then (gV v 0).valNum == 0 else
 bif op == 33 then ((gV v 0).valNum == 1) && ((gV v 1).valNum == 1) else
 bif op == 34 then ((gV v 0).valNum == 1) || ((gV v 1).valNum == 1) else
 bif op == 35 then ((gV v 0).valNum == 0) || ((gV v 1).valNum == 1) else
 bif op == 36 then (gV v 0).valNum == (gV v 1).valNum else
 bif op == 37 then sameV (gV v 0) (gV v 1) else
 bif op == 38 then decide ((gV v 0).valNum ≤ (gV v 1).valNum) else
 bif op == 39 then decide ((gV v 0).valNum < (gV v 1).valNum) else
 bif op == 40 then hasL (gV v 1).valSet (gV v 0).valNum else
 bif op == 41 then (gV v 0).valSet.all (fun x => hasL (gV v 1).valSet x) else false
def arity (op : Int) : Nat :=
 bif (op == 4) || ((op == 5) || ((op == 11) || ((op == 12) || ((op == 13) || ((op == 14) || ((op == 33) || ((op == 34) || ((op == 35) || ((op == 36) || ((op == 37) || ((op == 38) || ((op == 39) || ((op == 40) || (op == 41)))))))))))))) then 2 else
 bif (op == 6) || ((op == 7) || ((op == 10) || ((op == 16) || (op == 32)))) then 1 else
 bif (op == 8) || (op == 15) then 3 else 0
def VOk (v : Val) : Prop := (-1152921504606846976 ≤ v.valNum ∧ v.valNum ≤ 1152921504606846976) ∧ v.valSet.length ≤ 200 ∧ v.valAt.length ≤ 200 ∧ v.valTo.length = v.valAt.length
theorem VOk.small {v : Val} (h : VOk v) : VSmall v := ⟨by have := h.2.1; omega, by have := h.2.2.1; omega, by have := h.2.2.2; have := h.2.2.1; omega⟩
theorem decide178 (N : Nat) (hN : 1048600 < N) (op : Int) (v : List Val) (hv : ∀ x ∈ v, VOk x) (ha : arity op ≤ v.length) : F178 N op v = some (truthV (decB op v)) := by
 have t := truth186 true; have f := truth186 false
 have g0 : 0 < v.length → atO v 0 = some (gV v 0) := fun h => at_gV (i := 0) h
 have g1 : 1 < v.length → atO v 1 = some (gV v 1) := fun h => at_gV (i := 1) h
 simp only [F178, decB]
 by_cases h : op = 30
 · subst h; exact t
 · rw [beq_eq_false_iff_ne.2 h]; simp only [iteO_false, cond_false]
   by_cases h : op = 32
   · subst h; have := g0 (by have : arity 32 = 1 := rfl; omega); simp only [this, truth186, iteO_true, bindO_some, beq_self_eq_true, cond_true]
   · rw [beq_eq_false_iff_ne.2 h]; simp only [iteO_false, cond_false]
     by_cases h : op = 33
     · subst h
       have a2 : arity 33 = 2 := rfl
       have e0 := g0 (by omega); have e1 := g1 (by omega)
       simp only [e0, e1, bindO_some, truth186, beq_self_eq_true, iteO_true, cond_true]
       cases (gV v 0).valNum == 1 <;> rfl
     · rw [beq_eq_false_iff_ne.2 h]; simp only [iteO_false, cond_false]
       by_cases h : op = 34
       · subst h
         have a2 : arity 34 = 2 := rfl
         have e0 := g0 (by omega); have e1 := g1 (by omega)
         simp only [e0, e1, bindO_some, truth186, beq_self_eq_true, iteO_true, cond_true]
         cases (gV v 0).valNum == 1 <;> rfl
       · rw [beq_eq_false_iff_ne.2 h]; simp only [iteO_false, cond_false]
         by_cases h : op = 35
         · subst h
           have a2 : arity 35 = 2 := rfl
           have e0 := g0 (by omega); have e1 := g1 (by omega)
           simp only [e0, e1, bindO_some, truth186, beq_self_eq_true, iteO_true, cond_true]
           cases (gV v 0).valNum == 0 <;> rfl
         · rw [beq_eq_false_iff_ne.2 h]; simp only [iteO_false, cond_false]
           by_cases h : op = 36
           · subst h
             have a2 : arity 36 = 2 := rfl
             have e0 := g0 (by omega); have e1 := g1 (by omega)
             simp only [e0, e1, bindO_some, truth186, beq_self_eq_true, iteO_true, cond_true]
           · rw [beq_eq_false_iff_ne.2 h]; simp only [iteO_false, cond_false]
             by_cases h : op = 37
             · subst h
               have a2 : arity 37 = 2 := rfl
               have e0 := g0 (by omega); have e1 := g1 (by omega)
               have hs := hv _ (gV_mem (v := v) (i := 0) (by omega))
               have hm := hs.small
               simp only [e0, e1, bindO_some, truth186, beq_self_eq_true, iteO_true, cond_true, same183 N (gV v 0) (gV v 1) ⟨by have := hm.1; omega, by have := hm.2.1; omega, by have := hm.2.2; omega⟩]
             · rw [beq_eq_false_iff_ne.2 h]; simp only [iteO_false, cond_false]
               by_cases h : op = 38
               · subst h
                 have a2 : arity 38 = 2 := rfl
                 have e0 := g0 (by omega); have e1 := g1 (by omega)
                 simp only [e0, e1, bindO_some, truth186, beq_self_eq_true, iteO_true, cond_true]
               · rw [beq_eq_false_iff_ne.2 h]; simp only [iteO_false, cond_false]
                 by_cases h : op = 39
                 · subst h
                   have a2 : arity 39 = 2 := rfl
                   have e0 := g0 (by omega); have e1 := g1 (by omega)
                   simp only [e0, e1, bindO_some, truth186, beq_self_eq_true, iteO_true, cond_true]
                 · rw [beq_eq_false_iff_ne.2 h]; simp only [iteO_false, cond_false]
                   by_cases h : op = 40
                   · subst h
                     have a2 : arity 40 = 2 := rfl
                     have e0 := g0 (by omega); have e1 := g1 (by omega)
                     have hs := (hv _ (gV_mem (v := v) (i := 1) (by omega))).small.1
                     simp only [e0, e1, bindO_some, truth186, beq_self_eq_true, iteO_true, cond_true, has184 (gV v 0).valNum (gV v 1).valSet N (by omega)]
                   · rw [beq_eq_false_iff_ne.2 h]; simp only [iteO_false, cond_false]
                     by_cases h : op = 41
                     · subst h
                       have a2 : arity 41 = 2 := rfl
                       have e0 := g0 (by omega); have e1 := g1 (by omega)
                       have hs0 := (hv _ (gV_mem (v := v) (i := 0) (by omega))).small.1
                       have hs := (hv _ (gV_mem (v := v) (i := 1) (by omega))).small.1
                       simp only [e0, bindO_some, beq_self_eq_true, iteO_true, cond_true]
                       rw [foldN_all (step := F178_s1 N v) (fin := F178_f1) (fun x => hasL (gV v 1).valSet x) (truthV false) (gV v 0).valSet N 0 (by omega) fun x hx i => by
                         simp only [F178_s1, e1, bindO_some, has184 x (gV v 1).valSet N (by omega), truth186]
                         cases hasL (gV v 1).valSet x <;> rfl]
                       cases (gV v 0).valSet.all fun x => hasL (gV v 1).valSet x <;> rfl
                     · rw [beq_eq_false_iff_ne.2 h]; simp only [iteO_false, cond_false]; exact f
def numV (x : Int) : Val := ⟨1, x, [], [], []⟩
theorem num173 (x : Int) : F173 x = some (numV x, fitsG x) := by simp only [F173, fits181, bindO_some]; rfl
def scaledR (c n : Int) : Val × Bool := (F174 c n).getD (zV, false)
theorem scaled174 (c n : Int) (hc : -1000000000000 ≤ c ∧ c ≤ 1000000000000) (hn : -1152921504606846976 ≤ n ∧ n ≤ 1152921504606846976) :
   F174 c n = some (scaledR c n) ∧ (scaledR c n).2 = fitsG (c * n) ∧ ((scaledR c n).2 = true → (scaledR c n).1 = numV (c * n)) := by
 have key : ∃ r, F174 c n = some r ∧ r.2 = fitsG (c * n) ∧ (r.2 = true → r.1 = numV (c * n)) := by
   -- |c| = k > 0: n > G / k, n < -(G / k), or between
   have main : ∀ k m : Int, 0 < k → k ≤ 1000000000000 → (-1152921504606846976 ≤ m ∧ m ≤ 1152921504606846976) →
       ∃ r, iteO (decide (k = 0)) none (iteO (decide (m > (IntKind.i64.wrap ((1152921504606846976 : Int).tdiv k)))) (some ((⟨1, 0, [], [], []⟩ : Val), false)) (iteO (decide (m < (IntKind.i64.wrap (0 - (IntKind.i64.wrap ((1152921504606846976 : Int).tdiv k)))))) (some ((⟨1, 0, [], [], []⟩ : Val), false)) (bindO (F173 (IntKind.i64.wrap (k * m))) fun r2 => some (r2.1, r2.2)))) = some r ∧ r.2 = fitsG (k * m) ∧ (r.2 = true → r.1 = numV (k * m)) := by
     intro k m hk hk2 hm
     have hd : (1152921504606846976 : Int).tdiv k = 1152921504606846976 / k := Int.tdiv_eq_ediv_of_nonneg (by omega)
     have hq0 : 0 ≤ 1152921504606846976 / k := Int.ediv_nonneg (by omega) (by omega)
     have hq1 : 1152921504606846976 / k ≤ 1152921504606846976 := Int.ediv_le_self _ (by omega)
     have w1 : IntKind.i64.wrap ((1152921504606846976 : Int).tdiv k) = 1152921504606846976 / k := by rw [hd]; exact wrap_id (by omega)
     have w2 : IntKind.i64.wrap (0 - 1152921504606846976 / k) = -(1152921504606846976 / k) := by rw [wrap_id (by omega)]; omega
     have hkm : 1152921504606846976 / k * k ≤ 1152921504606846976 := Int.ediv_mul_le _ (by omega)
     have hkm2 : 1152921504606846976 < (1152921504606846976 / k + 1) * k := Int.lt_ediv_add_one_mul_self _ hk
     rw [decide_eq_false (by omega : ¬ k = 0), iteO_false, w1, w2]
     by_cases h1 : m > 1152921504606846976 / k
     · have : fitsG (k * m) = false := by
         have : (1152921504606846976 / k + 1) * k ≤ m * k := Int.mul_le_mul_of_nonneg_right (by omega) (by omega)
         have e : k * m = m * k := Int.mul_comm _ _
         simp only [fitsG, Bool.and_eq_false_iff, decide_eq_false_iff_not]; right; omega
       rw [decide_eq_true h1, iteO_true]
       exact ⟨_, rfl, this.symm, fun h => by cases h⟩
     · rw [decide_eq_false h1, iteO_false]
       by_cases h2 : m < -(1152921504606846976 / k)
       · have : fitsG (k * m) = false := by
           have : m * k ≤ -(1152921504606846976 / k + 1) * k := Int.mul_le_mul_of_nonneg_right (by omega) (by omega)
           have e : k * m = m * k := Int.mul_comm _ _
           have e2 : -(1152921504606846976 / k + 1) * k = -((1152921504606846976 / k + 1) * k) := Int.neg_mul _ _
           simp only [fitsG, Bool.and_eq_false_iff, decide_eq_false_iff_not]; left; omega
         rw [decide_eq_true h2, iteO_true]
         exact ⟨_, rfl, this.symm, fun h => by cases h⟩
       · have u1 : m * k ≤ 1152921504606846976 / k * k := Int.mul_le_mul_of_nonneg_right (by omega) (by omega)
         have u2 : -(1152921504606846976 / k) * k ≤ m * k := Int.mul_le_mul_of_nonneg_right (by omega) (by omega)
         have e : k * m = m * k := Int.mul_comm _ _
         have e2 : -(1152921504606846976 / k) * k = -(1152921504606846976 / k * k) := Int.neg_mul _ _
         rw [decide_eq_false h2, iteO_false, wrap_id (by omega), num173, bindO_some]
         exact ⟨_, rfl, rfl, fun _ => rfl⟩
   simp only [F174]
   by_cases h0 : n = 0
   · subst h0
     rw [beq_self_eq_true, iteO_true, Int.mul_zero, wrap_id (by omega), num173, bindO_some]
     exact ⟨_, rfl, rfl, fun _ => rfl⟩
   · rw [beq_eq_false_iff_ne.2 h0, iteO_false]
     by_cases h1 : c = 0
     · subst h1
       rw [beq_self_eq_true, iteO_true, Int.zero_mul, wrap_id (by omega), num173, bindO_some]
       exact ⟨_, rfl, rfl, fun _ => rfl⟩
     · rw [beq_eq_false_iff_ne.2 h1, iteO_false]
       by_cases h2 : c < 0
       · have e1 : IntKind.i64.wrap (0 - c) = -c := by rw [wrap_id (by omega)]; omega
         have e2 : IntKind.i64.wrap (0 - n) = -n := by rw [wrap_id (by omega)]; omega
         rw [decide_eq_true h2, iteO_true, e1, e2]
         have := main (-c) (-n) (by omega) (by omega) (by omega)
         rw [Int.neg_mul_neg] at this ⊢
         exact this
       · rw [decide_eq_false h2, iteO_false]
         exact main c n (by omega) (by omega) hn
 obtain ⟨r, h1, h2, h3⟩ := key
 have : scaledR c n = r := by rw [scaledR, h1]; rfl
 rw [this]; exact ⟨h1, h2, h3⟩
end Go.Abs.Try
namespace Go.Abs.Try
set_option maxRecDepth 100000
def applyR (op num : Int) (v : List Val) : Val × Bool :=
 bif op == 2 then (numV num, fitsG num) else
 bif op == 4 then (numV ((gV v 0).valNum + (gV v 1).valNum), fitsG ((gV v 0).valNum + (gV v 1).valNum)) else
 bif op == 5 then (numV ((gV v 0).valNum - (gV v 1).valNum), fitsG ((gV v 0).valNum - (gV v 1).valNum)) else
 bif op == 6 then (numV (0 - (gV v 0).valNum), fitsG (0 - (gV v 0).valNum)) else
 bif op == 7 then scaledR num (gV v 0).valNum else
 bif op == 8 then (bif (gV v 0).valNum == 1 then gV v 1 else gV v 2, true) else
 bif op == 10 then (⟨4, 0, [(gV v 0).valNum], [], []⟩, true) else
 bif (op == 11) || ((op == 12) || (op == 13)) then (⟨4, 0, combL op (gV v 0).valSet (gV v 1).valSet, [], []⟩, decide (((combL op (gV v 0).valSet (gV v 1).valSet).length : Int) ≤ 200)) else
 bif op == 14 then (numV (atV (gV v 0) (gV v 1).valNum), fitsG (atV (gV v 0) (gV v 1).valNum)) else
 bif op == 15 then (storedV (gV v 0) (gV v 1).valNum (gV v 2).valNum, decide (((storedV (gV v 0) (gV v 1).valNum (gV v 2).valNum).valAt.length : Int) ≤ 200)) else
 bif op == 16 then (numV (gV v 0).valNum, fitsG (gV v 0).valNum) else
 bif op == 9 then (⟨4, 0, [], [], []⟩, true) else (truthV (decB op v), true)
theorem numV_ok {x : Int} (h : fitsG x = true) : VOk (numV x) := ⟨fitsG_iff.1 h, by simp [numV], by simp [numV], by simp [numV]⟩
theorem truthV_ok (b : Bool) : VOk (truthV b) := by cases b <;> exact ⟨by decide, by decide, by decide, rfl⟩
theorem atZ_mem {i : Int} : ∀ {l r : List Int}, atZ i l r = 0 ∨ atZ i l r ∈ r
 | [], r => .inl (by cases r <;> rfl)
 | _ :: _, [] => .inl rfl
 | x :: l, y :: r => by
   rw [atZ]
   cases x == i with
   | true => exact .inr (by simp)
   | false =>
     rcases atZ_mem (i := i) (l := l) (r := r) with h | h
     · exact .inl h
     · exact .inr (by simp [h])
theorem apply160 (N : Nat) (hN : 1048600 < N) (n : Node) (v : List Val) (hv : ∀ x ∈ v, VOk x) (ha : arity n.op ≤ v.length) (hnum : n.op = 2 ∨ n.op = 7 → -1000000000000 ≤ n.num ∧ n.num ≤ 1000000000000) :
   F160 N n v = some (applyR n.op n.num v) ∧ ((applyR n.op n.num v).2 = true → VOk (applyR n.op n.num v).1) := by
 have g0 : 0 < v.length → atO v 0 = some (gV v 0) := fun h => at_gV (i := 0) h
 have g1 : 1 < v.length → atO v 1 = some (gV v 1) := fun h => at_gV (i := 1) h
 have g2 : 2 < v.length → atO v 2 = some (gV v 2) := fun h => at_gV (i := 2) h
 have m0 : 0 < v.length → VOk (gV v 0) := fun h => hv _ (gV_mem h)
 have m1 : 1 < v.length → VOk (gV v 1) := fun h => hv _ (gV_mem h)
 have m2 : 2 < v.length → VOk (gV v 2) := fun h => hv _ (gV_mem h)
 obtain ⟨op, srt, nm, num, ks⟩ := n
 simp only at ha hnum ⊢
 simp only [F160, applyR]
 by_cases h : op = 2
 · subst h
   simp only [beq_self_eq_true, iteO_true, cond_true, num173, bindO_some]
   exact ⟨trivial, fun h => numV_ok h⟩
 rw [beq_eq_false_iff_ne.2 h]; simp only [iteO_false, cond_false]
 by_cases h : op = 4
 · subst h
   have a2 : arity 4 = 2 := rfl
   have e0 := g0 (by omega); have e1 := g1 (by omega)
   have k0 := (m0 (by omega)).1; have k1 := (m1 (by omega)).1
   simp only [e0, e1, beq_self_eq_true, iteO_true, cond_true, num173, bindO_some, wrap_id (show -9223372036854775808 ≤ (gV v 0).valNum + (gV v 1).valNum ∧ (gV v 0).valNum + (gV v 1).valNum < 9223372036854775808 by omega)]
   exact ⟨trivial, fun h => numV_ok h⟩
 rw [beq_eq_false_iff_ne.2 h]; simp only [iteO_false, cond_false]
 by_cases h : op = 5
 · subst h
   have a2 : arity 5 = 2 := rfl
   have e0 := g0 (by omega); have e1 := g1 (by omega)
   have k0 := (m0 (by omega)).1; have k1 := (m1 (by omega)).1
   simp only [e0, e1, beq_self_eq_true, iteO_true, cond_true, num173, bindO_some, wrap_id (show -9223372036854775808 ≤ (gV v 0).valNum - (gV v 1).valNum ∧ (gV v 0).valNum - (gV v 1).valNum < 9223372036854775808 by omega)]
   exact ⟨trivial, fun h => numV_ok h⟩
 rw [beq_eq_false_iff_ne.2 h]; simp only [iteO_false, cond_false]
 by_cases h : op = 6
 · subst h
   have a2 : arity 6 = 1 := rfl
   have e0 := g0 (by omega)
   have k0 := (m0 (by omega)).1
   simp only [e0, beq_self_eq_true, iteO_true, cond_true, num173, bindO_some, wrap_id (show -9223372036854775808 ≤ 0 - (gV v 0).valNum ∧ 0 - (gV v 0).valNum < 9223372036854775808 by omega)]
   exact ⟨trivial, fun h => numV_ok h⟩
 rw [beq_eq_false_iff_ne.2 h]; simp only [iteO_false, cond_false]
 by_cases h : op = 7
 · subst h
   have a2 : arity 7 = 1 := rfl
   have e0 := g0 (by omega)
   have k0 := (m0 (by omega)).1
   obtain ⟨s1, s2, s3⟩ := scaled174 num (gV v 0).valNum (hnum (.inr rfl)) k0
   simp only [e0, beq_self_eq_true, iteO_true, cond_true, s1, bindO_some]
   refine ⟨trivial, fun h => ?_⟩
   rw [s3 h]; exact numV_ok (by rw [← s2]; exact h)
 rw [beq_eq_false_iff_ne.2 h]; simp only [iteO_false, cond_false]
 by_cases h : op = 8
 · subst h
   have a2 : arity 8 = 3 := rfl
   have e0 := g0 (by omega); have e1 := g1 (by omega); have e2 := g2 (by omega)
   simp only [e0, e1, e2, beq_self_eq_true, iteO_true, cond_true, bindO_some]
   cases (gV v 0).valNum == 1 with
   | true => exact ⟨rfl, fun _ => m1 (by omega)⟩
   | false => exact ⟨rfl, fun _ => m2 (by omega)⟩
 rw [beq_eq_false_iff_ne.2 h]; simp only [iteO_false, cond_false]
 by_cases h : op = 10
 · subst h
   have a2 : arity 10 = 1 := rfl
   have e0 := g0 (by omega)
   simp only [e0, beq_self_eq_true, iteO_true, cond_true, bindO_some]
   exact ⟨trivial, fun _ => ⟨⟨by simp only; omega, by simp only; omega⟩, by simp, by simp, rfl⟩⟩
 rw [beq_eq_false_iff_ne.2 h]; simp only [iteO_false, cond_false]
 have comb : (op = 11 ∨ op = 12 ∨ op = 13) → F175 N op (gV v 0).valSet (gV v 1).valSet = some (combL op (gV v 0).valSet (gV v 1).valSet) ∧ atO v 0 = some (gV v 0) ∧ atO v 1 = some (gV v 1) := by
   intro h3
   have a2 : arity op = 2 := by rcases h3 with rfl | rfl | rfl <;> rfl
   have k0 := (m0 (by omega)).2.1; have k1 := (m1 (by omega)).2.1
   exact ⟨combine175 N op _ _ (by omega) (by omega), g0 (by omega), g1 (by omega)⟩
 have setOk : ∀ l : List Int, decide ((l.length : Int) ≤ 200) = true → VOk ⟨4, 0, l, [], []⟩ := fun l h => ⟨⟨by simp only; omega, by simp only; omega⟩, by have := of_decide_eq_true h; simp only; omega, by simp, rfl⟩
 by_cases h : op = 11
 · obtain ⟨c1, e0, e1⟩ := comb (.inl h)
   subst h
   simp only [e0, e1, c1, beq_self_eq_true, iteO_true, cond_true, bindO_some, Bool.true_or]
   exact ⟨trivial, setOk _⟩
 by_cases h' : op = 12
 · obtain ⟨c1, e0, e1⟩ := comb (.inr (.inl h'))
   subst h'
   simp only [e0, e1, c1, show ((12 : Int) == 11) = false from rfl, beq_self_eq_true, iteO_true, iteO_false, cond_true, bindO_some, Bool.true_or, Bool.false_or]
   exact ⟨trivial, setOk _⟩
 by_cases h'' : op = 13
 · obtain ⟨c1, e0, e1⟩ := comb (.inr (.inr h''))
   subst h''
   simp only [e0, e1, c1, show ((13 : Int) == 11) = false from rfl, show ((13 : Int) == 12) = false from rfl, beq_self_eq_true, iteO_true, iteO_false, cond_true, bindO_some, Bool.false_or]
   exact ⟨trivial, setOk _⟩
 rw [beq_eq_false_iff_ne.2 h, beq_eq_false_iff_ne.2 h', beq_eq_false_iff_ne.2 h'']; simp only [iteO_false, cond_false, Bool.or_self]
 by_cases h : op = 14
 · subst h
   have a2 : arity 14 = 2 := rfl
   have e0 := g0 (by omega); have e1 := g1 (by omega)
   have k0 := m0 (by omega)
   simp only [e0, e1, at176 N (gV v 0) (gV v 1).valNum (by have := k0.2.2.1; omega) k0.2.2.2, beq_self_eq_true, iteO_true, cond_true, bindO_some, num173]
   exact ⟨trivial, fun h => numV_ok h⟩
 rw [beq_eq_false_iff_ne.2 h]; simp only [iteO_false, cond_false]
 by_cases h : op = 15
 · subst h
   have a2 : arity 15 = 3 := rfl
   have e0 := g0 (by omega); have e1 := g1 (by omega); have e2 := g2 (by omega)
   have k0 := m0 (by omega)
   simp only [e0, e1, e2, stored177 N (gV v 0) (gV v 1).valNum (gV v 2).valNum (by have := k0.2.2.1; omega) (by have := k0.2.2.1; omega) k0.2.2.2, beq_self_eq_true, iteO_true, cond_true, bindO_some]
   refine ⟨trivial, fun h => ⟨k0.1, by simp [storedV], by have := of_decide_eq_true h; omega, ?_⟩⟩
   exact (storeL_len _ _ _ _).2
 rw [beq_eq_false_iff_ne.2 h]; simp only [iteO_false, cond_false]
 by_cases h : op = 16
 · subst h
   have a2 : arity 16 = 1 := rfl
   have e0 := g0 (by omega)
   simp only [e0, beq_self_eq_true, iteO_true, cond_true, bindO_some, num173]
   exact ⟨trivial, fun h => numV_ok h⟩
 rw [beq_eq_false_iff_ne.2 h]; simp only [iteO_false, cond_false]
 by_cases h : op = 9
 · subst h
   simp only [beq_self_eq_true, iteO_true, cond_true]
   exact ⟨trivial, fun _ => ⟨⟨by simp only; omega, by simp only; omega⟩, by simp, by simp, rfl⟩⟩
 rw [beq_eq_false_iff_ne.2 h]; simp only [iteO_false, cond_false, decide178 N hN op v hv ha, bindO_some]
 exact ⟨trivial, fun _ => truthV_ok _⟩
def lookR (name : ByteArray) (args : List Val) (srt : Int) : List Entry → Val
 | [] => ⟨srt, 0, [], [], []⟩
 | x :: m => bif (x.entryName.toList == name.toList) && ((x.entryVal.valSort == srt) && sameVs x.entryArgs args) then x.entryVal else lookR name args srt m
structure MOk (m : List Entry) : Prop where
 len : m.length ≤ 1048576
 args : ∀ e ∈ m, e.entryArgs.length ≤ 1048576 ∧ (∀ a ∈ e.entryArgs, VOk a) ∧ VOk e.entryVal
theorem look159 (N : Nat) (hN : 1048600 < N) (m : List Entry) (hm : MOk m) (name : ByteArray) (args : List Val) (srt : Int) : F159 N m name args srt = some (lookR name args srt m) := by
 have key : ∀ (l : List Entry) (M i : Nat), l.length < M → (∀ e ∈ l, e ∈ m) → foldN (F159_s1 N args name srt) (F159_f1 srt) M l i () = some (lookR name args srt l) := by
   intro l
   induction l with
   | nil =>
     intro M i hM _
     obtain ⟨K, rfl⟩ : ∃ K, M = K + 1 := ⟨M - 1, by simp at hM; omega⟩
     rfl
   | cons e l ih =>
     intro M i hM he
     obtain ⟨K, rfl⟩ : ∃ K, M = K + 1 := ⟨M - 1, by simp at hM; omega⟩
     have h1 := ih K (i + 1) (by simp at hM; omega) fun k hk => he k (by simp [hk])
     obtain ⟨h2, h3, _⟩ := hm.args e (he e (by simp))
     simp only [foldN, F159_s1, lookR, sameArgs172 N (by omega) e.entryArgs args (by omega) fun a ha => (h3 a ha).small]
     cases e.entryName.toList == name.toList with
     | false => exact h1
     | true =>
       cases e.entryVal.valSort == srt with
       | false => exact h1
       | true =>
         simp only [iteO_true, bindO_some, Bool.true_and]
         cases sameVs e.entryArgs args with
         | true => rfl
         | false => exact h1
 exact key m N 0 (by have := hm.len; omega) fun _ h => h
theorem look_ok {m : List Entry} (hm : ∀ e ∈ m, VOk e.entryVal) (name : ByteArray) (args : List Val) (srt : Int) : VOk (lookR name args srt m) := by
 induction m with
 | nil => exact ⟨by show (-1152921504606846976 : Int) ≤ 0 ∧ (0 : Int) ≤ 1152921504606846976; decide, by simp [lookR], by simp [lookR], rfl⟩
 | cons e m ih =>
   rw [lookR]
   cases (e.entryName.toList == name.toList) && ((e.entryVal.valSort == srt) && sameVs e.entryArgs args) with
   | true => exact hm e (by simp)
   | false => exact ih fun k hk => hm k (by simp [hk])
mutual
def evalR (m : List Entry) : Node → Val × Bool
  | ⟨op, s, nm, num, ks⟩ =>
    bif (evalL m ks).all (·.2) then (bif (op == 1) || (op == 3) then (lookR nm ((evalL m ks).map (·.1)) s m, true) else applyR op num ((evalL m ks).map (·.1)))
    else (⟨sortS ⟨op, s, nm, num, ks⟩, 0, [], [], []⟩, false)
def evalL (m : List Entry) : List Node → List (Val × Bool)
  | [] => []
  | k :: ks => evalR m k :: evalL m ks
end
theorem evalL_eq (m : List Entry) : ∀ ks : List Node, evalL m ks = ks.map (evalR m)
 | [] => by simp only [evalL, List.map_nil]
 | k :: ks => by simp only [evalL, List.map_cons, evalL_eq m ks]
theorem evalR_eq (m : List Entry) (n : Node) : evalR m n = bif (n.kids.map (evalR m)).all (·.2) then (bif (n.op == 1) || (n.op == 3) then (lookR n.name ((n.kids.map (evalR m)).map (·.1)) n.sortf m, true) else applyR n.op n.num ((n.kids.map (evalR m)).map (·.1))) else (⟨sortS n, 0, [], [], []⟩, false) := by
 cases n; simp only [evalR, evalL_eq]
structure Fine (n : Node) : Prop where
 ar : ((n.op == 1) || (n.op == 3)) = false → arity n.op ≤ n.kids.length
 num : n.op = 2 ∨ n.op = 7 → -1000000000000 ≤ n.num ∧ n.num ≤ 1000000000000
theorem fold127 (N : Nat) (self : Node → List Entry → Option (Val × Bool)) (m : List Entry) (fin : List Val × Bool → Option (Val × Bool)) : ∀ (l : List Node) (M i : Nat) (vs : List Val) (ok : Bool), l.length < M → vs.length + l.length ≤ 4194304 → (∀ k ∈ l, self k m = some (evalR m k)) →
   foldN (F127_s1 self m) fin M l i (vs, ok) = fin (vs ++ (l.map (evalR m)).map (·.1), ok && (l.map (evalR m)).all (·.2))
 | [], M, i, vs, ok, hM, _, _ => by
   obtain ⟨K, rfl⟩ : ∃ K, M = K + 1 := ⟨M - 1, by simp at hM; omega⟩
   simp [foldN]
 | k :: l, M, i, vs, ok, hM, hl, hs => by
   obtain ⟨K, rfl⟩ : ∃ K, M = K + 1 := ⟨M - 1, by simp at hM; omega⟩
   simp only [List.length_cons] at hM hl
   have ih := fun b => fold127 N self m fin l K (i + 1) (vs ++ [(evalR m k).1]) b (by omega) (by simp; omega) fun x hx => hs x (by simp [hx])
   simp only [foldN, F127_s1, hs k (by simp), bindO_some, fits88 (show vs.length + 1 ≤ 4194304 by omega), iteO_true, List.map_cons, List.all_cons]
   cases ok with
   | true => exact (ih _).trans (by simp)
   | false => exact (ih _).trans (by simp)
theorem evals_ok {m : List Entry} {ks : List Node} (hall : (ks.map (evalR m)).all (·.2) = true) (h : ∀ k ∈ ks, (evalR m k).2 = true → VOk (evalR m k).1) : ∀ x ∈ (ks.map (evalR m)).map (·.1), VOk x := by
 intro x hx
 obtain ⟨y, hy, rfl⟩ := List.mem_map.1 hx
 obtain ⟨k, hk, rfl⟩ := List.mem_map.1 hy
 exact h k hk (List.all_eq_true.1 hall _ hy)
theorem eval127 (m : List Entry) (hm : MOk m) : ∀ (N : Nat) (n : Node), 1048600 + n.size < N → n.size ≤ 1048576 → (∀ x ∈ nodes n, Fine x) → F127 N n m = some (evalR m n) ∧ ((evalR m n).2 = true → VOk (evalR m n).1)
 | 0, n, h, _, _ => absurd h (Nat.not_lt_zero _)
 | N + 1, n, h, hb, hf => by
   have hk : ∀ k ∈ n.kids, F127 N k m = some (evalR m k) ∧ ((evalR m k).2 = true → VOk (evalR m k).1) := fun k hk => by
     have := kids_size hk
     exact eval127 m hm N k (by omega) (by omega) fun x hx => hf x (by
       cases n with
       | mk o s nm nu ks =>
         rw [nodes]
         have : ∀ (l : List Node), k ∈ l → x ∈ nodesL l := by
           intro l
           induction l with
           | nil => intro h; cases h
           | cons y l ih =>
             intro h
             rw [nodesL]
             rcases List.mem_cons.1 h with rfl | h
             · simp [hx]
             · simp [ih h]
         exact List.mem_cons_of_mem _ (this ks hk))
   have hlen := kids_len n
   have hn := hf n (by cases n; rw [nodes]; simp)
   have h1 := fold127 N (F127 N) m (F127_f1 N m n) n.kids N 0 [] true (by omega) (by simp; omega) fun k hk' => (hk k hk').1
   show F127b (F127 N) N n m = _ ∧ _
   rw [F127b, h1, List.nil_append, Bool.true_and, evalR_eq]
   cases hall : (n.kids.map (evalR m)).all (·.2) with
   | false =>
     simp only [F127_f1, iteO_false, cond_false, sort28 N n (by omega), bindO_some]
     exact ⟨trivial, fun h => by cases h⟩
   | true =>
     have hv := evals_ok hall fun k hk' => (hk k hk').2
     have hlk := fun srt => look159 N (by omega) m hm n.name ((n.kids.map (evalR m)).map (·.1)) srt
     simp only [F127_f1, iteO_true, cond_true, hlk, bindO_some]
     cases e1 : n.op == 1 with
     | true => exact ⟨rfl, fun _ => look_ok (fun e he => (hm.args e he).2.2) _ _ _⟩
     | false =>
       cases e3 : n.op == 3 with
       | true => exact ⟨rfl, fun _ => look_ok (fun e he => (hm.args e he).2.2) _ _ _⟩
       | false =>
         have ha := hn.ar (by rw [e1, e3]; rfl)
         obtain ⟨h2, h3⟩ := apply160 N (by omega) n _ hv (by simpa using ha) hn.num
         simp only [iteO_false, Bool.or_self, cond_false, h2, bindO_some]
         exact ⟨trivial, h3⟩
end Go.Abs.Try
namespace Go.Abs.Try
set_option maxRecDepth 100000
def asc (l : List Int) : Prop := l.Pairwise (· < ·)
theorem asc_ext : ∀ {l r : List Int}, asc l → asc r → (∀ x, x ∈ l ↔ x ∈ r) → l = r
 | [], [], _, _, _ => rfl
 | [], y :: r, _, _, h => absurd ((h y).2 (by simp)) (by simp)
 | x :: l, [], _, _, h => absurd ((h x).1 (by simp)) (by simp)
 | x :: l, y :: r, hl, hr, h => by
   obtain ⟨h1, h2⟩ := List.pairwise_cons.1 hl
   obtain ⟨h3, h4⟩ := List.pairwise_cons.1 hr
   have hx := (h x).1 (by simp)
   have hy := (h y).2 (by simp)
   have e : x = y := by
     rcases List.mem_cons.1 hx with e | hx
     · exact e
     · rcases List.mem_cons.1 hy with e | hy
       · exact e.symm
       · have := h3 x hx; have := h1 y hy; omega
   subst e
   rw [asc_ext h2 h4 fun z => ?_]
   constructor
   · intro hz
     have := h1 z hz
     rcases List.mem_cons.1 ((h z).1 (by simp [hz])) with e | h
     · omega
     · exact h
   · intro hz
     have := h3 z hz
     rcases List.mem_cons.1 ((h z).2 (by simp [hz])) with e | h
     · omega
     · exact h
theorem hasL_iff {l : List Int} {n : Int} : hasL l n = true ↔ n ∈ l := by
 unfold hasL
 rw [List.any_eq_true]
 constructor
 · rintro ⟨x, hx, e⟩; rw [← beq_iff_eq.1 e]; exact hx
 · intro h; exact ⟨n, h, beq_self_eq_true n⟩
theorem hasL_not {l : List Int} {n : Int} (h : hasL l n = false) : n ∉ l := fun hn => by rw [hasL_iff.2 hn] at h; cases h
theorem insL_mem {n x : Int} : ∀ {l : List Int}, x ∈ insL n l ↔ x = n ∨ x ∈ l
 | [] => by simp [insL]
 | y :: l => by
   rw [insL]
   split
   · simp
   · rw [List.mem_cons, insL_mem (l := l), List.mem_cons]
     constructor
     · rintro (h | h | h)
       · exact .inr (.inl h)
       · exact .inl h
       · exact .inr (.inr h)
     · rintro (h | h | h)
       · exact .inr (.inl h)
       · exact .inl h
       · exact .inr (.inr h)
theorem insL_asc {n : Int} : ∀ {l : List Int}, asc l → n ∉ l → asc (insL n l)
 | [], _, _ => by simp [insL, asc]
 | y :: l, hl, hn => by
   obtain ⟨h1, h2⟩ := List.pairwise_cons.1 hl
   have hne : n ≠ y := fun e => hn (by simp [e])
   rw [insL]
   split
   · rename_i h
     refine List.pairwise_cons.2 ⟨fun z hz => ?_, hl⟩
     rcases List.mem_cons.1 hz with rfl | hz
     · exact h
     · have := h1 z hz; omega
   · rename_i h
     refine List.pairwise_cons.2 ⟨fun z hz => ?_, insL_asc h2 fun h => hn (by simp [h])⟩
     rcases insL_mem.1 hz with rfl | hz
     · omega
     · exact h1 z hz
theorem insU_asc {l : List Int} {n : Int} (h : asc l) : asc (insU l n) := by
 unfold insU
 cases hh : hasL l n with
 | true => exact h
 | false => exact insL_asc h (hasL_not hh)
theorem fold_asc : ∀ (b : List Int) {l : List Int}, asc l → asc (b.foldl insU l)
 | [], _, h => h
 | x :: b, _, h => fold_asc b (insU_asc h)
theorem combL_asc (op : Int) {a : List Int} (b : List Int) (h : asc a) : asc (combL op a b) := by
 have h1 : asc (a.filter (keepC op b)) := List.Pairwise.filter _ h
 unfold combL
 cases op == 11 with
 | true => exact fold_asc b h1
 | false => exact h1
structure Arr (v : Val) : Prop where
 set : v.valSet = []
 ord : asc v.valAt
 len : v.valTo.length = v.valAt.length
 nz : ∀ t ∈ v.valTo, t ≠ 0
 fit : ∀ t ∈ v.valTo, fitsG t = true
structure SetV (v : Val) : Prop where
 num : v.valNum = 0
 at0 : v.valAt = []
 to0 : v.valTo = []
 ord : asc v.valSet
def VG (s : Int) (v : Val) : Prop := v.valSort = s ∧ (s = 4 → SetV v) ∧ (s = 5 → Arr v)
theorem default_vg (s : Int) : VG s ⟨s, 0, [], [], []⟩ := ⟨rfl, fun _ => ⟨rfl, rfl, rfl, .nil⟩, fun _ => ⟨rfl, .nil, rfl, (fun _ h => by cases h), (fun _ h => by cases h)⟩⟩
theorem storeL_sub (v : Val) (i x : Int) : ∀ l : List Int, (storeL v i x l).1.Sublist l ∧ ∀ t ∈ (storeL v i x l).2, t ≠ 0
 | [] => ⟨.slnil, fun _ h => by cases h⟩
 | k :: l => by
   obtain ⟨h1, h2⟩ := storeL_sub v i x l
   rw [storeL]
   cases h : (bif k == i then x else atV v k) == 0 with
   | true => simp only [cond_true]; exact ⟨h1.cons _, h2⟩
   | false =>
     simp only [cond_false]
     refine ⟨h1.cons_cons _, fun t ht => ?_⟩
     rcases List.mem_cons.1 ht with rfl | ht
     · exact beq_eq_false_iff_ne.1 h
     · exact h2 t ht
theorem at_fit {v : Val} (h : ∀ t ∈ v.valTo, fitsG t = true) (i : Int) : fitsG (atV v i) = true := by
 unfold atV
 rcases atZ_mem (i := i) (l := v.valAt) (r := v.valTo) with e | e
 · rw [e]; decide
 · exact h _ e
theorem storeL_fit (v : Val) (i x : Int) (h : ∀ t ∈ v.valTo, fitsG t = true) (hx : fitsG x = true) : ∀ l : List Int, ∀ t ∈ (storeL v i x l).2, fitsG t = true
 | [] => fun _ h => by cases h
 | k :: l => by
   have ih := storeL_fit v i x h hx l
   rw [storeL]
   cases (bif k == i then x else atV v k) == 0 with
   | true => simp only [cond_true]; exact ih
   | false =>
     simp only [cond_false]
     intro t ht
     rcases List.mem_cons.1 ht with rfl | ht
     · cases k == i with
       | true => exact hx
       | false => exact at_fit h k
     · exact ih t ht
theorem stored_vg {v : Val} (h : Arr v) (i x : Int) (hx : fitsG x = true) : VG 5 (storedV v i x) := by
 obtain ⟨h1, h2⟩ := storeL_sub v i x (insU v.valAt i)
 refine ⟨rfl, fun h => (by cases h), fun _ => ⟨rfl, ?_, (storeL_len v i x _).2, h2, storeL_fit v i x h.fit hx _⟩⟩
 exact List.Pairwise.sublist h1 (insU_asc h.ord)
theorem atZ_in {i : Int} : ∀ {l r : List Int}, r.length = l.length → (∀ t ∈ r, t ≠ 0) → i ∈ l → atZ i l r ≠ 0
 | [], _, _, _, h => by cases h
 | _ :: _, [], h, _, _ => by simp at h
 | x :: l, y :: r, hl, hz, h => by
   rw [atZ]
   cases hx : x == i with
   | true => exact hz y (by simp)
   | false =>
     rw [cond_false]
     rcases List.mem_cons.1 h with rfl | h
     · simp at hx
     · exact atZ_in (by simpa using hl) (fun t ht => hz t (by simp [ht])) h
theorem atZ_out {i : Int} : ∀ {l r : List Int}, i ∉ l → atZ i l r = 0
 | [], r, _ => by cases r <;> rfl
 | _ :: _, [], _ => rfl
 | x :: l, y :: r, h => by
   have : (x == i) = false := beq_eq_false_iff_ne.2 fun e => h (by simp [e])
   rw [atZ, this, cond_false]
   exact atZ_out fun hi => h (by simp [hi])
theorem atZ_ext : ∀ {l r r' : List Int}, asc l → r.length = l.length → r'.length = l.length → (∀ i ∈ l, atZ i l r = atZ i l r') → r = r'
 | [], [], [], _, _, _, _ => rfl
 | [], _ :: _, _, _, h, _, _ => by simp at h
 | [], _, _ :: _, _, _, h, _ => by simp at h
 | _ :: _, [], _, _, h, _, _ => by simp at h
 | _ :: _, _, [], _, _, h, _ => by simp at h
 | x :: l, y :: r, z :: r', ha, h1, h2, h => by
   obtain ⟨a1, a2⟩ := List.pairwise_cons.1 ha
   have e := h x (by simp)
   rw [atZ, atZ, beq_self_eq_true, cond_true, cond_true] at e
   have key : r = r' := by
     refine atZ_ext a2 (by simpa using h1) (by simpa using h2) fun i hi => ?_
     have hne : (x == i) = false := beq_eq_false_iff_ne.2 fun e => by have := a1 i hi; omega
     have := h i (by simp [hi])
     rw [atZ, atZ, hne, cond_false, cond_false] at this
     exact this
   rw [e, key]
theorem sameV_iff {a b : Val} : sameV a b = true ↔ a = b := by
 unfold sameV
 rw [Bool.and_eq_true, Bool.and_eq_true, Bool.and_eq_true, Bool.and_eq_true, beq_iff_eq, beq_iff_eq, beq_iff_eq, beq_iff_eq, beq_iff_eq]
 constructor
 · rintro ⟨h1, h2, h3, h4, h5⟩
   cases a; cases b
   simp only at h1 h2 h3 h4 h5
   subst h1; subst h2; subst h3; subst h4; subst h5; rfl
 · rintro rfl; exact ⟨rfl, rfl, rfl, rfl, rfl⟩
theorem arr_same {v u : Val} (hv : Arr v) (hu : Arr u) (hs : v.valSort = u.valSort) (hn : v.valNum = u.valNum) (h : ∀ i, i ∈ v.valAt ∨ i ∈ u.valAt → atV v i = atV u i) : v = u := by
 have e : v.valAt = u.valAt := asc_ext hv.ord hu.ord fun i => by
   constructor
   · intro hi
     have h1 := atZ_in hv.len hv.nz hi
     by_cases h2 : i ∈ u.valAt
     · exact h2
     · have h3 := h i (.inl hi)
       unfold atV at h3
       rw [atZ_out h2] at h3
       exact absurd h3 h1
   · intro hi
     have h1 := atZ_in hu.len hu.nz hi
     by_cases h2 : i ∈ v.valAt
     · exact h2
     · have h3 := h i (.inr hi)
       unfold atV at h3
       rw [atZ_out h2] at h3
       exact absurd h3.symm h1
 have e2 : v.valTo = u.valTo := by
   refine atZ_ext hv.ord hv.len (by rw [e]; exact hu.len) fun i hi => ?_
   have := h i (.inl hi)
   unfold atV at this
   rw [this, e]
 cases v; cases u
 have s1 := hv.set
 have s2 := hu.set
 simp only at hs hn e e2 s1 s2
 subst hs; subst hn; subst e; subst e2; subst s1; subst s2; rfl
theorem set_same {v u : Val} (hv : SetV v) (hu : SetV u) (hs : v.valSort = u.valSort) (h : ∀ i, i ∈ v.valSet ↔ i ∈ u.valSet) : v = u := by
 have e := asc_ext hv.ord hu.ord h
 obtain ⟨a1, a2, a3, _⟩ := hv
 obtain ⟨b1, b2, b3, _⟩ := hu
 cases v; cases u
 simp only at hs e a1 a2 a3 b1 b2 b3
 subst hs; subst e; subst a1; subst a2; subst a3; subst b1; subst b2; subst b3; rfl
end Go.Abs.Try
namespace Go.Abs.Try
set_option maxRecDepth 100000
def cB (x y : List UInt8) : Int := if x < y then -1 else if x = y then 0 else 1
end Go.Abs.Try
namespace Go.Abs.Try
set_option maxRecDepth 100000
end Go.Abs.Try
namespace Go.Abs.Try
set_option maxRecDepth 100000
end Go.Abs.Try
namespace Go.Abs.Try
set_option maxRecDepth 100000
def LeO {α : Type} (a b : Option α) : Prop := ∀ r, a = some r → b = some r
theorem leR {α : Type} (a : Option α) : LeO a a := fun _ h => h
theorem leN {α : Type} (b : Option α) : LeO none b := fun _ h => by cases h
theorem leB {α β : Type} {a a' : Option α} {f f' : α → Option β} (h : LeO a a') (hf : ∀ x, LeO (f x) (f' x)) : LeO (bindO a f) (bindO a' f') := by
 intro r hr
 obtain ⟨x, hx, hy⟩ := bindO_eq hr
 rw [h x hx]; exact hf x r hy
theorem leF {S α β : Type} {st st' : S → Nat → α → Option (Sum S β)} {fin fin' : S → Option β} (h : ∀ s i x, LeO (st s i x) (st' s i x)) (hf : ∀ s, LeO (fin s) (fin' s)) : ∀ {N M : Nat} (_ : N ≤ M) (l : List α) (i : Nat) (s : S), LeO (foldN st fin N l i s) (foldN st' fin' M l i s)
 | 0, _, _, _, _, _ => leN _
 | N + 1, 0, hh, _, _, _ => by omega
 | N + 1, M + 1, hh, [], i, s => hf s
 | N + 1, M + 1, hh, x :: xs, i, s => leB (h s i x) fun r => by
   cases r with
   | inl s' => exact leF h hf (by omega) xs (i + 1) s'
   | inr y => exact leR _
theorem mF39 : ∀ {N M : Nat} (_ : N ≤ M) (n : Node), LeO (F39 N n) (F39 M n)
 | 0, _, _, _ => leN _
 | N + 1, 0, h, _ => by omega
 | N + 1, M + 1, h, n => by
   have h' : N ≤ M := by omega
   simp only [F39, F39b]
   refine leF (fun _ _ x => ?_) (fun _ => leR _) h' _ _ _
   simp only [F39_s1]
   exact leB (mF39 h' x) fun _ => leR _
end Go.Abs.Try
namespace Go.Abs.Try
set_option maxRecDepth 100000
end Go.Abs.Try
namespace Go.Abs.Try
set_option maxRecDepth 100000
theorem sorted_kid {n k : Node} (h : sortedR n = true) (hk : k ∈ n.kids) : sortedR k = true := by
 rw [sortedR_eq, Bool.and_eq_true] at h
 exact List.all_eq_true.1 h.2 k hk
theorem own_num (n : Node) (h : ownA n = true) (ho : n.op = 2 ∨ n.op = 7) : -1000000000000 ≤ n.num ∧ n.num ≤ 1000000000000 := by
 have h1 := own118A 30 n (Nat.le_refl _)
 rw [h] at h1
 have e1 : (n.op == 1) = false := beq_eq_false_iff_ne.2 (by omega)
 have e3 : (n.op == 3) = false := beq_eq_false_iff_ne.2 (by omega)
 simp only [F118, e1, e3, iteO_false] at h1
 have key : ∀ z : Option Bool, iteO (n.op == 2) (iteO (decide (n.num ≥ (-1000000000000))) (some (decide (n.num ≤ 1000000000000))) (some false)) (iteO (n.op == 7) (iteO (decide (n.num ≥ (-1000000000000))) (some (decide (n.num ≤ 1000000000000))) (some false)) z) = some true → -1000000000000 ≤ n.num ∧ n.num ≤ 1000000000000 := by
   intro z hz
   have fin : iteO (decide (n.num ≥ (-1000000000000))) (some (decide (n.num ≤ 1000000000000))) (some false) = some true → -1000000000000 ≤ n.num ∧ n.num ≤ 1000000000000 := by
     intro hz
     by_cases hg : n.num ≥ -1000000000000
     · rw [decide_eq_true hg, iteO_true] at hz
       injection hz with hz
       have := of_decide_eq_true hz
       omega
     · rw [decide_eq_false hg] at hz; cases hz
   by_cases h2 : n.op = 2
   · rw [beq_iff_eq.2 h2, iteO_true] at hz; exact fin hz
   · rw [beq_eq_false_iff_ne.2 h2, iteO_false, beq_iff_eq.2 (by omega : n.op = 7), iteO_true] at hz; exact fin hz
 cases hx : n.name.toList == (⟨#[]⟩ : ByteArray).toList with
 | false => rw [hx] at h1; cases h1
 | true =>
   rw [hx, iteO_true] at h1
   cases hy : n.sortf == 0 with
   | false => rw [hy] at h1; cases h1
   | true => rw [hy, iteO_true] at h1; exact key _ h1
theorem shape_len (op : Int) (ss : List Int) (h : shapeB op ss = true) : arity op ≤ ss.length := by
 have two : ∀ w, F153 op = some (w, true) → w.length = arity op → arity op ≤ ss.length := by
   intro w hw hl
   simp only [shapeB, hw, Option.getD_some, cond_true, beq_iff_eq] at h
   rw [h, hl]; exact Nat.le_refl _
 by_cases h8 : op = 8
 · subst h8
   rcases three ss with ⟨a, b, c, rfl⟩ | ⟨_, h3⟩
   · exact Nat.le_refl 3
   · have : shapeB 8 ss = m3 (fun a b c => (a == 2) && ((b == c) && okB b)) false ss := rfl
     rw [this, h3] at h; cases h
 by_cases h37 : op = 37
 · subst h37
   rcases Try.two ss with ⟨a, b, rfl⟩ | ⟨_, h3⟩
   · exact Nat.le_refl 2
   · have : shapeB 37 ss = m2 (fun a b => (a == b) && okB a) false ss := rfl
     rw [this, h3] at h; cases h
 by_cases h4 : op = 4; · subst h4; exact two [1, 1] rfl rfl
 by_cases h5 : op = 5; · subst h5; exact two [1, 1] rfl rfl
 by_cases h6 : op = 6; · subst h6; exact two [1] rfl rfl
 by_cases h7 : op = 7; · subst h7; exact two [1] rfl rfl
 by_cases h10 : op = 10; · subst h10; exact two [1] rfl rfl
 by_cases h11 : op = 11; · subst h11; exact two [4, 4] rfl rfl
 by_cases h12 : op = 12; · subst h12; exact two [4, 4] rfl rfl
 by_cases h13 : op = 13; · subst h13; exact two [4, 4] rfl rfl
 by_cases h14 : op = 14; · subst h14; exact two [5, 1] rfl rfl
 by_cases h15 : op = 15; · subst h15; exact two [5, 1, 1] rfl rfl
 by_cases h16 : op = 16; · subst h16; exact two [5] rfl rfl
 by_cases h32 : op = 32; · subst h32; exact two [2] rfl rfl
 by_cases h33 : op = 33; · subst h33; exact two [2, 2] rfl rfl
 by_cases h34 : op = 34; · subst h34; exact two [2, 2] rfl rfl
 by_cases h35 : op = 35; · subst h35; exact two [2, 2] rfl rfl
 by_cases h36 : op = 36; · subst h36; exact two [2, 2] rfl rfl
 by_cases h38 : op = 38; · subst h38; exact two [1, 1] rfl rfl
 by_cases h39 : op = 39; · subst h39; exact two [1, 1] rfl rfl
 by_cases h40 : op = 40; · subst h40; exact two [1, 4] rfl rfl
 by_cases h41 : op = 41; · subst h41; exact two [4, 4] rfl rfl
 have : arity op = 0 := by
   simp only [arity, beq_eq_false_iff_ne.2 h4, beq_eq_false_iff_ne.2 h5, beq_eq_false_iff_ne.2 h6, beq_eq_false_iff_ne.2 h7, beq_eq_false_iff_ne.2 h8, beq_eq_false_iff_ne.2 h10, beq_eq_false_iff_ne.2 h11, beq_eq_false_iff_ne.2 h12, beq_eq_false_iff_ne.2 h13, beq_eq_false_iff_ne.2 h14, beq_eq_false_iff_ne.2 h15, beq_eq_false_iff_ne.2 h16,
     beq_eq_false_iff_ne.2 h32, beq_eq_false_iff_ne.2 h33, beq_eq_false_iff_ne.2 h34, beq_eq_false_iff_ne.2 h35, beq_eq_false_iff_ne.2 h36, beq_eq_false_iff_ne.2 h37, beq_eq_false_iff_ne.2 h38, beq_eq_false_iff_ne.2 h39, beq_eq_false_iff_ne.2 h40, beq_eq_false_iff_ne.2 h41, Bool.or_self, cond_false]
 omega
theorem fine_own {n : Node} (h : sortedR n = true) : Fine n := by
 rw [sortedR_eq, Bool.and_eq_true, nodeB, Bool.and_eq_true] at h
 exact ⟨fun _ => by have := shape_len _ _ h.1.2; simpa using this, own_num n h.1.1⟩
mutual
theorem fine_all : ∀ n : Node, sortedR n = true → ∀ x ∈ nodes n, Fine x
  | ⟨o, s, nm, k, ks⟩, h, x, hx => by
    rw [nodes] at hx
    rcases List.mem_cons.1 hx with rfl | hx
    · exact fine_own h
    · exact fine_allL ks (fun k hk => sorted_kid h hk) x hx
theorem fine_allL : ∀ ks : List Node, (∀ k ∈ ks, sortedR k = true) → ∀ x ∈ nodesL ks, Fine x
  | [], _, x, hx => by cases hx
  | k :: ks, h, x, hx => by
    rw [nodesL] at hx
    rcases List.mem_append.1 hx with hx | hx
    · exact fine_all k (h k (by simp)) x hx
    · exact fine_allL ks (fun y hy => h y (by simp [hy])) x hx
end
theorem foldN_either {α β : Type} {step : Unit → Nat → α → Option (Sum Unit β)} {fin : Unit → Option β} (r : β) (full : List α) (hs : ∀ i x, full[i]? = some x → step () i x = some (.inl ()) ∨ step () i x = some (.inr r)) :
   ∀ (l : List α) (N i : Nat), full.drop i = l → l.length < N → (foldN step fin N l i () = fin () ∧ ∀ j x, i ≤ j → full[j]? = some x → step () j x = some (.inl ())) ∨ foldN step fin N l i () = some r
 | [], N, i, hd, hN => by
   obtain ⟨K, rfl⟩ : ∃ K, N = K + 1 := ⟨N - 1, by simp at hN; omega⟩
   refine .inl ⟨rfl, fun j x hj hx => ?_⟩
   have := (List.getElem?_eq_some_iff.1 hx).1
   have h2 := List.drop_eq_nil_iff.1 hd
   omega
 | x :: l, N, i, hd, hN => by
   obtain ⟨K, rfl⟩ : ∃ K, N = K + 1 := ⟨N - 1, by simp at hN; omega⟩
   obtain ⟨hx, hxs⟩ := drop_cons hd
   have ih := foldN_either (fin := fin) r full hs l K (i + 1) hxs (by simp at hN; omega)
   rcases hs i x hx with h | h
   · simp only [foldN, h, bindO_some]
     rcases ih with ⟨h1, h2⟩ | h1
     · refine .inl ⟨h1, fun j y hj hy => ?_⟩
       by_cases e : j = i
       · subst e; rw [hx] at hy; injection hy with hy; subst hy; exact h
       · exact h2 j y (by omega) hy
     · exact .inr h1
   · simp only [foldN, h, bindO_some]
     exact .inr trivial
theorem asc182 (N : Nat) (l : List Int) (h : l.length < N) (hl : l.length ≤ 1048576) : ∃ b, F182 N l = some b ∧ (b = true → l.length ≤ 200) := by
 have key := foldN_either (step := F182_s1 l) (fin := F182_f1 l) false l (fun i x hx => by
   have hi := (List.getElem?_eq_some_iff.1 hx).1
   simp only [F182_s1, fits181, bindO_some]
   cases fitsG x with
   | false => exact .inr rfl
   | true =>
     by_cases h0 : (i : Int) > 0
     · have hi1 : i - 1 < l.length := by omega
       have ha : atO l (IntKind.i64.wrap ((i : Int) - 1)) = some l[i - 1] := by
         rw [wrap_id (by omega)]
         exact atO_lit (i := i - 1) (by omega) (List.getElem?_eq_getElem hi1)
       rw [decide_eq_true h0]
       simp only [iteO_true, ha, bindO_some]
       cases decide (l[i - 1] ≥ x) with
       | true => exact .inr rfl
       | false => exact .inl rfl
     · rw [decide_eq_false h0]; exact .inl rfl) l N 0 rfl h
 rcases key with ⟨h1, _⟩ | h1
 · exact ⟨_, h1, fun e => by have := of_decide_eq_true e; omega⟩
 · exact ⟨_, h1, fun e => by cases e⟩
theorem val171 (N : Nat) (hN : 1048600 < N) (v : Val) (hv : VSmall v) : ∃ b, F171 N v = some b ∧ (b = true → VOk v) := by
 simp only [F171, fits181, bindO_some]
 obtain ⟨b1, s1, t1⟩ := asc182 N v.valSet (by have := hv.1; omega) hv.1
 obtain ⟨b2, s2, t2⟩ := asc182 N v.valAt (by have := hv.2.1; omega) hv.2.1
 cases decide (v.valSort < 1) with
 | true => exact ⟨_, rfl, fun e => by cases e⟩
 | false =>
   cases decide (v.valSort > 5) with
   | true => exact ⟨_, rfl, fun e => by cases e⟩
   | false =>
     simp only [iteO_false]
     cases hf : fitsG v.valNum with
     | false => exact ⟨_, rfl, fun e => by cases e⟩
     | true =>
       simp only [iteO_true, s1, s2, bindO_some]
       cases b1 with
       | false => exact ⟨_, rfl, fun e => by cases e⟩
       | true =>
         cases b2 with
         | false => exact ⟨_, rfl, fun e => by cases e⟩
         | true =>
           simp only [iteO_true]
           by_cases hl : (v.valTo.length : Int) = (v.valAt.length : Int)
           · rw [beq_iff_eq.2 hl, iteO_true]
             have hok : VOk v := ⟨fitsG_iff.1 hf, t1 rfl, t2 rfl, by omega⟩
             have key := foldN_either (step := F171_s1) (fin := F171_f1 v) false v.valTo (fun i x _ => by
               simp only [F171_s1, fits181, bindO_some]
               cases x == 0 with
               | true => exact .inr rfl
               | false =>
                 cases fitsG x with
                 | true => exact .inl rfl
                 | false => exact .inr rfl) v.valTo N 0 rfl (by have := hv.2.2; omega)
             have hfin : ∃ b, F171_f1 v () = some b := by
               simp only [F171_f1]
               cases v.valSort == 2 <;> cases v.valNum == 0 <;> cases v.valNum == 1 <;> cases (v.valSet.length : Int) == 0 <;> cases v.valSort == 5 <;> cases decide (v.valNum ≥ 0) <;> cases v.valSort == 4 <;> exact ⟨_, rfl⟩
             rcases key with ⟨h1, _⟩ | h1
             · obtain ⟨b, hb⟩ := hfin
               exact ⟨b, h1.trans hb, fun _ => hok⟩
             · exact ⟨_, h1, fun e => by cases e⟩
           · rw [beq_eq_false_iff_ne.2 hl]; exact ⟨_, rfl, fun e => by cases e⟩
structure MSmall (m : List Entry) : Prop where
 len : m.length ≤ 1048576
 args : ∀ e ∈ m, e.entryArgs.length ≤ 1048576 ∧ (∀ a ∈ e.entryArgs, VSmall a) ∧ VSmall e.entryVal
theorem entry157 (N : Nat) (hN : 1048600 < N) (e : Entry) (h1 : e.entryArgs.length ≤ 1048576) (h2 : ∀ a ∈ e.entryArgs, VSmall a) (h3 : VSmall e.entryVal) : ∃ b, F157 N e = some b ∧ (b = true → (∀ a ∈ e.entryArgs, VOk a) ∧ VOk e.entryVal) := by
 obtain ⟨b, _, hb⟩ := name_same N e.entryName (by omega)
 obtain ⟨b2, s2, t2⟩ := val171 N hN e.entryVal h3
 simp only [F157, hb, bindO_some]
 cases b with
 | false => exact ⟨_, rfl, fun e => by cases e⟩
 | true =>
   simp only [iteO_true]
   cases decide ((e.entryArgs.length : Int) > 8) with
   | true => exact ⟨_, rfl, fun e => by cases e⟩
   | false =>
     simp only [iteO_false, s2, bindO_some]
     cases b2 with
     | false => exact ⟨_, rfl, fun e => by cases e⟩
     | true =>
       simp only [iteO_true]
       have key := foldN_either (step := F157_s1 N) (fin := F157_f1) false e.entryArgs (fun i x hx => by
         obtain ⟨b, s, _⟩ := val171 N hN x (h2 x (List.mem_of_getElem? hx))
         simp only [F157_s1, s, bindO_some]
         cases b with
         | true => exact .inl rfl
         | false => exact .inr rfl) e.entryArgs N 0 rfl (by omega)
       rcases key with ⟨k1, k2⟩ | k1
       · refine ⟨_, k1, fun _ => ⟨fun a ha => ?_, t2 rfl⟩⟩
         obtain ⟨i, hi, ei⟩ := List.getElem_of_mem ha
         have hx : e.entryArgs[i]? = some a := by rw [List.getElem?_eq_getElem hi, ei]
         have := k2 i a (Nat.zero_le _) hx
         obtain ⟨b, s, t⟩ := val171 N hN a (h2 a ha)
         simp only [F157_s1, s, bindO_some] at this
         cases b with
         | true => exact t rfl
         | false => cases this
       · exact ⟨_, k1, fun e => by cases e⟩
theorem place158 (N : Nat) (hN : 1048600 < N) (a b : Entry) (h1 : a.entryArgs.length ≤ 1048576) (h2 : ∀ x ∈ a.entryArgs, VSmall x) : ∃ r, F158 N a b = some r := by
 simp only [F158, sameArgs172 N (by omega) a.entryArgs b.entryArgs (by omega) h2, bindO_some]
 cases a.entryName.toList == b.entryName.toList <;> cases a.entryVal.valSort == b.entryVal.valSort <;> exact ⟨_, rfl⟩
theorem inner126 (N : Nat) (hN : 1048600 < N) (m : List Entry) (hm : MSmall m) (i : Nat) (hi : i ≤ m.length) (x : Entry) : ∀ (k M j : Nat), j + k = i → k < M → whileN (F126_s2 N i m x) M (j : Int) = some (.inl ()) ∨ whileN (F126_s2 N i m x) M (j : Int) = some (.inr false)
 | 0, M, j, hj, hM => by
   obtain ⟨K, rfl⟩ : ∃ K, M = K + 1 := ⟨M - 1, by omega⟩
   have : decide ((j : Int) < (i : Int)) = false := decide_eq_false (by omega)
   left
   simp only [whileN, F126_s2, this, iteO_false, bindO_some]
 | k + 1, M, j, hj, hM => by
   obtain ⟨K, rfl⟩ : ∃ K, M = K + 1 := ⟨M - 1, by omega⟩
   have hl := hm.len
   have : decide ((j : Int) < (i : Int)) = true := decide_eq_true (by omega)
   have hjl : j < m.length := by omega
   have e : m[j]? = some m[j] := List.getElem?_eq_getElem hjl
   obtain ⟨a1, a2, _⟩ := hm.args _ (List.getElem_mem hjl)
   obtain ⟨r, hr⟩ := place158 N hN m[j] x a1 a2
   have w : IntKind.i64.wrap ((j : Int) + 1) = ((j + 1 : Nat) : Int) := by rw [wrap_id (by omega)]; rfl
   have ih := inner126 N hN m hm i hi x k K (j + 1) (by omega) (by omega)
   simp only [whileN, F126_s2, this, iteO_true, atO_get e, bindO_some, hr, w]
   cases r with
   | true => right; rfl
   | false => exact ih
theorem valid126 (N : Nat) (hN : 2097200 < N) (m : List Entry) (hm : MSmall m) : ∃ b, F126 N m = some b ∧ (b = true → MOk m) := by
 simp only [F126]
 cases decide ((m.length : Int) > 2000) with
 | true => exact ⟨_, rfl, fun e => by cases e⟩
 | false =>
   simp only [iteO_false]
   have hl := hm.len
   have step : ∀ i x, m[i]? = some x → (F126_s1 N m () i x = some (.inl ()) ∨ F126_s1 N m () i x = some (.inr false)) ∧ (F126_s1 N m () i x = some (.inl ()) → (∀ a ∈ x.entryArgs, VOk a) ∧ VOk x.entryVal) := by
     intro i x hx
     obtain ⟨a1, a2, a3⟩ := hm.args x (List.mem_of_getElem? hx)
     obtain ⟨b, s, t⟩ := entry157 N (by omega) x a1 a2 a3
     have hi := (List.getElem?_eq_some_iff.1 hx).1
     simp only [F126_s1, s, bindO_some]
     cases b with
     | false => exact ⟨.inr rfl, fun h => by cases h⟩
     | true =>
       have h0 : ((0 : Nat) : Int) = 0 := rfl
       have := inner126 N (by omega) m hm i (by omega) x i N 0 (by omega) (by omega)
       simp only [iteO_true]
       exact ⟨this, fun _ => t rfl⟩
   rcases foldN_either (step := F126_s1 N m) (fin := F126_f1) false m (fun i x hx => (step i x hx).1) m N 0 rfl (by omega) with ⟨k1, k2⟩ | k1
   · refine ⟨_, k1, fun _ => ⟨hl, fun e he => ?_⟩⟩
     obtain ⟨i, hi, ei⟩ := List.getElem_of_mem he
     have hx : m[i]? = some e := by rw [List.getElem?_eq_getElem hi, ei]
     have := (step i e hx).2 (k2 i e (Nat.zero_le _) hx)
     exact ⟨(hm.args e he).1, this⟩
   · exact ⟨_, k1, fun e => by cases e⟩
end Go.Abs.Try
