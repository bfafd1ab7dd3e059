import Derived.Test.YtdigpkmbcojpoaaGreatKP10toKLm7
set_option linter.unusedSimpArgs false
set_option linter.unusedVariables false
namespace Go.Abs.Try
set_option maxRecDepth 100000
section
open Classical
variable (N : Nat) (n : Node)
theorem sortS_ite (c x y : Node) : sortS (nd 8 [c, x, y]) = sortS x := by rw [sortS_eq]; rfl
theorem p1242 (hs : sortedR n = true) (hz : n.size ≤ 600) (hB : 100000000 ≤ N) : F1242 N n = some (decide (K8 n)) := by
 unfold F1242
 rw [kid_10 N n (by omega), bindO_some]
 have hK : K8 n → ∃ c x y, kidP n [1, 0] = nd 8 [c, x, y] ∧ (n.op = 35 ∨ n.op = 34) := by
   rintro ⟨c, x, y, rfl | rfl⟩
   · exact ⟨c, x, y, rfl, .inl rfl⟩
   · exact ⟨c, x, y, rfl, .inr rfl⟩
 have key : (kidP n [1, 0]).op = 8 → (bindO (F1268 N (kidP n [1, 0])) fun r2 => bindO (atO r2 0) fun x3 => bindO (F1268 N (kidP n [1, 0])) fun r4 => bindO (atO r4 1) fun x5 => bindO (F1277 N n ([x3, x5])) fun r6 => some r6) = some (decide (K8 n)) := by
   intro h8
   have hk : sortedR (kidP n [1, 0]) = true := by
     rcases kidP_sorted [1, 0] n hs with h | h
     · exact h
     · rw [h] at h8; exact absurd h8 (by decide)
   have hz2 := kidP_size [1, 0] n
   obtain ⟨c, x, y, e, _, _, hq, _⟩ := formIte hk h8
   rw [e] at hz2 ⊢
   simp only [nd_size, List.map_cons, List.map_nil, List.sum_cons, List.sum_nil] at hz2
   rw [chosen1268 N c x y (by omega) (by rw [sortS_ite]; unfold eqSort at hq; omega)]
   simp only [bindO_some, at2_0, at2_1]
   rw [is2 N n _ _ (by simp only [cho0, nd_size, List.map_cons, List.map_nil, List.sum_cons, List.sum_nil]; omega) (by simp only [cho0, nd_size, List.map_cons, List.map_nil, List.sum_cons, List.sum_nil]; omega)
     (by simp only [cho1, nd_size, List.map_cons, List.map_nil, List.sum_cons, List.sum_nil]; omega) (by simp only [cho1, nd_size, List.map_cons, List.map_nil, List.sum_cons, List.sum_nil]; omega), bindO_some]
   refine dI ⟨fun h => ⟨c, x, y, h.elim (fun h => .inl h.symm) fun h => .inr h.symm⟩, ?_⟩
   rintro ⟨c', x', y', h | h⟩
   · rw [h] at e
     have e : nd 8 [c', x', y'] = nd 8 [c, x, y] := e
     simp only [nd_inj, lst3] at e
     obtain ⟨_, rfl, rfl, rfl⟩ := e
     exact .inl h.symm
   · rw [h] at e
     have e : nd 8 [c', x', y'] = nd 8 [c, x, y] := e
     simp only [nd_inj, lst3] at e
     obtain ⟨_, rfl, rfl, rfl⟩ := e
     exact .inr h.symm
 cases h8 : (kidP n [1, 0]).op == 8 with
 | false =>
   have no : ¬ K8 n := fun h => by obtain ⟨c, x, y, e, _⟩ := hK h; rw [e] at h8; cases h8
   simp only [iteO_false]
   cases n.op == 35 <;> cases n.op == 34 <;> exact dF no
 | true =>
   have key := key (beq_iff_eq.1 h8)
   simp only [iteO_true]
   cases h35 : n.op == 35 with
   | true => rw [iteO_true]; exact key
   | false =>
     cases h34 : n.op == 34 with
     | true => rw [iteO_false, iteO_true]; exact key
     | false =>
       rw [iteO_false, iteO_false]
       refine dF fun h => ?_
       obtain ⟨_, _, _, _, h | h⟩ := hK h
       · rw [h] at h35; cases h35
       · rw [h] at h34; cases h34
def BS (n : Node) (r : Int × ByteArray) : Prop :=
 (∃ a b w, n = part4 a b w ∧ wit w a b ∧ r = (4, w.name)) ∨ (∃ a b w, n = part5 a b w ∧ sortS a = 4 ∧ wit w a b ∧ r = (5, w.name)) ∨
 (∃ a b w, n = diffN a b w ∧ sortS a = 5 ∧ wit w a b ∧ r = (7, w.name)) ∨ (r = (0, ⟨#[]⟩) ∧ ¬ K4o n ∧ ¬ K5o n ∧ ¬ K7o n)
theorem p1238 (hs : sortedR n = true) (hz : n.size ≤ 600) (hB : 100000000 ≤ N) : ∃ r, F1238 N n = some r ∧ BS n r := by
 unfold F1238
 have none : ¬ K4o n → ¬ K5o n → ¬ K7o n → ∃ r, (some (0, (⟨#[]⟩ : ByteArray)) : Option (Int × ByteArray)) = some r ∧ BS n r := fun h1 h2 h3 => ⟨_, rfl, .inr (.inr (.inr ⟨rfl, h1, h2, h3⟩))⟩
 cases h34 : n.op == 34 with
 | false =>
   refine none ?_ ?_ ?_
   · rintro ⟨_, _, _, rfl, _⟩; cases h34
   · rintro ⟨_, _, _, rfl, _⟩; cases h34
   · rintro ⟨_, _, _, rfl, _⟩; cases h34
 | true =>
   obtain ⟨p, q, rfl, _, _, hp, hq⟩ := fOr hs (beq_iff_eq.1 h34)
   have z1 : ∀ l, (kidP (nd 34 [p, q]) l).size ≤ 600 := fun l => Nat.le_trans (kidP_size l _) hz
   have hz0 := hz
   simp only [nd_size, List.map_cons, List.map_nil, List.sum_cons, List.sum_nil] at hz
   simp only [iteO_true, kid_0 N _ (by omega : 10 ≤ N), kid_00 N _ (by omega : 10 ≤ N), kid_01 N _ (by omega : 10 ≤ N), kid_100 N _ (by omega : 10 ≤ N), kid_1000 N _ (by omega : 10 ≤ N), kid_11001 N _ (by omega : 10 ≤ N), bindO_some]
   rw [show kidP (nd 34 [p, q]) [0] = p from rfl]
   cases h41 : p.op == 41 with
   | true =>
     obtain ⟨a, b, rfl, _, _, ha, hb⟩ := fSub hp (beq_iff_eq.1 h41)
     simp only [nd_size, List.map_cons, List.map_nil, List.sum_cons, List.sum_nil] at hz
     rw [show kidP (nd 34 [nd 41 [a, b], q]) [0, 0] = a from rfl, show kidP (nd 34 [nd 41 [a, b], q]) [0, 1] = b from rfl, show (((nd 41 [a, b]).kids.length : Int) == 2) = true from rfl, iteO_true, iteO_true]
     have n5 : ¬ K5o (nd 34 [nd 41 [a, b], q]) := by
       rintro ⟨_, _, _, h, _⟩
       simp only [part5, nd_inj, lst2] at h; exact absurd h.2.1.1 (by decide)
     have n7 : ¬ K7o (nd 34 [nd 41 [a, b], q]) := by
       rintro ⟨_, _, _, h, _⟩
       simp only [diffN, nd_inj, lst2] at h; exact absurd h.2.1.1 (by decide)
     have un : ∀ a' b' w', nd 34 [nd 41 [a, b], q] = part4 a' b' w' → a' = a ∧ b' = b ∧ w' = kidP (nd 34 [nd 41 [a, b], q]) [1, 0, 0] := by
       intro a' b' w' h
       refine ⟨?_, ?_, by rw [h]; rfl⟩
       · simp only [part4, nd_inj, lst2] at h; exact h.2.1.2.1.symm
       · simp only [part4, nd_inj, lst2] at h; exact h.2.1.2.2.symm
     have zw := z1 [1, 0, 0]
     have sw := @kidP_var [1, 0, 0] _ hs
     revert un zw sw
     generalize kidP (nd 34 [nd 41 [a, b], q]) [1, 0, 0] = w
     intro un zw sw
     have nn : ¬ K4o (nd 34 [nd 41 [a, b], q]) → ∃ r, (some (0, (⟨#[]⟩ : ByteArray)) : Option (Int × ByteArray)) = some r ∧ BS (nd 34 [nd 41 [a, b], q]) r := fun h => none h n5 n7
     cases h1 : w.op == 1 with
     | false => exact nn fun ⟨a', b', w', h, hw, _⟩ => by obtain ⟨rfl, rfl, rfl⟩ := un a' b' w' h; rw [hw] at h1; cases h1
     | true =>
       cases h2 : w.sortf == 1 with
       | false => exact nn fun ⟨a', b', w', h, _, hw, _⟩ => by obtain ⟨rfl, rfl, rfl⟩ := un a' b' w' h; rw [hw] at h2; cases h2
       | true =>
         simp only [iteO_true, apart1276 N w a b (by omega) (by omega), bindO_some]
         cases h3 : !(occ w.name a) && !(occ w.name b) with
         | false => exact nn fun ⟨a', b', w', h, _, _, h4, h5⟩ => by obtain ⟨rfl, rfl, rfl⟩ := un a' b' w' h; rw [h4, h5] at h3; cases h3
         | true =>
           simp only [Bool.and_eq_true, Bool.not_eq_true'] at h3
           simp only [iteO_true, outs1278, bindO_some]
           rw [is1 N _ _ (by simp only [part4, nd_size, List.map_cons, List.map_nil, List.sum_cons, List.sum_nil]; omega) (by simp only [part4, nd_size, List.map_cons, List.map_nil, List.sum_cons, List.sum_nil]; omega), bindO_some]
           by_cases he : part4 a b w = nd 34 [nd 41 [a, b], q]
           · rw [decide_eq_true he]
             exact ⟨_, rfl, .inl ⟨a, b, w, he.symm, ⟨beq_iff_eq.1 h1, beq_iff_eq.1 h2, h3.1, h3.2⟩, rfl⟩⟩
           · rw [decide_eq_false he]
             exact nn fun ⟨a', b', w', h, _⟩ => by obtain ⟨rfl, rfl, rfl⟩ := un a' b' w' h; exact he h.symm
   | false =>
     have n4 : ¬ K4o (nd 34 [p, q]) := by
       rintro ⟨_, _, _, h, _⟩
       simp only [part4, nd_inj, lst2] at h; obtain ⟨_, rfl, _⟩ := h; cases h41
     cases h37 : p.op == 37 with
     | false =>
       have n5 : ¬ K5o (nd 34 [p, q]) := by
         rintro ⟨_, _, _, h, _⟩
         simp only [part5, nd_inj, lst2] at h; obtain ⟨_, rfl, _⟩ := h; cases h37
       have n7 : ¬ K7o (nd 34 [p, q]) := by
         rintro ⟨_, _, _, h, _⟩
         simp only [diffN, nd_inj, lst2] at h; obtain ⟨_, rfl, _⟩ := h; cases h37
       cases ((p.kids.length : Int) == 2) <;> exact none n4 n5 n7
     | true =>
       obtain ⟨a, b, rfl, hab, _, ha, hb⟩ := formEq hp (beq_iff_eq.1 h37)
       simp only [nd_size, List.map_cons, List.map_nil, List.sum_cons, List.sum_nil] at hz
       rw [show kidP (nd 34 [nd 37 [a, b], q]) [0, 0] = a from rfl, show kidP (nd 34 [nd 37 [a, b], q]) [0, 1] = b from rfl, show (((nd 37 [a, b]).kids.length : Int) == 2) = true from rfl, iteO_true, iteO_false, iteO_true]
       simp only [sort28 N a (by omega), bindO_some]
       have e45 : ((4 : Int) == 5) = false := rfl
       have e54 : ((5 : Int) == 4) = false := rfl
       cases hs4 : sortS a == 4 with
       | true =>
         have hs4 := beq_iff_eq.1 hs4
         rw [hs4]
         simp only [e45, iteO_false]
         have n7 : ¬ K7o (nd 34 [nd 37 [a, b], q]) := by
           rintro ⟨_, _, _, h, h5, _⟩
           simp only [diffN, nd_inj (k := 34) (k' := 34), nd_inj (k := 37) (k' := 37), lst2] at h
           rw [← h.2.1.2.1, hs4] at h5; exact absurd h5 (by decide)
         have un : ∀ a' b' w', nd 34 [nd 37 [a, b], q] = part5 a' b' w' → a' = a ∧ b' = b ∧ w' = kidP (nd 34 [nd 37 [a, b], q]) [1, 0, 0, 0] := by
           intro a' b' w' h
           refine ⟨?_, ?_, by rw [h]; rfl⟩
           · simp only [part5, nd_inj, lst2] at h; exact h.2.1.2.1.symm
           · simp only [part5, nd_inj, lst2] at h; exact h.2.1.2.2.symm
         have zw := z1 [1, 0, 0, 0]
         revert un zw
         generalize kidP (nd 34 [nd 37 [a, b], q]) [1, 0, 0, 0] = w
         intro un zw
         have nn : ¬ K5o (nd 34 [nd 37 [a, b], q]) → ∃ r, (some (0, (⟨#[]⟩ : ByteArray)) : Option (Int × ByteArray)) = some r ∧ BS (nd 34 [nd 37 [a, b], q]) r := fun h => none n4 h n7
         cases h1 : w.op == 1 with
         | false => exact nn fun ⟨a', b', w', h, _, hw, _⟩ => by obtain ⟨rfl, rfl, rfl⟩ := un a' b' w' h; rw [hw] at h1; cases h1
         | true =>
           cases h2 : w.sortf == 1 with
           | false => exact nn fun ⟨a', b', w', h, _, _, hw, _⟩ => by obtain ⟨rfl, rfl, rfl⟩ := un a' b' w' h; rw [hw] at h2; cases h2
           | true =>
             simp only [iteO_true, apart1276 N w a b (by omega) (by omega), bindO_some]
             cases h3 : !(occ w.name a) && !(occ w.name b) with
             | false => exact nn fun ⟨a', b', w', h, _, _, _, h4, h5⟩ => by obtain ⟨rfl, rfl, rfl⟩ := un a' b' w' h; rw [h4, h5] at h3; cases h3
             | true =>
               simp only [Bool.and_eq_true, Bool.not_eq_true'] at h3
               have e5 : nd 34 [eqR a b, nd 32 [nd 36 [nd 40 [w, a], nd 40 [w, b]]]] = part5 a b w := by rw [eqR_ne (by rw [hs4]; decide)]; rfl
               simp only [iteO_true, part1279 N a b w (by omega), e5, bindO_some]
               rw [is1 N _ _ (by simp only [part5, nd_size, List.map_cons, List.map_nil, List.sum_cons, List.sum_nil]; omega) (by simp only [part5, nd_size, List.map_cons, List.map_nil, List.sum_cons, List.sum_nil]; omega), bindO_some]
               by_cases he : part5 a b w = nd 34 [nd 37 [a, b], q]
               · rw [decide_eq_true he]
                 exact ⟨_, rfl, .inr (.inl ⟨a, b, w, he.symm, hs4, ⟨beq_iff_eq.1 h1, beq_iff_eq.1 h2, h3.1, h3.2⟩, rfl⟩)⟩
               · rw [decide_eq_false he]
                 exact nn fun ⟨a', b', w', h, _⟩ => by obtain ⟨rfl, rfl, rfl⟩ := un a' b' w' h; exact he h.symm
       | false =>
         have n5 : ¬ K5o (nd 34 [nd 37 [a, b], q]) := by
           rintro ⟨_, _, _, h, h5, _⟩
           simp only [part5, nd_inj (k := 34) (k' := 34), nd_inj (k := 37) (k' := 37), lst2] at h
           rw [← h.2.1.2.1] at h5; rw [h5] at hs4; cases hs4
         simp only [iteO_false]
         have nn : ¬ K7o (nd 34 [nd 37 [a, b], q]) → ∃ r, (some (0, (⟨#[]⟩ : ByteArray)) : Option (Int × ByteArray)) = some r ∧ BS (nd 34 [nd 37 [a, b], q]) r := fun h => none n4 n5 h
         cases hs5 : sortS a == 5 with
         | false =>
           refine nn ?_
           rintro ⟨_, _, _, h, h5, _⟩
           simp only [diffN, nd_inj (k := 34) (k' := 34), nd_inj (k := 37) (k' := 37), lst2] at h
           rw [← h.2.1.2.1] at h5; rw [h5] at hs5; cases hs5
         | true =>
           have hs5 := beq_iff_eq.1 hs5
           have un : ∀ a' b' w', nd 34 [nd 37 [a, b], q] = diffN a' b' w' → a' = a ∧ b' = b ∧ w' = kidP (nd 34 [nd 37 [a, b], q]) [1, 1, 0, 0, 1] := by
             intro a' b' w' h
             refine ⟨?_, ?_, by rw [h]; rfl⟩
             · simp only [diffN, nd_inj, lst2] at h; exact h.2.1.2.1.symm
             · simp only [diffN, nd_inj, lst2] at h; exact h.2.1.2.2.symm
           have zw := z1 [1, 1, 0, 0, 1]
           revert un zw
           generalize kidP (nd 34 [nd 37 [a, b], q]) [1, 1, 0, 0, 1] = w
           intro un zw
           simp only [iteO_true]
           cases h1 : w.op == 1 with
           | false => exact nn fun ⟨a', b', w', h, _, hw, _⟩ => by obtain ⟨rfl, rfl, rfl⟩ := un a' b' w' h; rw [hw] at h1; cases h1
           | true =>
             cases h2 : w.sortf == 1 with
             | false => exact nn fun ⟨a', b', w', h, _, _, hw, _⟩ => by obtain ⟨rfl, rfl, rfl⟩ := un a' b' w' h; rw [hw] at h2; cases h2
             | true =>
               simp only [iteO_true, apart1276 N w a b (by omega) (by omega), bindO_some]
               cases h3 : !(occ w.name a) && !(occ w.name b) with
               | false => exact nn fun ⟨a', b', w', h, _, _, _, h4, h5⟩ => by obtain ⟨rfl, rfl, rfl⟩ := un a' b' w' h; rw [h4, h5] at h3; cases h3
               | true =>
                 simp only [Bool.and_eq_true, Bool.not_eq_true'] at h3
                 have e5 : nd 34 [eqR a b, nd 34 [nd 32 [nd 37 [nd 16 [a], nd 16 [b]]], nd 32 [nd 37 [nd 14 [a, w], nd 14 [b, w]]]]] = diffN a b w := by rw [eqR_ne (by rw [hs5]; decide)]; rfl
                 simp only [iteO_true, uneq1280 N a b w (by omega), e5, bindO_some]
                 rw [is1 N _ _ (by simp only [diffN, nd_size, List.map_cons, List.map_nil, List.sum_cons, List.sum_nil]; omega) (by simp only [diffN, nd_size, List.map_cons, List.map_nil, List.sum_cons, List.sum_nil]; omega), bindO_some]
                 by_cases he : diffN a b w = nd 34 [nd 37 [a, b], q]
                 · rw [decide_eq_true he]
                   exact ⟨_, rfl, .inr (.inr (.inl ⟨a, b, w, he.symm, hs5, ⟨beq_iff_eq.1 h1, beq_iff_eq.1 h2, h3.1, h3.2⟩, rfl⟩))⟩
                 · rw [decide_eq_false he]
                   exact nn fun ⟨a', b', w', h, _⟩ => by obtain ⟨rfl, rfl, rfl⟩ := un a' b' w' h; exact he h.symm
end
end Go.Abs.Try
namespace Go.Abs.Try
set_option maxRecDepth 100000
theorem mem1260 (N : Nat) (e s : Node) (h : sortedR s = true) (hN : e.size < N) (he : sortS e ≠ 2) : F1260 N e s = some (match memN e s with | some m => (m, true) | none => (nd 0 [], false)) := by
 have a1 : ∀ e s, F1288 e s = some (nd 40 [e, s]) := fun _ _ => rfl
 cases h9 : s.op == 9 with
 | true => obtain rfl := fEmpty h (beq_iff_eq.1 h9); rfl
 | false =>
   cases h10 : s.op == 10 with
   | true =>
     obtain ⟨a, rfl, _, _⟩ := fSing h (beq_iff_eq.1 h10)
     unfold F1260
     simp only [h9, h10, iteO_false, iteO_true, nd_kids, at1_0, a1, bindO_some, eq1257 N e a hN, eqR_ne he]
     rfl
   | false =>
     cases h11 : s.op == 11 with
     | true => obtain ⟨a, b, rfl, _⟩ := fCup h (beq_iff_eq.1 h11); rfl
     | false =>
       cases h12 : s.op == 12 with
       | true => obtain ⟨a, b, rfl, _⟩ := fCap h (beq_iff_eq.1 h12); rfl
       | false =>
         cases h13 : s.op == 13 with
         | true => obtain ⟨a, b, rfl, _⟩ := fMinus h (beq_iff_eq.1 h13); rfl
         | false => simp only [F1260, memN, a1, bindO_some, h9, h10, h11, h12, h13, iteO_false, cond_false]; rfl
section
open Classical
variable (N : Nat) (n : Node)
noncomputable def codeS (n : Node) : Int := if K2 n then 2 else if K3 n then 3 else if K4i n then 4 else if K5i n then 5 else 0
theorem codeS_no (h2 : ¬ K2 n) (h3 : ¬ K3 n) (h4 : ¬ K4i n) (h5 : ¬ K5i n) : (some 0 : Option Int) = some (codeS n) := by unfold codeS; rw [if_neg h2, if_neg h3, if_neg h4, if_neg h5]
theorem K3_op (h : K3 n) : n.op = 35 := by obtain ⟨_, _, _, rfl, _⟩ := h; rfl
theorem K4i_op (h : K4i n) : n.op = 35 := by obtain ⟨_, _, _, rfl⟩ := h; rfl
theorem K5i_op (h : K5i n) : n.op = 35 := by obtain ⟨_, _, _, rfl, _⟩ := h; rfl
theorem K2_op (h : K2 n) : n.op = 32 ∨ n.op = 36 := by obtain ⟨e, s, _, h⟩ := h; exact (memN_some h).1
theorem setsTop (m : Node) (hm : sortedR m = true) (hz : m.size ≤ 600) (hB : 100000000 ≤ N) (h35 : n.op ≠ 35) (hk : ∀ e s, memN e s = some n → m = nd 40 [e, s]) :
   (iteO (m.op == 40)
     (bindO (atO m.kids 0) fun x2 =>
       bindO (atO m.kids 1) fun x3 =>
       bindO (F1260 N x2 x3) fun r4 =>
       iteO r4.2
       (bindO (F21 N r4.1 n) fun r5 =>
         iteO r5
         (some 2)
         (some 0))
       (some 0))
     (some 0)) = some (codeS n) := by
 have none : ¬ K2 n → (some 0 : Option Int) = some (codeS n) := fun h => codeS_no n h (fun h => h35 (K3_op n h)) (fun h => h35 (K4i_op n h)) (fun h => h35 (K5i_op n h))
 cases h40 : m.op == 40 with
 | false => exact none fun ⟨e, s, _, h⟩ => by rw [hk e s h] at h40; cases h40
 | true =>
   obtain ⟨e, s, rfl, he1, _, he, hs⟩ := fMem hm (beq_iff_eq.1 h40)
   simp only [nd_size, List.map_cons, List.map_nil, List.sum_cons, List.sum_nil] at hz
   simp only [iteO_true, nd_kids, at2_0, at2_1, bindO_some, mem1260 N e s hs (by omega) (by rw [he1]; decide)]
   have un : ∀ e' s', memN e' s' = some n → memN e s = some n := by
     intro e' s' h
     have := hk e' s' h
     simp only [nd_inj, lst2] at this
     obtain ⟨_, rfl, rfl⟩ := this
     exact h
   cases hM : memN e s with
   | none => exact none fun ⟨e', s', _, h⟩ => by rw [un e' s' h] at hM; cases hM
   | some x =>
     have hx := (memN_some hM).2.2
     simp only [iteO_true]
     rw [eq21 N x n (by omega) (by omega), bindO_some]
     by_cases hxn : x = n
     · rw [decide_eq_true hxn]
       subst hxn
       unfold codeS
       rw [if_pos ⟨e, s, hs, hM⟩]; rfl
     · rw [decide_eq_false hxn]
       exact none fun ⟨e', s', _, h⟩ => by rw [un e' s' h] at hM; injection hM with hM; exact hxn hM.symm
theorem p1240 (hs : sortedR n = true) (hz : n.size ≤ 600) (hB : 100000000 ≤ N) : F1240 N n = some (codeS n) := by
 unfold F1240
 cases h32 : n.op == 32 with
 | true =>
   have h35 : (n.op == 35) = false := by rw [beq_iff_eq.1 h32]; rfl
   simp only [iteO_true, h35, iteO_false, kid_0 N n (by omega), bindO_some]
   obtain ⟨m, rfl, _, hm⟩ := fNot hs (beq_iff_eq.1 h32)
   simp only [nd_size, List.map_cons, List.map_nil, List.sum_cons, List.sum_nil] at hz
   refine setsTop N _ m hm (by omega) hB (by intro h; cases h) fun e s h => ?_
   have := (memN_some h).2.1
   simp only [nd_kids, List.head?_cons] at this
   injection this
 | false =>
   cases h36 : n.op == 36 with
   | true =>
     have h35 : (n.op == 35) = false := by rw [beq_iff_eq.1 h36]; rfl
     simp only [iteO_true, h35, iteO_false, kid_0 N n (by omega), bindO_some]
     obtain ⟨m, q, rfl, _, _, hm, _⟩ := fIff hs (beq_iff_eq.1 h36)
     simp only [nd_size, List.map_cons, List.map_nil, List.sum_cons, List.sum_nil] at hz
     refine setsTop N _ m hm (by omega) hB (by intro h; cases h) fun e s h => ?_
     have := (memN_some h).2.1
     simp only [nd_kids, List.head?_cons] at this
     injection this
   | false =>
     have n2 : ¬ K2 n := fun h => by
       rcases K2_op n h with h | h
       · rw [h] at h32; cases h32
       · rw [h] at h36; cases h36
     cases h35 : n.op == 35 with
     | false =>
       simp only [iteO_false]
       have n35 : n.op ≠ 35 := fun h => by rw [h] at h35; cases h35
       cases h40 : n.op == 40 with
       | false => exact codeS_no n n2 (fun h => n35 (K3_op n h)) (fun h => n35 (K4i_op n h)) (fun h => n35 (K5i_op n h))
       | true =>
         have := setsTop N n n hs hz hB n35 fun e s h => absurd (memN_some h).1 (by rw [beq_iff_eq.1 h40]; decide)
         rw [h40] at this; exact this
     | true =>
       have h40 : (n.op == 40) = false := by rw [beq_iff_eq.1 h35]; rfl
       simp only [iteO_true, iteO_false, h40, kid_0 N n (by omega), kid_00 N n (by omega), kid_01 N n (by omega), kid_100 N n (by omega), kid_101 N n (by omega), bindO_some]
       obtain ⟨p, q, rfl, _, _, hp, hq⟩ := fImp hs (beq_iff_eq.1 h35)
       have z1 : ∀ l, (kidP (nd 35 [p, q]) l).size ≤ 600 := fun l => Nat.le_trans (kidP_size l _) hz
       rw [show kidP (nd 35 [p, q]) [0] = p from rfl]
       have w4 : ∀ a b e, nd 35 [p, q] = pass4 a b e → sortS a = 4 ∧ sortS b = 4 := by
         intro a b e h
         simp only [pass4, nd_inj (k := 35) (k' := 35), lst2] at h
         rw [h.2.1] at hp
         obtain ⟨a', b', e', h1, h2, _⟩ := fSub hp rfl
         simp only [nd_inj, lst2] at e'
         obtain ⟨_, rfl, rfl⟩ := e'
         exact ⟨h1, h2⟩
       have w5 : ∀ a b e, nd 35 [p, q] = pass5 a b e → sortS a = 4 → sortS b = 4 := by
         intro a b e h h4
         simp only [pass5, nd_inj (k := 35) (k' := 35), lst2] at h
         rw [h.2.1] at hp
         obtain ⟨a', b', e', h1, _⟩ := formEq hp rfl
         simp only [nd_inj, lst2] at e'
         obtain ⟨_, rfl, rfl⟩ := e'
         rw [← h1]; exact h4
       cases hl : ((p.kids.length : Int) == 2) with
       | false =>
         refine codeS_no _ n2 ?_ ?_ ?_
         · rintro ⟨_, _, _, h, _⟩
           simp only [sameN, nd_inj, lst2] at h; obtain ⟨_, rfl, _⟩ := h; cases hl
         · rintro ⟨_, _, _, h⟩
           simp only [pass4, nd_inj, lst2] at h; obtain ⟨_, rfl, _⟩ := h; cases hl
         · rintro ⟨_, _, _, h, _⟩
           simp only [pass5, nd_inj, lst2] at h; obtain ⟨_, rfl, _⟩ := h; cases hl
       | true =>
         have u3 : ∀ e f s, nd 35 [p, q] = sameN e f s → e = kidP (nd 35 [p, q]) [0, 0] ∧ f = kidP (nd 35 [p, q]) [0, 1] ∧ s = kidP (nd 35 [p, q]) [1, 0, 1] := fun e f s h => by rw [h]; exact ⟨rfl, rfl, rfl⟩
         have u4 : ∀ a b e, nd 35 [p, q] = pass4 a b e → a = kidP (nd 35 [p, q]) [0, 0] ∧ b = kidP (nd 35 [p, q]) [0, 1] ∧ e = kidP (nd 35 [p, q]) [1, 0, 0] := fun e f s h => by rw [h]; exact ⟨rfl, rfl, rfl⟩
         have u5 : ∀ a b e, nd 35 [p, q] = pass5 a b e → a = kidP (nd 35 [p, q]) [0, 0] ∧ b = kidP (nd 35 [p, q]) [0, 1] ∧ e = kidP (nd 35 [p, q]) [1, 0, 0] := fun e f s h => by rw [h]; exact ⟨rfl, rfl, rfl⟩
         have za := z1 [0, 0]
         have zb := z1 [0, 1]
         have zs := z1 [1, 0, 1]
         have ze := z1 [1, 0, 0]
         revert u3 u4 u5 za zb zs ze
         generalize kidP (nd 35 [p, q]) [0, 0] = a
         generalize kidP (nd 35 [p, q]) [0, 1] = b
         generalize kidP (nd 35 [p, q]) [1, 0, 1] = s
         generalize kidP (nd 35 [p, q]) [1, 0, 0] = e
         intro u3 u4 u5 za zb zs ze
         simp only [iteO_true, sort28 N a (by omega), sort28 N b (by omega), bindO_some]
         have e14 : ((1 : Int) == 4) = false := rfl
         cases h1 : sortS a == 1 with
         | true =>
           have h1 := beq_iff_eq.1 h1
           have n4 : ¬ K4i (nd 35 [p, q]) := fun ⟨a', b', e', h⟩ => by
             have := (w4 a' b' e' h).1
             rw [(u4 a' b' e' h).1, h1] at this; exact absurd this (by decide)
           have n5 : ¬ K5i (nd 35 [p, q]) := fun ⟨a', b', e', h, h4⟩ => by
             rw [(u5 a' b' e' h).1, h1] at h4; exact absurd h4 (by decide)
           rw [h1]
           have e3 : nd 35 [eqR a b, nd 36 [nd 40 [a, s], nd 40 [b, s]]] = sameN a b s := by rw [eqR_ne (by rw [h1]; decide)]; rfl
           simp only [iteO_true, e14, iteO_false, moved1261 N a b s (by omega), e3, bindO_some]
           rw [is1 N _ _ (by simp only [sameN, nd_size, List.map_cons, List.map_nil, List.sum_cons, List.sum_nil]; omega) (by simp only [sameN, nd_size, List.map_cons, List.map_nil, List.sum_cons, List.sum_nil]; omega), bindO_some]
           by_cases he : sameN a b s = nd 35 [p, q]
           · rw [decide_eq_true he]
             unfold codeS
             rw [if_neg n2, if_pos ⟨a, b, s, he.symm, h1⟩]; rfl
           · rw [decide_eq_false he]
             refine codeS_no _ n2 (fun ⟨e', f', s', h, _⟩ => ?_) n4 n5
             obtain ⟨rfl, rfl, rfl⟩ := u3 e' f' s' h
             exact he h.symm
         | false =>
           have n3 : ¬ K3 (nd 35 [p, q]) := fun ⟨e', f', s', h, h4⟩ => by
             rw [(u3 e' f' s' h).1] at h4; rw [h4] at h1; cases h1
           simp only [iteO_false]
           cases h4 : sortS a == 4 with
           | false =>
             refine codeS_no _ n2 n3 (fun ⟨a', b', e', h⟩ => ?_) (fun ⟨a', b', e', h, h5⟩ => ?_)
             · have := (w4 a' b' e' h).1
               rw [(u4 a' b' e' h).1] at this; rw [this] at h4; cases h4
             · rw [(u5 a' b' e' h).1] at h5; rw [h5] at h4; cases h4
           | true =>
             have h4 := beq_iff_eq.1 h4
             simp only [iteO_true]
             cases hb4 : sortS b == 4 with
             | false =>
               refine codeS_no _ n2 n3 (fun ⟨a', b', e', h⟩ => ?_) (fun ⟨a', b', e', h, h5⟩ => ?_)
               · have := (w4 a' b' e' h).2
                 rw [(u4 a' b' e' h).2.1] at this; rw [this] at hb4; cases hb4
               · have := w5 a' b' e' h h5
                 rw [(u5 a' b' e' h).2.1] at this; rw [this] at hb4; cases hb4
             | true =>
               have e5 : nd 35 [eqR a b, nd 36 [nd 40 [e, a], nd 40 [e, b]]] = pass5 a b e := by rw [eqR_ne (by rw [h4]; decide)]; rfl
               simp only [iteO_true, incl1262, shared1263 N a b e (by omega), e5, bindO_some]
               rw [is1 N _ _ (by simp only [pass4, nd_size, List.map_cons, List.map_nil, List.sum_cons, List.sum_nil]; omega) (by simp only [pass4, nd_size, List.map_cons, List.map_nil, List.sum_cons, List.sum_nil]; omega), bindO_some]
               by_cases he : pass4 a b e = nd 35 [p, q]
               · rw [decide_eq_true he]
                 unfold codeS
                 rw [if_neg n2, if_neg n3, if_pos ⟨a, b, e, he.symm⟩]; rfl
               · rw [decide_eq_false he]
                 have n4 : ¬ K4i (nd 35 [p, q]) := fun ⟨a', b', e', h⟩ => by obtain ⟨rfl, rfl, rfl⟩ := u4 a' b' e' h; exact he h.symm
                 rw [iteO_false, is1 N _ _ (by simp only [pass5, nd_size, List.map_cons, List.map_nil, List.sum_cons, List.sum_nil]; omega) (by simp only [pass5, nd_size, List.map_cons, List.map_nil, List.sum_cons, List.sum_nil]; omega), bindO_some]
                 by_cases he : pass5 a b e = nd 35 [p, q]
                 · rw [decide_eq_true he]
                   unfold codeS
                   rw [if_neg n2, if_neg n3, if_neg n4, if_pos ⟨a, b, e, he.symm, h4⟩]; rfl
                 · rw [decide_eq_false he]
                   exact codeS_no _ n2 n3 n4 fun ⟨a', b', e', h, _⟩ => by obtain ⟨rfl, rfl, rfl⟩ := u5 a' b' e' h; exact he h.symm
end
end Go.Abs.Try
namespace Go.Abs.Try
set_option maxRecDepth 100000
section
open Classical
variable (N : Nat) (n : Node)
noncomputable def codeA (n : Node) : Int := if K6 n then 6 else if K7i n then 7 else 0
theorem codeA_no (h6 : ¬ K6 n) (h7 : ¬ K7i n) : (some 0 : Option Int) = some (codeA n) := by unfold codeA; rw [if_neg h6, if_neg h7]
theorem codeA_6 (h6 : K6 n) : (some 6 : Option Int) = some (codeA n) := by unfold codeA; rw [if_pos h6]
theorem codeA_7 (h6 : ¬ K6 n) (h7 : K7i n) : (some 7 : Option Int) = some (codeA n) := by unfold codeA; rw [if_neg h6, if_pos h7]
theorem K7i_op (h : K7i n) : n.op = 35 := by obtain ⟨_, _, _, rfl, _⟩ := h; rfl
theorem K6_38 (h : K6 n) (ho : n.op = 38) : ∃ a, n = cntN a := by
 rcases h with h | ⟨_, _, _, rfl⟩ | ⟨_, _, _, rfl, _⟩ | ⟨_, _, _, _, rfl⟩ | ⟨_, _, _, _, rfl⟩
 · exact h
 all_goals cases ho
theorem K6_37 (h : K6 n) (ho : n.op = 37) : ∃ a i x, n = sto2 a i x := by
 rcases h with ⟨_, rfl⟩ | h | ⟨_, _, _, rfl, _⟩ | ⟨_, _, _, _, rfl⟩ | ⟨_, _, _, _, rfl⟩
 · cases ho
 · exact h
 all_goals cases ho
theorem K6_35 (h : K6 n) (ho : n.op = 35) : (∃ j a i x, n = sto0 j a i x) ∨ ∃ i j a, n = readN i j a ∧ sortS i = 1 := by
 rcases h with ⟨_, rfl⟩ | ⟨_, _, _, rfl⟩ | h | h | ⟨_, _, _, _, rfl⟩
 · cases ho
 · cases ho
 · exact .inr h
 · exact .inl h
 · cases ho
theorem K6_34 (h : K6 n) (ho : n.op = 34) : ∃ j a i x, n = sto1 j a i x := by
 rcases h with ⟨_, rfl⟩ | ⟨_, _, _, rfl⟩ | ⟨_, _, _, rfl, _⟩ | ⟨_, _, _, _, rfl⟩ | h
 · cases ho
 · cases ho
 · cases ho
 · cases ho
 · exact h
theorem K6_op (h : K6 n) : n.op = 38 ∨ n.op = 37 ∨ n.op = 35 ∨ n.op = 34 := by
 rcases h with ⟨_, rfl⟩ | ⟨_, _, _, rfl⟩ | ⟨_, _, _, rfl, _⟩ | ⟨_, _, _, _, rfl⟩ | ⟨_, _, _, _, rfl⟩
 · exact .inl rfl
 · exact .inr (.inl rfl)
 · exact .inr (.inr (.inl rfl))
 · exact .inr (.inr (.inl rfl))
 · exact .inr (.inr (.inr rfl))
def tailA (N : Nat) (n p a b s w : Node) : Option Int :=
 iteO (p.op == 37)
   (iteO (sortS a == 1)
     (bindO (F1265 N a b s) fun x =>
       bindO (F1277 N n ([x])) fun r =>
       iteO r
       (some 6)
       (iteO (sortS a == 5)
         (bindO (F1267 N a b w) fun x =>
           bindO (F1277 N n ([x])) fun r =>
           iteO r
           (some 7)
           (some 0))
         (some 0)))
     (iteO (sortS a == 5)
       (bindO (F1267 N a b w) fun x =>
         bindO (F1277 N n ([x])) fun r =>
         iteO r
         (some 7)
         (some 0))
       (some 0)))
   (some 0)
theorem tailA_ok (p q a b s w : Node) (hs : sortedR (nd 35 [p, q]) = true) (hB : 100000000 ≤ N) (za : a.size ≤ 600) (zb : b.size ≤ 600) (zs : s.size ≤ 600) (zw : w.size ≤ 600)
   (hS : ¬ ∃ j a i x, nd 35 [p, q] = sto0 j a i x)
   (ur : ∀ i j a', nd 35 [p, q] = readN i j a' → i = a ∧ j = b ∧ a' = s)
   (ue : ∀ a' b' i, nd 35 [p, q] = agreeN a' b' i → a' = a ∧ b' = b ∧ i = w) : tailA N (nd 35 [p, q]) p a b s w = some (codeA (nd 35 [p, q])) := by
 unfold tailA
 have h6 : K6 (nd 35 [p, q]) → ∃ i j a, nd 35 [p, q] = readN i j a ∧ sortS i = 1 := fun h => (K6_35 _ h rfl).resolve_left hS
 cases h37 : p.op == 37 with
 | false =>
   refine codeA_no _ (fun h => ?_) fun ⟨_, _, _, h, _⟩ => ?_
   · obtain ⟨i, j, a, h, _⟩ := h6 h
     simp only [readN, nd_inj, lst2] at h; obtain ⟨_, rfl, _⟩ := h; cases h37
   · simp only [agreeN, nd_inj, lst2] at h; obtain ⟨_, rfl, _⟩ := h; cases h37
 | true =>
   have e15 : ((1 : Int) == 5) = false := rfl
   rw [iteO_true]
   cases h1 : sortS a == 1 with
   | true =>
     have h1 := beq_iff_eq.1 h1
     have e3 : nd 35 [eqR a b, nd 37 [nd 14 [s, a], nd 14 [s, b]]] = readN a b s := by rw [eqR_ne (by rw [h1]; decide)]; rfl
     have n7 : ¬ K7i (nd 35 [p, q]) := fun ⟨a', b', e', h, h4⟩ => by
       rw [(ue a' b' e' h).1, h1] at h4; exact absurd h4 (by decide)
     rw [h1]
     simp only [iteO_true, iteO_false, e15, indexed1265 N a b s (by omega), e3, bindO_some]
     rw [is1 N _ _ (by simp only [readN, nd_size, List.map_cons, List.map_nil, List.sum_cons, List.sum_nil]; omega) (by simp only [readN, nd_size, List.map_cons, List.map_nil, List.sum_cons, List.sum_nil]; omega), bindO_some]
     by_cases he : readN a b s = nd 35 [p, q]
     · rw [decide_eq_true he]
       exact codeA_6 _ (.inr (.inr (.inl ⟨a, b, s, he.symm, h1⟩)))
     · rw [decide_eq_false he]
       refine codeA_no _ (fun h => ?_) n7
       obtain ⟨i, j, a', h, _⟩ := h6 h
       obtain ⟨rfl, rfl, rfl⟩ := ur i j a' h
       exact he h.symm
   | false =>
     have n6 : ¬ K6 (nd 35 [p, q]) := fun h => by
       obtain ⟨i, j, a', h, hi⟩ := h6 h
       rw [(ur i j a' h).1] at hi; rw [hi] at h1; cases h1
     rw [iteO_false]
     cases h5 : sortS a == 5 with
     | false => exact codeA_no _ n6 fun ⟨a', b', e', h, h4⟩ => by rw [(ue a' b' e' h).1] at h4; rw [h4] at h5; cases h5
     | true =>
       have h5 := beq_iff_eq.1 h5
       have e3 : nd 35 [eqR a b, nd 33 [nd 37 [nd 16 [a], nd 16 [b]], nd 37 [nd 14 [a, w], nd 14 [b, w]]]] = agreeN a b w := by rw [eqR_ne (by rw [h5]; decide)]; rfl
       simp only [iteO_true, equal1267 N a b w (by omega), e3, bindO_some]
       rw [is1 N _ _ (by simp only [agreeN, nd_size, List.map_cons, List.map_nil, List.sum_cons, List.sum_nil]; omega) (by simp only [agreeN, nd_size, List.map_cons, List.map_nil, List.sum_cons, List.sum_nil]; omega), bindO_some]
       by_cases he : agreeN a b w = nd 35 [p, q]
       · rw [decide_eq_true he]
         exact codeA_7 _ n6 ⟨a, b, w, he.symm, h5⟩
       · rw [decide_eq_false he]
         exact codeA_no _ n6 fun ⟨a', b', e', h, _⟩ => by obtain ⟨rfl, rfl, rfl⟩ := ue a' b' e' h; exact he h.symm
theorem sto_is (s j : Node) (hk : s.op = 15 → sortedR s = true) (h15 : s.op = 15) (zs : s.size ≤ 600) (zj : j.size ≤ 600) (hB : 100000000 ≤ N) :
   ∃ a i x, s = nd 15 [a, i, x] ∧ F1264 N j s = some [sto0 j a i x, sto1 j a i x, sto2 a i x] ∧ F1277 N n [sto0 j a i x, sto1 j a i x] = some (decide (sto0 j a i x = n ∨ sto1 j a i x = n)) ∧ F1277 N n [sto2 a i x] = some (decide (sto2 a i x = n)) := by
 obtain ⟨a, i, x, rfl, _, hi, _⟩ := fSto (hk h15) h15
 simp only [nd_size, List.map_cons, List.map_nil, List.sum_cons, List.sum_nil] at zs
 refine ⟨a, i, x, rfl, stores1264 N j a i x (by omega) (by rw [hi]; decide), is2 N n _ _ ?_ ?_ ?_ ?_, is1 N n _ ?_ ?_⟩
 all_goals (simp only [sto0, sto1, sto2, nd_size, List.map_cons, List.map_nil, List.sum_cons, List.sum_nil]; omega)
theorem p1241 (hs : sortedR n = true) (hz : n.size ≤ 600) (hB : 100000000 ≤ N) : F1241 N n = some (codeA n) := by
 have z1 : ∀ l, (kidP n l).size ≤ 600 := fun l => Nat.le_trans (kidP_size l _) hz
 have o1 : ∀ l, (kidP n l).op = 15 → sortedR (kidP n l) = true := fun l h => by
   rcases kidP_sorted l n hs with h' | h'
   · exact h'
   · rw [h'] at h; exact absurd h (by decide)
 cases h38 : n.op == 38 with
 | true =>
   have e38 := beq_iff_eq.1 h38
   have h37 : (n.op == 37) = false := by rw [e38]; rfl
   have h35 : (n.op == 35) = false := by rw [e38]; rfl
   have h34 : (n.op == 34) = false := by rw [e38]; rfl
   have n7 : ¬ K7i n := fun h => by rw [K7i_op n h] at e38; exact absurd e38 (by decide)
   have zz := z1 [1, 0]
   simp only [F1241, h38, h37, h35, h34, iteO_true, iteO_false, kid_10 N n (by omega), long1266, bindO_some]
   rw [is1 N _ _ (by simp only [cntN, nd_size, List.map_cons, List.map_nil, List.sum_cons, List.sum_nil]; omega) (by simp only [cntN, nd_size, List.map_cons, List.map_nil, List.sum_cons, List.sum_nil]; omega), bindO_some]
   by_cases he : cntN (kidP n [1, 0]) = n
   · rw [decide_eq_true he]
     exact codeA_6 _ (.inl ⟨_, he.symm⟩)
   · rw [decide_eq_false he]
     refine codeA_no _ (fun h => ?_) n7
     obtain ⟨a, h⟩ := K6_38 n h e38
     rw [h] at he; exact he rfl
 | false =>
   cases h37 : n.op == 37 with
   | true =>
     have e37 := beq_iff_eq.1 h37
     have h35 : (n.op == 35) = false := by rw [e37]; rfl
     have h34 : (n.op == 34) = false := by rw [e37]; rfl
     have n7 : ¬ K7i n := fun h => by rw [K7i_op n h] at e37; exact absurd e37 (by decide)
     simp only [F1241, h38, h37, h35, h34, iteO_true, iteO_false, kid_0 N n (by omega), kid_00 N n (by omega), bindO_some]
     cases h16 : (kidP n [0]).op == 16 with
     | false =>
       refine codeA_no _ (fun h => ?_) n7
       obtain ⟨a, i, x, h⟩ := K6_37 n h e37
       rw [h] at h16; cases h16
     | true =>
       rw [iteO_true]
       cases h15 : (kidP n [0, 0]).op == 15 with
       | false =>
         refine codeA_no _ (fun h => ?_) n7
         obtain ⟨a, i, x, h⟩ := K6_37 n h e37
         rw [h] at h15; cases h15
       | true =>
         obtain ⟨a, i, x, e, e1, _, e2⟩ := sto_is N n (kidP n [0, 0]) (nd 2 []) (o1 _) (beq_iff_eq.1 h15) (z1 _) (by simp only [nd_size, List.map_nil, List.sum_nil]; omega) hB
         simp only [iteO_true, nd_mk, e1, at3_2, e2, bindO_some]
         by_cases he : sto2 a i x = n
         · rw [decide_eq_true he]
           exact codeA_6 _ (.inr (.inl ⟨_, _, _, he.symm⟩))
         · rw [decide_eq_false he]
           refine codeA_no _ (fun h => ?_) n7
           obtain ⟨a', i', x', h⟩ := K6_37 n h e37
           rw [h] at e
           have e : nd 15 [a', i', x'] = nd 15 [a, i, x] := e
           simp only [nd_inj, lst3] at e
           obtain ⟨_, rfl, rfl, rfl⟩ := e
           exact he h.symm
   | false =>
     cases h35 : n.op == 35 with
     | true =>
       have e35 := beq_iff_eq.1 h35
       obtain ⟨p, q, rfl, _⟩ := fImp hs e35
       have T := tailA_ok N p q (kidP (nd 35 [p, q]) [0, 0]) (kidP (nd 35 [p, q]) [0, 1]) (kidP (nd 35 [p, q]) [1, 0, 0]) (kidP (nd 35 [p, q]) [1, 1, 0, 1]) hs hB (z1 _) (z1 _) (z1 _) (z1 _)
       have T := fun h => T h (fun i j a' h => by rw [h]; exact ⟨rfl, rfl, rfl⟩) (fun i j a' h => by rw [h]; exact ⟨rfl, rfl, rfl⟩)
       simp only [F1241, h38, h37, h35, iteO_true, iteO_false, kid_0 N (nd 35 [p, q]) (by omega), kid_00 N (nd 35 [p, q]) (by omega), kid_01 N (nd 35 [p, q]) (by omega), kid_10 N (nd 35 [p, q]) (by omega), kid_100 N (nd 35 [p, q]) (by omega), kid_101 N (nd 35 [p, q]) (by omega), kid_1101 N (nd 35 [p, q]) (by omega), bindO_some,
         sort28 N (kidP (nd 35 [p, q]) [0, 0]) (by have := z1 [0, 0]; omega)]
       cases h15 : (kidP (nd 35 [p, q]) [1, 0, 0]).op == 15 with
       | false =>
         refine T fun ⟨_, _, _, _, h⟩ => ?_
         rw [h] at h15; cases h15
       | true =>
         rw [iteO_true]
         cases h14 : (kidP (nd 35 [p, q]) [1, 0]).op == 14 with
         | false =>
           refine T fun ⟨_, _, _, _, h⟩ => ?_
           rw [h] at h14; cases h14
         | true =>
           obtain ⟨a, i, x, e, e1, e2, _⟩ := sto_is N (nd 35 [p, q]) (kidP (nd 35 [p, q]) [1, 0, 0]) (kidP (nd 35 [p, q]) [1, 0, 1]) (o1 _) (beq_iff_eq.1 h15) (z1 _) (z1 _) hB
           simp only [iteO_true, e1, at3_0, at3_1, e2, bindO_some]
           by_cases he : sto0 (kidP (nd 35 [p, q]) [1, 0, 1]) a i x = nd 35 [p, q] ∨ sto1 (kidP (nd 35 [p, q]) [1, 0, 1]) a i x = nd 35 [p, q]
           · rw [decide_eq_true he]
             refine codeA_6 _ ?_
             rcases he with he | he
             · exact .inr (.inr (.inr (.inl ⟨_, _, _, _, he.symm⟩)))
             · exact .inr (.inr (.inr (.inr ⟨_, _, _, _, he.symm⟩)))
           · rw [decide_eq_false he]
             refine T fun ⟨j', a', i', x', h⟩ => he (.inl ?_)
             have ej : kidP (nd 35 [p, q]) [1, 0, 1] = j' := by rw [h]; rfl
             rw [h] at e
             have e : nd 15 [a', i', x'] = nd 15 [a, i, x] := e
             simp only [nd_inj, lst3] at e
             obtain ⟨_, rfl, rfl, rfl⟩ := e
             rw [ej]
             exact h.symm
     | false =>
       cases h34 : n.op == 34 with
       | false =>
         simp only [F1241, h38, h37, h35, h34, iteO_false]
         refine codeA_no _ (fun h => ?_) fun h => by rw [K7i_op n h] at h35; cases h35
         rcases K6_op n h with h | h | h | h
         · rw [h] at h38; cases h38
         · rw [h] at h37; cases h37
         · rw [h] at h35; cases h35
         · rw [h] at h34; cases h34
       | true =>
         have e34 := beq_iff_eq.1 h34
         have n7 : ¬ K7i n := fun h => by rw [K7i_op n h] at e34; exact absurd e34 (by decide)
         simp only [F1241, h38, h37, h35, h34, iteO_true, iteO_false, kid_10 N n (by omega), kid_100 N n (by omega), kid_101 N n (by omega), bindO_some]
         cases h15 : (kidP n [1, 0, 0]).op == 15 with
         | false =>
           refine codeA_no _ (fun h => ?_) n7
           obtain ⟨_, _, _, _, h⟩ := K6_34 n h e34
           rw [h] at h15; cases h15
         | true =>
           rw [iteO_true]
           cases h14 : (kidP n [1, 0]).op == 14 with
           | false =>
             refine codeA_no _ (fun h => ?_) n7
             obtain ⟨_, _, _, _, h⟩ := K6_34 n h e34
             rw [h] at h14; cases h14
           | true =>
             obtain ⟨a, i, x, e, e1, e2, _⟩ := sto_is N n (kidP n [1, 0, 0]) (kidP n [1, 0, 1]) (o1 _) (beq_iff_eq.1 h15) (z1 _) (z1 _) hB
             simp only [iteO_true, e1, at3_0, at3_1, e2, bindO_some]
             by_cases he : sto0 (kidP n [1, 0, 1]) a i x = n ∨ sto1 (kidP n [1, 0, 1]) a i x = n
             · rw [decide_eq_true he]
               refine codeA_6 _ ?_
               rcases he with he | he
               · exact .inr (.inr (.inr (.inl ⟨_, _, _, _, he.symm⟩)))
               · exact .inr (.inr (.inr (.inr ⟨_, _, _, _, he.symm⟩)))
             · rw [decide_eq_false he]
               refine codeA_no _ (fun h => ?_) n7
               obtain ⟨j', a', i', x', h⟩ := K6_34 n h e34
               refine he (.inr ?_)
               have ej : kidP n [1, 0, 1] = j' := by rw [h]; rfl
               rw [h] at e
               have e : nd 15 [a', i', x'] = nd 15 [a, i, x] := e
               simp only [nd_inj, lst3] at e
               obtain ⟨_, rfl, rfl, rfl⟩ := e
               rw [ej]
               exact h.symm
end
end Go.Abs.Try
namespace Go.Abs.Try
set_option maxRecDepth 100000
theorem fits64_ok {n : Nat} (h : n ≤ 1048577) : fits n 64 = true := by
 simp only [fits, roomMax]; exact decide_eq_true (by omega)
theorem foldl_app (g : Node → Node) : ∀ (l s : List Node), l.foldl (fun s x => s ++ [g x]) s = s ++ l.map g
 | [], s => by simp
 | x :: xs, s => by rw [List.foldl_cons, foldl_app g xs]; simp
theorem app_fold {β : Type} (self : Node → Option Node) (g : Node → Node) (step : List Node → Nat → Node → Option (Sum (List Node) β)) (hstep : ∀ s i x, step s i x = bindO (self x) fun r => iteO (fits (s.length + 1) 64) (some (.inl (s ++ [r]))) none) (fin : List Node → Option β)
   (ks : List Node) (N : Nat) (hN : ks.length < N) (hb : ks.length ≤ 1048576) (hs : ∀ k ∈ ks, self k = some (g k)) : foldN step fin N ks 0 [] = fin (ks.map g) := by
 have := foldN_inl (step := step) (fin := fin) (fun (s : List Node) (k : Node) => s ++ [g k]) (fun l s => (∀ k ∈ l, k ∈ ks) ∧ s.length + l.length = ks.length)
   (fun x xs i s ⟨h1, h2⟩ => by
     simp only [List.length_cons] at h2
     refine ⟨by rw [hstep, hs x (h1 x (by simp)), bindO_some, fits64_ok (by omega), iteO_true], fun k hk => h1 k (by simp [hk]), by simp; omega⟩) ks N 0 [] hN ⟨fun _ h => h, by simp⟩
 rw [this.1, foldl_app, List.nil_append]
theorem copied82 : ∀ (N : Nat) (n : Node), n.size < N → n.size ≤ 1048576 → F82 N n = some n
 | 0, n, h, _ => absurd h (Nat.not_lt_zero _)
 | N + 1, n, h, hb => by
   have hk := kids_len n
   show F82b (F82 N) N n = _
   have hf : fits n.kids.length 64 = true := fits64_ok (by omega)
   simp only [F82b, hf, iteO_true, Int.toNat_natCast]
   refine foldN_idx (step := F82_s1 (F82 N)) (fin := F82_f1 n) (fun s _ _ => s) (fun i l s => s = n.kids ∧ i + l.length = n.kids.length) (fun r => r = some n) ?_ ?_ (List.range n.kids.length) N 0 n.kids (by simp; omega) ⟨rfl, by simp⟩
   · intro x xs i s ⟨h1, h2⟩
     subst h1
     simp only [List.length_cons] at h2
     have hi : i < n.kids.length := by omega
     have hm := List.getElem_mem hi
     have hs := kids_size hm
     have ha : atO n.kids (i : Int) = some n.kids[i] := atO_get (List.getElem?_eq_getElem hi)
     refine ⟨?_, rfl, by omega⟩
     simp only [F82_s1, ha, bindO_some, copied82 N n.kids[i] (by omega) (by omega), List.set_getElem_self]
   · intro i s ⟨h1, _⟩
     subst h1
     cases n; rfl
end Go.Abs.Try
namespace Go.Abs.Try
set_option maxRecDepth 100000
theorem same83 : ∀ (N : Nat) (n : Node), n.size < N → n.size ≤ 1048576 → F83 N n = some n
 | 0, n, h, _ => absurd h (Nat.not_lt_zero _)
 | N + 1, n, h, hb => by
   have hk := kids_len n
   show F83b (F83 N) N n = _
   simp only [F83b]
   rw [app_fold (F83 N) id (F83_s2 (F83 N)) (fun _ _ _ => rfl) (F83_f2 n) n.kids N (by omega) (by omega) (fun k hk => same83 N k (by have := kids_size hk; omega) (by have := kids_size hk; omega)), List.map_id]
   cases n; rfl
end Go.Abs.Try
namespace Go.Abs.Try
set_option maxRecDepth 100000
theorem mem_le_sum : ∀ (l : List Node) (x : Node), x ∈ l → x.size ≤ (l.map Node.size).sum
 | y :: l, x, h => by
   rw [List.map_cons, List.sum_cons]
   rcases List.mem_cons.1 h with rfl | h
   · omega
   · have := mem_le_sum l x h; omega
def conjL : List Node → Node
 | [] => nd 30 []
 | x :: xs => xs.foldl (fun a b => nd 33 [a, b]) x
theorem cutL_1 {α : Type} (x : α) (l : List α) : cutL (x :: l) 1 ((x :: l).length : Int) = l := by
 unfold cutL
 simp only [List.length_cons]
 rw [show (1 : Int).toNat = 1 from rfl, List.drop_one, List.tail_cons, show ((((l.length + 1 : Nat) : Int) - 1).toNat) = l.length from by omega, List.take_length]
theorem inS_1 {α : Type} (x : α) (l : List α) : inS 1 ((x :: l).length : Int) (x :: l).length = true := by
 unfold inS
 exact decide_eq_true (by simp only [List.length_cons]; omega)
theorem conj52_fold (N : Nat) : ∀ (xs : List Node) (a : Node) (M i : Nat), xs.length < M → (∀ x ∈ xs, x.size ≤ 1048576 ∧ x.size < N) →
   foldN (S := Int × Int × ByteArray × Int × (List Node)) (F52_s2 N) F52_f2 M xs i (a.op, a.sortf, a.name, a.num, a.kids) = some (xs.foldl (fun a b => nd 33 [a, b]) a)
 | _, _, 0, _, h, _ => absurd h (Nat.not_lt_zero _)
 | [], a, _ + 1, _, _, _ => by cases a; rfl
 | x :: xs, a, M + 1, i, h, hx => by
   show bindO (F52_s2 N (a.op, a.sortf, a.name, a.num, a.kids) i x) _ = _
   unfold F52_s2
   rw [copied82 N x (hx x (by simp)).2 (hx x (by simp)).1]
   have := conj52_fold N xs (nd 33 [a, x]) M (i + 1) (by simp at h; omega) (fun y hy => hx y (by simp [hy]))
   cases a
   exact this
theorem conj53_fold (N : Nat) : ∀ (xs : List Node) (a : Node) (M i : Nat), xs.length < M → (∀ x ∈ xs, x.size ≤ 1048576 ∧ x.size < N) →
   foldN (S := Int × Int × ByteArray × Int × (List Node)) (F53_s1 N) F53_f1 M xs i (a.op, a.sortf, a.name, a.num, a.kids) = some (xs.foldl (fun a b => nd 33 [a, b]) a)
 | _, _, 0, _, h, _ => absurd h (Nat.not_lt_zero _)
 | [], a, _ + 1, _, _, _ => by cases a; rfl
 | x :: xs, a, M + 1, i, h, hx => by
   show bindO (F53_s1 N (a.op, a.sortf, a.name, a.num, a.kids) i x) _ = _
   unfold F53_s1
   rw [same83 N x (hx x (by simp)).2 (hx x (by simp)).1]
   have := conj53_fold N xs (nd 33 [a, x]) M (i + 1) (by simp at h; omega) (fun y hy => hx y (by simp [hy]))
   cases a
   exact this
theorem conj52 (N : Nat) (l : List Node) (hl : l.length < N) (hx : ∀ x ∈ l, x.size ≤ 1048576 ∧ x.size < N) : F52 N l = some (conjL l) := by
 match l with
 | [] => rfl
 | x :: xs =>
   unfold F52
   rw [show (((x :: xs).length : Int) == 0) = false from by simp only [List.length_cons]; exact beq_eq_false_iff_ne.2 (by omega), iteO_false, show atO (x :: xs) 0 = some x from atO_lit (i := 0) rfl rfl, bindO_some,
     copied82 N x (hx x (by simp)).2 (hx x (by simp)).1, bindO_some, inS_1, iteO_true, cutL_1]
   exact conj52_fold N xs x N 0 (by simp at hl; omega) fun y hy => hx y (by simp [hy])
theorem conj53 (N : Nat) (l : List Node) (hl : l.length < N) (hx : ∀ x ∈ l, x.size ≤ 1048576 ∧ x.size < N) : F53 N l = some (conjL l) := by
 match l with
 | [] => rfl
 | x :: xs =>
   unfold F53
   rw [show (((x :: xs).length : Int) == 0) = false from by simp only [List.length_cons]; exact beq_eq_false_iff_ne.2 (by omega), iteO_false, show atO (x :: xs) 0 = some x from atO_lit (i := 0) rfl rfl, bindO_some,
     same83 N x (hx x (by simp)).2 (hx x (by simp)).1, bindO_some, inS_1, iteO_true, cutL_1]
   exact conj53_fold N xs x N 0 (by simp at hl; omega) fun y hy => hx y (by simp [hy])
theorem conj_size : ∀ (xs : List Node) (a : Node), (xs.foldl (fun a b => nd 33 [a, b]) a).size = a.size + xs.length + (xs.map Node.size).sum
 | [], a => by simp
 | x :: xs, a => by
   rw [List.foldl_cons, conj_size xs]
   simp only [nd_size, List.map_cons, List.map_nil, List.sum_cons, List.sum_nil, List.length_cons]; omega
theorem conjL_size (l : List Node) : (conjL l).size ≤ 1 + l.length + (l.map Node.size).sum := by
 match l with
 | [] => simp [conjL, nd_size]
 | x :: xs =>
   unfold conjL
   rw [conj_size]
   simp only [List.length_cons, List.map_cons, List.sum_cons]; omega
theorem spine : ∀ (N : Nat) (u : Node), u.size < N → u.size ≤ 1048576 → sortedR u = true → ∃ l, F1386 N u = some l ∧ F1393 N u = some l ∧ l.length ≤ u.size ∧ (l.map Node.size).sum ≤ u.size
 | 0, _, h, _, _ => absurd h (Nat.not_lt_zero _)
 | N + 1, u, h, hz, hs => by
   show ∃ l, F1386b (F1386 N) N u = some l ∧ F1393b (F1393 N) N u = some l ∧ _
   unfold F1386b F1393b
   cases h30 : u.op == 30 with
   | true => exact ⟨[], rfl, rfl, by simp, by simp⟩
   | false =>
     cases h33 : u.op == 33 with
     | false => exact ⟨[u], rfl, rfl, size_pos u, by simp⟩
     | true =>
       obtain ⟨a, b, rfl, _, _, ha, hb⟩ := fAnd hs (beq_iff_eq.1 h33)
       simp only [nd_size, List.map_cons, List.map_nil, List.sum_cons, List.sum_nil] at h hz ⊢
       obtain ⟨l, e1, e2, hl, hm⟩ := spine N a (by omega) (by omega) ha
       have hb1 := size_pos b
       have hf : fits (l.length + 1) 64 = true := by
         unfold fits
         exact decide_eq_true (by have : roomMax = 140737488355328 := rfl; omega)
       refine ⟨l ++ [b], ?_, ?_, by simp; omega, by simp; omega⟩
       · simp only [nd_kids, at2_0, at2_1, bindO_some, e1, hf, iteO_true, iteO_false]
       · simp only [nd_kids, at2_0, at2_1, bindO_some, e2, hf, iteO_true, iteO_false]
theorem eq1270 (N : Nat) (a b : Node) (h : a.size < N) : F1270 N a b = some (eqR a b) := by
 unfold F1270 eqR
 rw [sort36n N a h, bindO_some]
 cases sortS a == 2 <;> rfl
theorem alike_fold (K : Nat) (b : Node) (hb : b.size < K) : ∀ (ks : List Node) (M i : Nat), ks.length < M → i + ks.length = b.kids.length → (∀ x ∈ ks, x.size < K) →
   ∃ v, foldN (F1245_s1 K b) F1245_f1 M ks i () = some v ∧ foldN (F1256_s1 K b) F1256_f1 M ks i () = some v
 | _, 0, _, h, _, _ => absurd h (Nat.not_lt_zero _)
 | [], _ + 1, _, _, _, _ => ⟨true, rfl, rfl⟩
 | x :: xs, M + 1, i, h, hi, hx => by
   simp only [List.length_cons] at h hi
   obtain ⟨y, hy⟩ : ∃ y, b.kids[i]? = some y := ⟨_, List.getElem?_eq_getElem (by omega)⟩
   have hyz := kids_size (List.mem_of_getElem? hy)
   show ∃ v, bindO (F1245_s1 K b () i x) _ = some v ∧ bindO (F1256_s1 K b () i x) _ = some v
   unfold F1245_s1 F1256_s1
   simp only [sort36n K x (hx x (by simp)), sort28 K x (hx x (by simp)), sort36n K y (by omega), sort28 K y (by omega), atO_get hy, bindO_some]
   cases sortS x == sortS y with
   | false => exact ⟨false, rfl, rfl⟩
   | true => exact alike_fold K b hb xs M (i + 1) (by omega) (by omega) fun z hz => hx z (by simp [hz])
theorem alike (K : Nat) (a b : Node) (ha : a.size < K) (hb : b.size < K) : ∃ v, F1245 K a b = some v ∧ F1256 K a b = some v ∧ (v = true → a.kids.length = b.kids.length) := by
 unfold F1245 F1256
 have no : ∀ v : Bool, v = false → (v = true → a.kids.length = b.kids.length) := fun v h h' => by rw [h] at h'; cases h'
 cases a.op == 3 with
 | false => exact ⟨false, rfl, rfl, no _ rfl⟩
 | true =>
 cases b.op == 3 with
 | false => exact ⟨false, rfl, rfl, no _ rfl⟩
 | true =>
 cases a.name.toList == b.name.toList with
 | false => exact ⟨false, rfl, rfl, no _ rfl⟩
 | true =>
 cases a.sortf == b.sortf with
 | false => exact ⟨false, rfl, rfl, no _ rfl⟩
 | true =>
 cases hl : (a.kids.length : Int) == (b.kids.length : Int) with
 | false => exact ⟨false, rfl, rfl, no _ rfl⟩
 | true =>
   have hl := beq_iff_eq.1 hl
   cases (a.kids.length : Int) == 0 with
   | true => exact ⟨false, rfl, rfl, no _ rfl⟩
   | false =>
     have := kids_len a
     obtain ⟨v, e1, e2⟩ := alike_fold K b hb a.kids K 0 (by omega) (by omega) fun x hx => by have := kids_size hx; omega
     exact ⟨v, e1, e2, fun _ => by omega⟩
section
open Classical
theorem cong_fold (K : Nat) (b : Node) (hb : b.size < 1000) (r : List Node) (x5 : Node) (hK : 100000000 ≤ K) (hc : F53 K r = some (conjL r)) (h21 : F21 K (conjL r) x5 = some (decide (conjL r = x5)))
   (hr : ∀ x ∈ r, x.size ≤ 1000) (hrl : r.length ≤ 1000) : ∀ (ks : List Node) (M i p : Nat), ks.length < M → i + ks.length = b.kids.length → p ≤ r.length → (∀ x ∈ ks, x.size ≤ 1000) →
   ∃ v, foldN (F1228_s2 K b) F1228_f2 M ks i (r.drop p) = some v ∧ foldN (F1239_s2 K b r) (F1239_f2 K r x5) M ks i (p : Int) = some (v && decide (conjL r = x5))
 | _, 0, _, _, h, _, _, _ => absurd h (Nat.not_lt_zero _)
 | [], M + 1, i, p, _, _, hp, _ => by
   show ∃ v, F1228_f2 (r.drop p) = some v ∧ F1239_f2 K r x5 (p : Int) = some (v && decide (conjL r = x5))
   unfold F1228_f2 F1239_f2
   by_cases hpl : p = r.length
   · rw [show ((p : Int) == (r.length : Int)) = true from by rw [beq_iff_eq]; omega, show (((r.drop p).length : Int) == 0) = true from by rw [beq_iff_eq, List.length_drop]; omega]
     refine ⟨true, rfl, ?_⟩
     rw [iteO_true, hc, bindO_some, h21, bindO_some, Bool.true_and]
   · rw [show ((p : Int) == (r.length : Int)) = false from beq_eq_false_iff_ne.2 (by omega), show (((r.drop p).length : Int) == 0) = false from beq_eq_false_iff_ne.2 (by rw [List.length_drop]; omega)]
     exact ⟨false, rfl, rfl⟩
 | k :: ks, M + 1, i, p, h, hi, hp, hx => by
   simp only [List.length_cons] at h hi
   obtain ⟨y, hy⟩ : ∃ y, b.kids[i]? = some y := ⟨_, List.getElem?_eq_getElem (by omega)⟩
   have hyz := kids_size (List.mem_of_getElem? hy)
   have hk := hx k (by simp)
   have IH := fun p hp => cong_fold K b hb r x5 hK hc h21 hr hrl ks M (i + 1) p (by omega) (by omega) hp fun z hz => hx z (by simp [hz])
   show ∃ v, bindO (F1228_s2 K b (r.drop p) i k) _ = some v ∧ bindO (F1239_s2 K b r (p : Int) i k) _ = some (v && decide (conjL r = x5))
   unfold F1228_s2 F1239_s2
   simp only [atO_get hy, eq1270 K k y (by omega), eq1257 K k y (by omega), bindO_some, eq20 K k y (by omega), eq21 K k y (by omega) (by omega)]
   by_cases hpl : p < r.length
   · have hd : r.drop p = r[p] :: r.drop (p + 1) := List.drop_eq_getElem_cons hpl
     have hrz := hr r[p] (List.getElem_mem hpl)
     have hg : atO r (p : Int) = some r[p] := atO_get (List.getElem?_eq_getElem hpl)
     rw [hd, decide_eq_true (show ((r[p] :: r.drop (p + 1)).length : Int) > 0 from by simp only [List.length_cons]; omega), decide_eq_true (show (p : Int) < (r.length : Int) from by omega), iteO_true, iteO_true,
       show atO (r[p] :: r.drop (p + 1)) 0 = some r[p] from atO_lit (i := 0) rfl rfl, hg, bindO_some, bindO_some, eq20 K r[p] _ (by omega), eq21 K r[p] _ (by omega) (by omega), bindO_some, bindO_some, inS_1, cutL_1]
     by_cases he : r[p] = eqR k y
     · rw [decide_eq_true he]
       have := IH (p + 1) hpl
       rw [show IntKind.i64.wrap ((p : Int) + 1) = ((p + 1 : Nat) : Int) from by rw [wrap_id (by omega)]; rfl]
       exact this
     · rw [decide_eq_false he]
       by_cases hky : k = y
       · rw [decide_eq_true hky, ← hd]
         exact IH p hp
       · rw [decide_eq_false hky]
         exact ⟨false, rfl, rfl⟩
   · have hd : r.drop p = [] := List.drop_eq_nil_of_le (by omega)
     rw [hd, decide_eq_false (show ¬ ((([] : List Node).length : Int) > 0) from by simp), decide_eq_false (show ¬ (p : Int) < (r.length : Int) from by omega), iteO_false, iteO_false]
     by_cases hky : k = y
     · rw [decide_eq_true hky, ← hd]
       exact IH p hp
     · rw [decide_eq_false hky]
       exact ⟨false, rfl, rfl⟩
theorem cong (N : Nat) (n : Node) (hs : sortedR n = true) (hz : n.size ≤ 600) (hB : 100000000 ≤ N) : ∃ v, F1228 N n = some v ∧ F1239 N n = some v := by
 unfold F1228 F1239
 cases h35 : n.op == 35 with
 | false => exact ⟨false, rfl, rfl⟩
 | true =>
   obtain ⟨p, q, rfl, _, _, hp, hq⟩ := fImp hs (beq_iff_eq.1 h35)
   simp only [nd_size, List.map_cons, List.map_nil, List.sum_cons, List.sum_nil] at hz
   have key : ∀ a b : Node, a.size ≤ 600 → b.size ≤ 600 → ∃ v, (bindO (F1245 N a b) fun r21 =>
     iteO r21
     (bindO (F1386 N p) fun r23 =>
       bindO (F52 N r23) fun r24 =>
       bindO (F20 N r24 p) fun r25 =>
       iteO r25
       (foldN (S := List Node) (F1228_s2 N b) (F1228_f2) N a.kids 0 r23)
       (some false))
     (some false)) = some v ∧ (bindO (F1256 N a b) fun r20 =>
     iteO r20
     (bindO (F1393 N p) fun r22 =>
       foldN (S := Int) (F1239_s2 N b r22) (F1239_f2 N r22 p) N a.kids 0 0)
     (some false)) = some v := by
     intro a b ha hb
     obtain ⟨v, e1, e2, hv⟩ := alike N a b (by omega) (by omega)
     rw [e1, e2, bindO_some, bindO_some]
     cases v with
     | false => exact ⟨false, rfl, rfl⟩
     | true =>
       obtain ⟨l, e3, e4, hl, hm⟩ := spine N p (by omega) (by omega) hp
       have hx : ∀ x ∈ l, x.size ≤ 600 := fun x hx => by
         have : x.size ≤ (l.map Node.size).sum := mem_le_sum l x hx
         omega
       have hcz := conjL_size l
       have hak := kids_len a
       rw [iteO_true, iteO_true, e3, e4, bindO_some, bindO_some, conj52 N l (by omega) (fun x h => by have := hx x h; omega), bindO_some, eq20 N _ _ (by omega), bindO_some]
       obtain ⟨w, e5, e6⟩ := cong_fold N b (by omega) l p hB (conj53 N l (by omega) (fun x h => by have := hx x h; omega)) (eq21 N _ _ (by omega) (by omega)) (fun x h => by have := hx x h; omega) (by omega)
         a.kids N 0 0 (by omega) (by have := hv rfl; omega) (by omega) (fun x h => by have := kids_size h; omega)
       have e6 : foldN (S := Int) (F1239_s2 N b l) (F1239_f2 N l p) N a.kids 0 0 = some (w && decide (conjL l = p)) := e6
       rw [e6]
       rw [List.drop_zero] at e5
       rw [e5]
       cases decide (conjL l = p) with
       | false => exact ⟨false, rfl, by rw [Bool.and_false]⟩
       | true => exact ⟨w, rfl, by rw [Bool.and_true]⟩
   simp only [iteO_true, nd_kids, at2_0, at2_1, bindO_some]
   cases h37 : q.op == 37 with
   | true =>
     obtain ⟨a, b, rfl, _⟩ := formEq hq (beq_iff_eq.1 h37)
     simp only [nd_size, List.map_cons, List.map_nil, List.sum_cons, List.sum_nil] at hz
     simp only [iteO_true, nd_kids, at2_0, at2_1, bindO_some, kid_10 N _ (by omega : 10 ≤ N), kid_11 N _ (by omega : 10 ≤ N)]
     exact key a b (by omega) (by omega)
   | false =>
     cases h36 : q.op == 36 with
     | false => exact ⟨false, rfl, rfl⟩
     | true =>
       obtain ⟨a, b, rfl, _⟩ := fIff hq (beq_iff_eq.1 h36)
       simp only [nd_size, List.map_cons, List.map_nil, List.sum_cons, List.sum_nil] at hz
       simp only [iteO_true, iteO_false, nd_kids, at2_0, at2_1, bindO_some, kid_10 N _ (by omega : 10 ≤ N), kid_11 N _ (by omega : 10 ≤ N)]
       exact key a b (by omega) (by omega)
end
end Go.Abs.Try
namespace Go.Abs.Try
set_option maxRecDepth 100000
def hol (n : Node) : Bool := (nodes n).any fun x => x.op == 42
theorem hol42 (n : Node) (h : n.size < 4611686018427387904) : F42 n = some (hol n) := by
 unfold F42 hol
 rw [walk_ok n h, bindO_some, foldO_all (fun x : Node => !(x.op == 42)) true (nodes n) fun x _ => ?_]
 · show (bif (nodes n).all (fun x => !(x.op == 42)) then some false else some true) = _
   rw [← List.not_any_eq_all_not]
   cases (nodes n).any fun x => x.op == 42 <;> rfl
 · unfold F42_s1
   cases x.op == 42 <;> rfl
theorem hol43 : ∀ (N : Nat) (n : Node), n.size < N → F43 N n = some (hol n)
 | 0, n, h => absurd h (Nat.not_lt_zero _)
 | N + 1, n, h => by
   have hl := kids_len n
   have hk : ∀ x ∈ n.kids, F43 N x = some (hol x) := fun x hx => hol43 N x (by have := kids_size hx; omega)
   show F43b (F43 N) N n = _
   unfold F43b hol
   rw [nodes_eq, List.any_cons]
   have hL : foldN (F43_s1 (F43 N)) F43_f1 N n.kids 0 () = some (n.kids.any hol) := by
     rw [foldN_all (fun x => !(hol x)) true n.kids N 0 (by omega) fun x hx i => ?_]
     · show (bif n.kids.all (fun x => !hol x) then some false else some true) = _
       rw [← List.not_any_eq_all_not]
       cases n.kids.any hol <;> rfl
     · simp only [F43_s1, hk x hx, bindO_some]
       cases hol x <;> rfl
   have hN : (nodesL n.kids).any (fun x => x.op == 42) = n.kids.any hol := by
     have : ∀ ks : List Node, (nodesL ks).any (fun x => x.op == 42) = ks.any hol := by
       intro ks
       induction ks with
       | nil => rfl
       | cons a ks ih => simp only [nodesL, List.any_append, List.any_cons, ih, hol]
     exact this _
   rw [hL, hN]
   cases n.op == 42 <;> rfl
theorem check_sorted2 (N : Nat) (n : Node) (hN : 4611686018400000000 ≤ N ∧ N ≤ 4611686018427387904) (hb : n.size ≤ 1048576) (h : F15 N n 2 = some 0) : sortedR n = true := by
 obtain ⟨k, hk, _, _⟩ := levels39 N n (by omega) (by omega)
 have h27 := size27 N n (by omega) (by omega)
 have h72 := sorted72 N n (by omega)
 have h0 : decide ((2 : Int) < 0) = false := rfl
 have h5 : decide ((2 : Int) > 5) = false := rfl
 simp only [F15, h0, h5, iteO_false, hk, h27, h72, bindO_some] at h
 cases hs : sortedR n with
 | true => rfl
 | false =>
   rw [hs] at h
   cases hx : decide ((n.size : Int) > 4000) with
   | true => rw [hx] at h; simp only [iteO_true] at h; injection h with h; omega
   | false =>
     cases hy : decide (k > 100) with
     | true => rw [hx, hy] at h; simp only [iteO_true, iteO_false] at h; injection h with h; omega
     | false => rw [hx, hy] at h; simp only [iteO_true, iteO_false] at h; injection h with h; omega
section
open Classical
noncomputable def codeK (n : Node) : Int := if K2 n then 2 else if K3 n then 3 else if K4i n ∨ K4o n then 4 else if K5i n ∨ K5o n then 5 else if K6 n then 6 else if K7i n ∨ K7o n then 7 else if K8 n then 8 else 0
noncomputable def codeR (n : Node) (b : Int) : Int := if codeS n = 0 then (if b = 0 then (if codeA n = 0 then (if K8 n then 8 else 0) else codeA n) else b) else codeS n
variable (n : Node)
theorem K4o_op (h : K4o n) : n.op = 34 := by obtain ⟨_, _, _, rfl, _⟩ := h; rfl
theorem K5o_op (h : K5o n) : n.op = 34 := by obtain ⟨_, _, _, rfl, _⟩ := h; rfl
theorem K7o_op (h : K7o n) : n.op = 34 := by obtain ⟨_, _, _, rfl, _⟩ := h; rfl
theorem x45 (h : K4o n) : ¬ K5o n := by
 rintro ⟨a, b, w, e, _⟩
 obtain ⟨a', b', w', rfl, _⟩ := h
 simp only [part4, part5, nd_inj, lst2] at e
 exact absurd e.2.1.1 (by decide)
theorem x47 (h : K4o n) : ¬ K7o n := by
 rintro ⟨a, b, w, e, _⟩
 obtain ⟨a', b', w', rfl, _⟩ := h
 simp only [part4, diffN, nd_inj, lst2] at e
 exact absurd e.2.1.1 (by decide)
theorem x57 (h : K5o n) : ¬ K7o n := by
 rintro ⟨a, b, w, e, h5, _⟩
 obtain ⟨a', b', w', rfl, h4, _⟩ := h
 simp only [part5, diffN, nd_inj (k := 34) (k' := 34), nd_inj (k := 37) (k' := 37), lst2] at e
 rw [e.2.1.2.1, h5] at h4
 exact absurd h4 (by decide)
theorem x67 (hs : sortedR n = true) (h : K6 n) : ¬ K7o n := by
 rintro ⟨a, b, w, e, h5, _⟩
 obtain ⟨j, a', i, x, h⟩ := K6_34 n h (by rw [e]; rfl)
 have hq : sortedR (nd 37 [nd 14 [nd 15 [a', i, x], j], nd 14 [a', j]]) = true := kd (by rw [h] at hs; exact hs) (by simp)
 have hi := (sto_sorts (kd (kd hq (x := nd 14 [nd 15 [a', i, x], j]) (by simp)) (x := nd 15 [a', i, x]) (by simp))).2.1
 rw [h] at e
 simp only [sto1, diffN, nd_inj (k := 34) (k' := 34), nd_inj (k := 37) (k' := 37), lst2] at e
 rw [e.2.1.2.1, h5] at hi
 exact absurd hi (by decide)
noncomputable def codeB (n : Node) : Int := if K4o n then 4 else if K5o n then 5 else if K7o n then 7 else 0
theorem bs_code (r : Int × ByteArray) (h : BS n r) : r.1 = codeB n := by
 unfold codeB
 rcases h with ⟨a, b, w, e, hw, rfl⟩ | ⟨a, b, w, e, h4, hw, rfl⟩ | ⟨a, b, w, e, h5, hw, rfl⟩ | ⟨rfl, h1, h2, h3⟩
 · rw [if_pos ⟨a, b, w, e, hw⟩]
 · have k : K5o n := ⟨a, b, w, e, h4, hw⟩
   rw [if_neg (fun h => x45 n h k), if_pos k]
 · have k : K7o n := ⟨a, b, w, e, h5, hw⟩
   rw [if_neg (fun h => x47 n h k), if_neg (fun h => x57 n h k), if_pos k]
 · rw [if_neg h1, if_neg h2, if_neg h3]
theorem code_eq (hs : sortedR n = true) : codeK n = codeR n (codeB n) := by
 have d : ∀ {a b : Int}, a ≠ b → n.op = a → n.op = b → False := fun hab h1 h2 => hab (h1.symm.trans h2)
 unfold codeK codeR
 by_cases h2 : K2 n
 · have : codeS n = 2 := by unfold codeS; rw [if_pos h2]
   rw [if_pos h2, this]; rfl
 rw [if_neg h2]
 by_cases h3 : K3 n
 · have : codeS n = 3 := by unfold codeS; rw [if_neg h2, if_pos h3]
   rw [if_pos h3, this]; rfl
 rw [if_neg h3]
 by_cases h4i : K4i n
 · have : codeS n = 4 := by unfold codeS; rw [if_neg h2, if_neg h3, if_pos h4i]
   rw [if_pos (Or.inl h4i), this]; rfl
 by_cases h5i : K5i n
 · have : codeS n = 5 := by unfold codeS; rw [if_neg h2, if_neg h3, if_neg h4i, if_pos h5i]
   rw [if_neg (fun h : K4i n ∨ K4o n => h.elim h4i fun h => d (by decide) (K5i_op n h5i) (K4o_op n h)), if_pos (Or.inl h5i), this]; rfl
 have hS : codeS n = 0 := by unfold codeS; rw [if_neg h2, if_neg h3, if_neg h4i, if_neg h5i]
 rw [if_pos hS]
 by_cases h4o : K4o n
 · have : codeB n = 4 := by unfold codeB; rw [if_pos h4o]
   rw [if_pos (Or.inr h4o), this]; rfl
 rw [if_neg (fun h : K4i n ∨ K4o n => h.elim h4i h4o)]
 by_cases h5o : K5o n
 · have : codeB n = 5 := by unfold codeB; rw [if_neg h4o, if_pos h5o]
   rw [if_pos (Or.inr h5o), this]; rfl
 rw [if_neg (fun h : K5i n ∨ K5o n => h.elim h5i h5o)]
 by_cases h7o : K7o n
 · have : codeB n = 7 := by unfold codeB; rw [if_neg h4o, if_neg h5o, if_pos h7o]
   rw [if_neg (fun h => x67 n hs h h7o), if_pos (Or.inr h7o), this]; rfl
 have hB : codeB n = 0 := by unfold codeB; rw [if_neg h4o, if_neg h5o, if_neg h7o]
 rw [if_pos hB]
 by_cases h6 : K6 n
 · have : codeA n = 6 := by unfold codeA; rw [if_pos h6]
   rw [if_pos h6, this]; rfl
 rw [if_neg h6]
 by_cases h7i : K7i n
 · have : codeA n = 7 := by unfold codeA; rw [if_neg h6, if_pos h7i]
   rw [if_pos (Or.inl h7i), this]; rfl
 have hA : codeA n = 0 := by unfold codeA; rw [if_neg h6, if_neg h7i]
 rw [if_neg (fun h : K7i n ∨ K7o n => h.elim h7i h7o), if_pos hA]
variable (N : Nat)
theorem chain (hs : sortedR n = true) (hN : n.size ≤ 1048576) (hB : 100000000 ≤ N) :
   (bindO (F1229 N n) fun r3 =>
       iteO r3
       (some 2)
       (bindO (F1230 N n) fun r4 =>
         iteO r4
         (some 3)
         (bindO (F1231 N n) fun r5 =>
           iteO r5
           (some 4)
           (bindO (F1232 N n) fun r6 =>
             iteO r6
             (some 5)
             (bindO (F1233 N n) fun r7 =>
               iteO r7
               (some 6)
               (bindO (F1234 N n) fun r8 =>
                 iteO r8
                 (some 7)
                 (bindO (F1235 N n) fun r9 =>
                   iteO r9
                   (some 8)
                   (some (0 : Int))))))))) = some (codeK n) := by
 have e4 : F1231 N n = some (decide (K4i n ∨ K4o n)) := by unfold F1231; rw [rel4 N n hs hN hB]; rfl
 have e5 : F1232 N n = some (decide (K5i n ∨ K5o n)) := by unfold F1232; rw [rel5 N n hs hN hB]; rfl
 rw [p1229 N n hs hN hB, p1230 N n hs hN hB, e4, e5, p1233 N n hs hN hB, p1234 N n hs hN hB, p1235 N n hs hN hB]
 simp only [bindO_some]
 unfold codeK
 by_cases h2 : K2 n
 · rw [decide_eq_true h2, if_pos h2]; rfl
 rw [decide_eq_false h2, if_neg h2, iteO_false]
 by_cases h3 : K3 n
 · rw [decide_eq_true h3, if_pos h3]; rfl
 rw [decide_eq_false h3, if_neg h3, iteO_false]
 by_cases h4 : K4i n ∨ K4o n
 · rw [decide_eq_true h4, if_pos h4]; rfl
 rw [decide_eq_false h4, if_neg h4, iteO_false]
 by_cases h5 : K5i n ∨ K5o n
 · rw [decide_eq_true h5, if_pos h5]; rfl
 rw [decide_eq_false h5, if_neg h5, iteO_false]
 by_cases h6 : K6 n
 · rw [decide_eq_true h6, if_pos h6]; rfl
 rw [decide_eq_false h6, if_neg h6, iteO_false]
 by_cases h7 : K7i n ∨ K7o n
 · rw [decide_eq_true h7, if_pos h7]; rfl
 rw [decide_eq_false h7, if_neg h7, iteO_false]
 by_cases h8 : K8 n
 · rw [decide_eq_true h8, if_pos h8]; rfl
 rw [decide_eq_false h8, if_neg h8, iteO_false]
theorem chainR (hs : sortedR n = true) (hz : n.size ≤ 600) (hB : 100000000 ≤ N) (r : Int × ByteArray) (hr : F1238 N n = some r) (hbs : BS n r) :
   (bindO (F1240 N n) fun r4 =>
       iteO (r4 == 0)
       (bindO (F1238 N n) fun r5 =>
         iteO (r5.1 == 0)
         (bindO (F1241 N n) fun r6 =>
           iteO (r6 == 0)
           (bindO (F1242 N n) fun r7 =>
             iteO r7
             (some 8)
             (some 0))
           (some r6))
         (some r5.1))
       (some r4)) = some (codeK n) := by
 rw [code_eq n hs, p1240 N n hs hz hB, hr, p1241 N n hs hz hB, p1242 N n hs hz hB]
 simp only [bindO_some, bs_code n r hbs]
 unfold codeR
 by_cases h1 : codeS n = 0
 · rw [if_pos h1, beq_iff_eq.2 h1, iteO_true]
   by_cases h2 : codeB n = 0
   · rw [if_pos h2, beq_iff_eq.2 h2, iteO_true]
     by_cases h3 : codeA n = 0
     · rw [if_pos h3, beq_iff_eq.2 h3, iteO_true]
       by_cases h4 : K8 n
       · rw [if_pos h4, decide_eq_true h4]; rfl
       · rw [if_neg h4, decide_eq_false h4]; rfl
     · rw [if_neg h3, beq_eq_false_iff_ne.2 h3]; rfl
   · rw [if_neg h2, beq_eq_false_iff_ne.2 h2]; rfl
 · rw [if_neg h1, beq_eq_false_iff_ne.2 h1]; rfl
end
end Go.Abs.Try
namespace Go.Abs.Try
set_option maxRecDepth 100000
section
open Classical
variable (N : Nat) (n : Node)
def okN (N : Nat) (n : Node) : Prop := F15 N n 2 = some 0 ∧ hol n = false
theorem ok_or (hN : 4611686018400000000 ≤ N ∧ N ≤ 4611686018427387904) (hb : n.size ≤ 1048576) :
   (okN N n ∧ sortedR n = true ∧ F1226 N n = some true) ∨ (F1226 N n = some false ∧ F1218 N n = some (⟨#[]⟩, false) ∧ F1219 N n = some 0) := by
 obtain ⟨r, h14, h15⟩ := check_same N n 2 hN hb
 have h42 := hol42 n (by omega)
 have h43 := hol43 N n (by omega)
 unfold F1226 F1218 F1219
 rw [h14, h15, bindO_some, bindO_some, bindO_some]
 cases hr : r == 0 with
 | false => exact .inr ⟨rfl, rfl, rfl⟩
 | true =>
   have hr := beq_iff_eq.1 hr
   rw [h42, h43]
   cases hh : hol n with
   | true => exact .inr ⟨rfl, rfl, rfl⟩
   | false => exact .inl ⟨⟨by rw [h15, hr], hh⟩, check_sorted2 N n hN hb (by rw [h15, hr]), rfl⟩
theorem kinds (hN : 4611686018400000000 ≤ N ∧ N ≤ 4611686018427387904) (hz : n.size ≤ 600) :
   ∃ k w w', F1216 N n = some k ∧ F1219 N n = some k ∧ F1217 N n = some w ∧ F1218 N n = some w' ∧ w.2 = w'.2 ∧ (w.2 = true → w.1 = w'.1) := by
 have h10 : decide (10 ≤ N) = true := decide_eq_true (by omega)
 rcases ok_or N n hN (by omega) with ⟨⟨hc, hh⟩, hs, h26⟩ | ⟨h26, h18, h19⟩
 · obtain ⟨v, hv, hv'⟩ := cong N n hs hz (by omega)
   obtain ⟨r, hr, hbs⟩ := p1238 N n hs hz (by omega)
   have k1 : F1216 N n = some (bif v then 1 else codeK n) := by
     unfold F1216
     rw [h10, iteO_true, h26, bindO_some, iteO_true, hv, bindO_some]
     cases v with
     | true => rfl
     | false => rw [iteO_false]; exact chain n N hs (by omega) (by omega)
   have k2 : F1219 N n = some (bif v then 1 else codeK n) := by
     unfold F1219
     rw [hc, bindO_some, show ((0 : Int) == 0) = true from rfl, iteO_true, hol43 N n (by omega), hh, bindO_some, iteO_false, hv', bindO_some]
     cases v with
     | true => rfl
     | false => rw [iteO_false]; exact chainR n N hs hz (by omega) r hr hbs
   have w2 : F1218 N n = some (r.2, !(r.1 == 0)) := by
     unfold F1218
     rw [hc, bindO_some, show ((0 : Int) == 0) = true from rfl, iteO_true, hol43 N n (by omega), hh, bindO_some, iteO_false, hr, bindO_some]
   have vf : n.op = 34 → v = false := by
     intro h
     have : F1228 N n = some false := by unfold F1228; rw [show (n.op == 35) = false from by rw [h]; rfl]; rfl
     rw [hv] at this; injection this
   have n2 : n.op = 34 → ¬ K2 n := fun h k => by rcases K2_op n k with k | k <;> (rw [h] at k; cases k)
   have n3 : n.op = 34 → ¬ K3 n := fun h k => by have := K3_op n k; rw [h] at this; cases this
   have n4 : n.op = 34 → ¬ K4i n := fun h k => by have := K4i_op n k; rw [h] at this; cases this
   have n5 : n.op = 34 → ¬ K5i n := fun h k => by have := K5i_op n k; rw [h] at this; cases this
   have n7 : n.op = 34 → ¬ K7i n := fun h k => by have := K7i_op n k; rw [h] at this; cases this
   obtain ⟨M, rfl⟩ : ∃ M, N = M + 3 := ⟨N - 3, by omega⟩
   refine ⟨bif v then 1 else codeK n, ?_⟩
   rcases hbs with ⟨a, b, w, e, hw, rfl⟩ | ⟨a, b, w, e, h4, hw, rfl⟩ | ⟨a, b, w, e, h5, hw, rfl⟩ | ⟨rfl, b1, b2, b3⟩
   · have k : K4o n := ⟨a, b, w, e, hw⟩
     have ho := K4o_op n k
     have hk : codeK n = 4 := by unfold codeK; rw [if_neg (n2 ho), if_neg (n3 ho), if_pos (Or.inr k)]
     refine ⟨(w.name, true), (w.name, true), k1, k2, ?_, w2, rfl, fun _ => rfl⟩
     unfold F1217
     rw [k1, vf ho, hk, bindO_some, show (n.op == 34) = true from beq_iff_eq.2 ho, e]
     show (bindO (atO (part4 a b w).kids 1) fun x7 => bindO (F1237 (M + 3) x7) fun r8 => some (r8.1.name, true)) = _
     rw [show atO (part4 a b w).kids 1 = some (nd 33 [nd 40 [w, a], nd 32 [nd 40 [w, b]]]) from rfl, bindO_some, first2 (M + 1) 33 w a _ rfl]; rfl
   · have k : K5o n := ⟨a, b, w, e, h4, hw⟩
     have ho := K5o_op n k
     have hk : codeK n = 5 := by unfold codeK; rw [if_neg (n2 ho), if_neg (n3 ho), if_neg (fun h : K4i n ∨ K4o n => h.elim (n4 ho) fun h => x45 n h k), if_pos (Or.inr k)]
     refine ⟨(w.name, true), (w.name, true), k1, k2, ?_, w2, rfl, fun _ => rfl⟩
     unfold F1217
     rw [k1, vf ho, hk, bindO_some, show (n.op == 34) = true from beq_iff_eq.2 ho, e]
     show (bindO (atO (part5 a b w).kids 1) fun x7 => bindO (F1237 (M + 3) x7) fun r8 => some (r8.1.name, true)) = _
     rw [show atO (part5 a b w).kids 1 = some (nd 32 [nd 36 [nd 40 [w, a], nd 40 [w, b]]]) from rfl, bindO_some, first3 M 36 w a _ rfl]; rfl
   · have k : K7o n := ⟨a, b, w, e, h5, hw⟩
     have ho := K7o_op n k
     have hk : codeK n = 7 := by
       unfold codeK
       rw [if_neg (n2 ho), if_neg (n3 ho), if_neg (fun h : K4i n ∨ K4o n => h.elim (n4 ho) fun h => x47 n h k), if_neg (fun h : K5i n ∨ K5o n => h.elim (n5 ho) fun h => x57 n h k), if_neg (fun h => x67 n hs h k), if_pos (Or.inr k)]
     refine ⟨(w.name, true), (w.name, true), k1, k2, ?_, w2, rfl, fun _ => rfl⟩
     unfold F1217
     rw [k1, vf ho, hk, bindO_some, show (n.op == 34) = true from beq_iff_eq.2 ho, e]
     show (bindO (F1236 (diffN a b w)) fun r6 => some (r6.1.name, true)) = _
     rw [idx_diff]; rfl
   · refine ⟨(⟨#[]⟩, false), (⟨#[]⟩, false), k1, k2, ?_, w2, rfl, fun h => by cases h⟩
     unfold F1217
     rw [k1, bindO_some]
     cases ho : n.op == 34 with
     | false => rfl
     | true =>
       have ho := beq_iff_eq.1 ho
       rw [vf ho]
       have hk : codeK n = if K6 n then 6 else if K8 n then 8 else 0 := by
         unfold codeK
         rw [if_neg (n2 ho), if_neg (n3 ho), if_neg (fun h : K4i n ∨ K4o n => h.elim (n4 ho) b1), if_neg (fun h : K5i n ∨ K5o n => h.elim (n5 ho) b2), if_neg (fun h : K7i n ∨ K7o n => h.elim (n7 ho) b3)]
       rw [hk]
       by_cases h6 : K6 n
       · rw [if_pos h6]; rfl
       · rw [if_neg h6]
         by_cases h8 : K8 n
         · rw [if_pos h8]; rfl
         · rw [if_neg h8]; rfl
 · have k1 : F1216 N n = some 0 := by
     unfold F1216
     rw [h10, iteO_true, h26, bindO_some, iteO_false]
   refine ⟨0, (⟨#[]⟩, false), (⟨#[]⟩, false), k1, h19, ?_, h18, rfl, fun h => by cases h⟩
   unfold F1217
   rw [k1, bindO_some]
   cases n.op == 34 <;> rfl
end
theorem awake1213 (M : Nat) : F1213 (M + 30) = some true := by kernel_rfl
def big : Nat := 4611686018427387904
theorem lawLk (n : Node) (hb : n.size ≤ 1048576) : F1210 4611686018427387904 n = some true := by
 obtain ⟨N, hNe⟩ : ∃ N : Nat, N = 4611686018427387904 := ⟨_, rfl⟩
 have ha : F1213 N = some true := by rw [hNe]; exact awake1213 4611686018427387874
 have hN : 4611686018400000000 ≤ N ∧ N ≤ 4611686018427387904 := by omega
 rw [← hNe]
 unfold F1210
 rw [ha, bindO_some, iteO_true, size27 N n (by omega) (by omega), bindO_some]
 by_cases hz : n.size ≤ 600
 · rw [decide_eq_false (by omega : ¬ (n.size : Int) > 600), iteO_false]
   obtain ⟨k, w, w', k1, k2, w1, w2, e1, e2⟩ := kinds N n hN hz
   rw [w1, w2, k1, k2]
   simp only [bindO_some]
   rw [beq_self_eq_true, iteO_true, e1, beq_self_eq_true, iteO_true]
   cases hw : w'.2 with
   | false => rfl
   | true =>
     rw [iteO_true, e2 (by rw [e1, hw]), beq_self_eq_true]
 · rw [decide_eq_true (by omega : (n.size : Int) > 600)]; rfl
end Go.Abs.Try
