import Derived.Test.YthgibjeclmkbpaaDMs4toDMs8
set_option linter.unusedSimpArgs false
set_option linter.unusedVariables false
namespace Go.Abs.Try
set_option maxRecDepth 100000
structure VV (v : Val) : Prop where
 srt : 1 ≤ v.valSort ∧ v.valSort ≤ 5
 num : fitsG v.valNum = true
 set : asc v.valSet ∧ (∀ t ∈ v.valSet, fitsG t = true) ∧ v.valSet.length ≤ 200
 at' : asc v.valAt ∧ (∀ t ∈ v.valAt, fitsG t = true) ∧ v.valAt.length ≤ 200
 to : v.valTo.length = v.valAt.length ∧ ∀ t ∈ v.valTo, t ≠ 0 ∧ fitsG t = true
 bool : v.valSort = 2 → v.valNum = 0 ∨ v.valNum = 1
 arr : v.valSort = 5 → 0 ≤ v.valNum
 st : v.valSort = 4 → v.valNum = 0
 ns : v.valSort ≠ 4 → v.valSet = []
 na : v.valSort ≠ 5 → v.valAt = []
theorem VV.ok {v : Val} (h : VV v) : VOk v := ⟨fitsG_iff.1 h.num, h.set.2.2, h.at'.2.2, h.to.1⟩
theorem VV.ar {v : Val} (h : VV v) (h5 : v.valSort = 5) : Arr v := ⟨h.ns (by rw [h5]; decide), h.at'.1, h.to.1, fun t ht => (h.to.2 t ht).1, fun t ht => (h.to.2 t ht).2⟩
theorem vv_numV {x : Int} (h : fitsG x = true) : VV (numV x) :=
 ⟨⟨(by decide : (1 : Int) ≤ 1), (by decide : (1 : Int) ≤ 5)⟩, h, ⟨.nil, fun _ h => (by cases h), Nat.zero_le _⟩, ⟨.nil, fun _ h => (by cases h), Nat.zero_le _⟩, ⟨rfl, fun _ h => (by cases h)⟩, fun h => absurd (show (1 : Int) = 2 from h) (by decide), fun h => absurd (show (1 : Int) = 5 from h) (by decide), fun h => absurd (show (1 : Int) = 4 from h) (by decide), fun _ => rfl, fun _ => rfl⟩
theorem vv_truthV (b : Bool) : VV (truthV b) :=
 ⟨⟨(by decide : (1 : Int) ≤ 2), (by decide : (2 : Int) ≤ 5)⟩, by cases b <;> decide, ⟨.nil, fun _ h => (by cases h), Nat.zero_le _⟩, ⟨.nil, fun _ h => (by cases h), Nat.zero_le _⟩, ⟨rfl, fun _ h => (by cases h)⟩, fun _ => (by cases b; exact .inl rfl; exact .inr rfl), fun h => absurd (show (2 : Int) = 5 from h) (by decide), fun h => absurd (show (2 : Int) = 4 from h) (by decide), fun _ => rfl, fun _ => rfl⟩
theorem vv_set {l : List Int} (h1 : asc l) (h2 : ∀ t ∈ l, fitsG t = true) (h3 : l.length ≤ 200) : VV ⟨4, 0, l, [], []⟩ :=
 ⟨⟨(by decide : (1 : Int) ≤ 4), (by decide : (4 : Int) ≤ 5)⟩, by show fitsG 0 = true; decide, ⟨h1, h2, h3⟩, ⟨.nil, fun _ h => (by cases h), Nat.zero_le _⟩, ⟨rfl, fun _ h => (by cases h)⟩, fun h => absurd (show (4 : Int) = 2 from h) (by decide), fun h => absurd (show (4 : Int) = 5 from h) (by decide), fun _ => rfl, fun h => absurd rfl h, fun _ => rfl⟩
theorem vv_def {s : Int} (h : 1 ≤ s ∧ s ≤ 5) : VV ⟨s, 0, [], [], []⟩ :=
 ⟨h, by show fitsG 0 = true; decide, ⟨.nil, fun _ h => (by cases h), Nat.zero_le _⟩, ⟨.nil, fun _ h => (by cases h), Nat.zero_le _⟩, ⟨rfl, fun _ h => (by cases h)⟩, fun _ => .inl rfl, fun _ => Int.le_refl 0, fun _ => rfl, fun _ => rfl, fun _ => rfl⟩
theorem vv_stored {v : Val} (h : VV v) (h5 : v.valSort = 5) {i x : Int} (hi : fitsG i = true) (hx : fitsG x = true) (hl : (storedV v i x).valAt.length ≤ 200) : VV (storedV v i x) := by
 have ha := (stored_vg (h.ar h5) i x hx).2.2 rfl
 refine ⟨⟨(by decide : (1 : Int) ≤ 5), (by decide : (5 : Int) ≤ 5)⟩, h.num, ⟨.nil, fun _ h => (by cases h), Nat.zero_le _⟩, ⟨ha.ord, fun t ht => ?_, hl⟩, ⟨ha.len, fun t ht => ⟨ha.nz t ht, ha.fit t ht⟩⟩, fun h => absurd (show (5 : Int) = 2 from h) (by decide), fun _ => h.arr h5, fun h => absurd (show (5 : Int) = 4 from h) (by decide), fun _ => rfl, fun h => absurd rfl h⟩
 have ht : t ∈ insU v.valAt i := (storeL_sub v i x (insU v.valAt i)).1.subset ht
 rcases insU_mem.1 ht with ht | rfl
 · exact h.at'.2.1 t ht
 · exact hi
theorem look_vv (nm : ByteArray) (args : List Val) (s : Int) (hs : 1 ≤ s ∧ s ≤ 5) : ∀ m : List Entry, (∀ e ∈ m, VV e.entryVal) → VV (lookR nm args s m) ∧ (lookR nm args s m).valSort = s
 | [], _ => ⟨vv_def hs, rfl⟩
 | x :: m, h => by
   rw [lookR]
   cases hc : (x.entryName.toList == nm.toList) && ((x.entryVal.valSort == s) && sameVs x.entryArgs args) with
   | true =>
     rw [Bool.and_eq_true, Bool.and_eq_true] at hc
     exact ⟨h x (by simp), beq_iff_eq.1 hc.2.1⟩
   | false => exact look_vv nm args s hs m fun e he => h e (by simp [he])
theorem comb_fit (op : Int) {a b : List Int} (h1 : ∀ t ∈ a, fitsG t = true) (h2 : ∀ t ∈ b, fitsG t = true) : ∀ t ∈ combL op a b, fitsG t = true := by
 intro t ht
 unfold combL at ht
 cases hop : op == 11 with
 | true =>
   rw [hop, cond_true, fold_insU_mem] at ht
   exact ht.elim (fun h => h1 t (List.mem_filter.1 h).1) (h2 t)
 | false =>
   rw [hop, cond_false] at ht
   exact h1 t (List.mem_filter.1 ht).1
theorem op_truth {n : Node} (h : sortedR n = true) (h1 : n.op ≠ 1) (h2 : n.op ≠ 2) (h3 : n.op ≠ 3) (h4 : n.op ≠ 4) (h5 : n.op ≠ 5) (h6 : n.op ≠ 6) (h7 : n.op ≠ 7) (h8 : n.op ≠ 8) (h9 : n.op ≠ 9) (h10 : n.op ≠ 10) (h11 : n.op ≠ 11) (h12 : n.op ≠ 12) (h13 : n.op ≠ 13) (h14 : n.op ≠ 14) (h15 : n.op ≠ 15) (h16 : n.op ≠ 16) :
   30 ≤ n.op ∧ n.op ≤ 42 := by
 apply Classical.byContradiction
 intro hc
 rw [sortedR_eq, Bool.and_eq_true, nodeB, Bool.and_eq_true] at h
 have hs := h.1.2
 have e : ∀ k : Int, n.op ≠ k → (n.op == k) = false := fun k hk => beq_eq_false_iff_ne.2 hk
 have hF : F153 n.op = some ([], false) := by
   simp only [F153, iteO_false, e 1 h1, e 2 h2, e 4 h4, e 5 h5, e 6 h6, e 7 h7, e 9 h9, e 10 h10, e 11 h11, e 12 h12, e 13 h13, e 14 h14, e 15 h15, e 16 h16, e 30 (by omega), e 31 (by omega), e 32 (by omega), e 33 (by omega), e 34 (by omega), e 35 (by omega), e 36 (by omega), e 38 (by omega), e 39 (by omega), e 40 (by omega), e 41 (by omega)]
 simp only [shapeB, hF, Option.getD_some, cond_false, shapeT, e 8 h8, e 37 (by omega), e 3 h3, e 42 (by omega)] at hs
 cases hs
theorem eval_ap (m : List Entry) (n : Node) (h : (evalR m n).2 = true) (h13 : ((n.op == 1) || (n.op == 3)) = false) : evalR m n = applyR n.op n.num ((n.kids.map (evalR m)).map (·.1)) := by
 rw [evalR_eq] at h ⊢
 cases hall : (n.kids.map (evalR m)).all (·.2) with
 | false => rw [hall] at h; cases h
 | true => rw [cond_true, h13, cond_false]
theorem eval_vv (m : List Entry) (hm : ∀ e ∈ m, VV e.entryVal) : ∀ (P : Nat) (n : Node), n.size < P → sortedR n = true → (evalR m n).2 = true → VV (evalR m n).1 ∧ (evalR m n).1.valSort = sortS n
 | 0, _, h, _, _ => absurd h (Nat.not_lt_zero _)
 | P + 1, n, h, hs, he => by
   have hk := ev_kids he
   have ih : ∀ k ∈ n.kids, VV (evalR m k).1 ∧ (evalR m k).1.valSort = sortS k := fun k hk' => eval_vv m hm P k (by have := kids_size hk'; omega) (sorted_kid hs hk') (hk k hk')
   by_cases h8 : n.op = 8
   · obtain ⟨c, a, b, rfl, _, hab, _, _, ha, hb⟩ := formIte hs h8
     have e : (evalR m (nd 8 [c, a, b])).1 = bif (evalR m c).1.valNum == 1 then (evalR m a).1 else (evalR m b).1 := by
       rw [show evalR m (nd 8 [c, a, b]) = _ from ev_nd rfl hk]; rfl
     rw [sortS_ite, e]
     cases (evalR m c).1.valNum == 1 with
     | true => exact ih a (by simp [nd_kids])
     | false => rw [cond_false, hab]; exact ih b (by simp [nd_kids])
   have hsc : sortS n = sortC n.op n.sortf := by rw [sortS_eq, if_neg h8]
   have look : n.op = 1 ∨ n.op = 3 → VV (evalR m n).1 ∧ (evalR m n).1.valSort = sortS n := by
     intro h13
     rw [ev_look (by rcases h13 with h | h <;> rw [h] <;> rfl) hk]
     have e : sortS n = n.sortf := by rw [hsc]; rcases h13 with h | h <;> rw [h] <;> rfl
     rw [e]
     rw [sortedR_eq, Bool.and_eq_true, nodeB, Bool.and_eq_true] at hs
     exact look_vv _ _ _ (own_sort n hs.1.1 h13) m hm
   by_cases h1 : n.op = 1
   · exact look (.inl h1)
   by_cases h3 : n.op = 3
   · exact look (.inr h3)
   have e : ∀ k : Int, n.op ≠ k → (n.op == k) = false := fun k hk => beq_eq_false_iff_ne.2 hk
   have ev := eval_ap m n he (by rw [e 1 h1, e 3 h3]; rfl)
   rw [ev] at he ⊢
   have numc : ∀ x : Int, fitsG x = true → sortC n.op n.sortf = 1 → VV (numV x) ∧ (numV x).valSort = sortS n := fun x hx hc => ⟨vv_numV hx, by rw [hsc, hc]; rfl⟩
   have two : ∀ (k : Int), (k = 11 ∨ k = 12 ∨ k = 13) → n.op = k → (∃ a b, n = nd k [a, b] ∧ sortS a = 4 ∧ sortS b = 4 ∧ sortedR a = true ∧ sortedR b = true) → VV (applyR n.op n.num ((n.kids.map (evalR m)).map (·.1))).1 ∧ (applyR n.op n.num ((n.kids.map (evalR m)).map (·.1))).1.valSort = sortS n := by
     intro k hk3 ho ⟨a, b, en, sa, sb, ha, hb⟩
     have va := (ih a (by rw [en]; simp [nd_kids])).1
     have vb := (ih b (by rw [en]; simp [nd_kids])).1
     have g0 : gV ((n.kids.map (evalR m)).map (·.1)) 0 = (evalR m a).1 := by rw [en]; rfl
     have g1 : gV ((n.kids.map (evalR m)).map (·.1)) 1 = (evalR m b).1 := by rw [en]; rfl
     have hap : applyR n.op n.num ((n.kids.map (evalR m)).map (·.1)) = (⟨4, 0, combL k (evalR m a).1.valSet (evalR m b).1.valSet, [], []⟩, decide (((combL k (evalR m a).1.valSet (evalR m b).1.valSet).length : Int) ≤ 200)) := by
       rw [ho, ← g0, ← g1]
       rcases hk3 with rfl | rfl | rfl <;> rfl
     rw [hap] at he ⊢
     have hl := of_decide_eq_true he
     refine ⟨vv_set (combL_asc _ _ va.set.1) (comb_fit _ va.set.2.1 vb.set.2.1) (by omega), ?_⟩
     rw [hsc, ho]
     rcases hk3 with rfl | rfl | rfl <;> rfl
   by_cases h2 : n.op = 2
   · rw [h2] at he ⊢; exact numc _ he (by rw [h2]; rfl)
   by_cases h4 : n.op = 4
   · rw [h4] at he ⊢; exact numc _ he (by rw [h4]; rfl)
   by_cases h5 : n.op = 5
   · rw [h5] at he ⊢; exact numc _ he (by rw [h5]; rfl)
   by_cases h6 : n.op = 6
   · rw [h6] at he ⊢; exact numc _ he (by rw [h6]; rfl)
   by_cases h7 : n.op = 7
   · obtain ⟨a, en, sa, ha⟩ : ∃ a, n.kids = [a] ∧ sortS a = 1 ∧ sortedR a = true := by
       have hf := hs
       rw [sortedR_eq, Bool.and_eq_true, nodeB, Bool.and_eq_true, h7] at hf
       have hq : n.kids.map sortS = [1] := by
         have := hf.1.2
         have hF : shapeB 7 (n.kids.map sortS) = ((n.kids.map sortS) == [1]) := rfl
         rw [hF] at this
         exact beq_iff_eq.1 this
       obtain ⟨a, l, en⟩ : ∃ a l, n.kids = a :: l := by
         cases hkk : n.kids with
         | nil => rw [hkk] at hq; cases hq
         | cons a l => exact ⟨a, l, rfl⟩
       rw [en] at hq
       simp only [List.map_cons, List.cons.injEq, List.map_eq_nil_iff] at hq
       rw [hq.2] at en
       exact ⟨a, en, hq.1, sorted_kid hs (by rw [en]; simp)⟩
     have va := (ih a (by rw [en]; simp)).1
     have g0 : gV ((n.kids.map (evalR m)).map (·.1)) 0 = (evalR m a).1 := by rw [en]; rfl
     have hc := own_num n (by rw [sortedR_eq, Bool.and_eq_true, nodeB, Bool.and_eq_true] at hs; exact hs.1.1) (.inr h7)
     have hap : applyR n.op n.num ((n.kids.map (evalR m)).map (·.1)) = scaledR n.num (evalR m a).1.valNum := by rw [h7, ← g0]; rfl
     rw [hap] at he ⊢
     obtain ⟨_, s2, s3⟩ := scaled174 n.num (evalR m a).1.valNum hc (fitsG_iff.1 va.num)
     rw [s3 he]
     rw [s2] at he
     exact numc _ he (by rw [h7]; rfl)
   by_cases h9 : n.op = 9
   · rw [h9] at he ⊢
     exact ⟨vv_set .nil (fun _ h => by cases h) (Nat.zero_le _), by rw [hsc, h9]; rfl⟩
   by_cases h10 : n.op = 10
   · obtain ⟨a, en, sa, ha⟩ := fSing hs h10
     have va := (ih a (by rw [en]; simp [nd_kids])).1
     have g0 : gV ((n.kids.map (evalR m)).map (·.1)) 0 = (evalR m a).1 := by rw [en]; rfl
     have hap : applyR n.op n.num ((n.kids.map (evalR m)).map (·.1)) = (⟨4, 0, [(evalR m a).1.valNum], [], []⟩, true) := by rw [h10, ← g0]; rfl
     rw [hap]
     exact ⟨vv_set (List.pairwise_singleton _ _) (fun t ht => by rw [List.mem_singleton.1 ht]; exact va.num) (by simp), by rw [hsc, h10]; rfl⟩
   by_cases h11 : n.op = 11
   · obtain ⟨a, b, r⟩ := fCup hs h11; exact two 11 (.inl rfl) h11 ⟨a, b, r⟩
   by_cases h12 : n.op = 12
   · obtain ⟨a, b, r⟩ := fCap hs h12; exact two 12 (.inr (.inl rfl)) h12 ⟨a, b, r⟩
   by_cases h13 : n.op = 13
   · obtain ⟨a, b, r⟩ := fMinus hs h13; exact two 13 (.inr (.inr rfl)) h13 ⟨a, b, r⟩
   by_cases h14 : n.op = 14
   · rw [h14] at he ⊢; exact numc _ he (by rw [h14]; rfl)
   by_cases h15 : n.op = 15
   · obtain ⟨a, i, x, en, sa, si, sx, ha, _, hx⟩ := fSto hs h15
     have va := ih a (by rw [en]; simp [nd_kids])
     have vi := (ih i (by rw [en]; simp [nd_kids])).1
     have vx := (ih x (by rw [en]; simp [nd_kids])).1
     have g0 : gV ((n.kids.map (evalR m)).map (·.1)) 0 = (evalR m a).1 := by rw [en]; rfl
     have g1 : gV ((n.kids.map (evalR m)).map (·.1)) 1 = (evalR m i).1 := by rw [en]; rfl
     have g2 : gV ((n.kids.map (evalR m)).map (·.1)) 2 = (evalR m x).1 := by rw [en]; rfl
     have hap : applyR n.op n.num ((n.kids.map (evalR m)).map (·.1)) = (storedV (evalR m a).1 (evalR m i).1.valNum (evalR m x).1.valNum, decide (((storedV (evalR m a).1 (evalR m i).1.valNum (evalR m x).1.valNum).valAt.length : Int) ≤ 200)) := by rw [h15, ← g0, ← g1, ← g2]; rfl
     rw [hap] at he ⊢
     have hl := of_decide_eq_true he
     exact ⟨vv_stored va.1 (va.2.trans sa) vi.num vx.num (by omega), by rw [hsc, h15]; rfl⟩
   by_cases h16 : n.op = 16
   · rw [h16] at he ⊢; exact numc _ he (by rw [h16]; rfl)
   have ht := op_truth hs h1 h2 h3 h4 h5 h6 h7 h8 h9 h10 h11 h12 h13 h14 h15 h16
   have hap : applyR n.op n.num ((n.kids.map (evalR m)).map (·.1)) = (truthV (decB n.op ((n.kids.map (evalR m)).map (·.1))), true) := by
     simp only [applyR, e 2 h2, e 4 h4, e 5 h5, e 6 h6, e 7 h7, e 8 h8, e 9 h9, e 10 h10, e 11 h11, e 12 h12, e 13 h13, e 14 h14, e 15 h15, e 16 h16, cond_false, Bool.or_self]
   rw [hap]
   refine ⟨vv_truthV _, ?_⟩
   rw [hsc]
   unfold sortC
   rw [if_neg h1, if_neg h3, if_neg h2, if_neg h4, if_neg h5, if_neg h6, if_neg h7, if_neg h14, if_neg h16, if_neg h9, if_neg h10, if_neg h11, if_neg h12, if_neg h13, if_neg h15, if_pos ht.1, if_pos ht.2]
   rfl
end Go.Abs.Try
