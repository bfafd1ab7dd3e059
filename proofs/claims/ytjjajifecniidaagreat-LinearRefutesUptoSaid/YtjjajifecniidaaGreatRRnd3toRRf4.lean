import Derived.Test.YtjjajifecniidaaGreatRPSumtoRStp5
set_option linter.unusedSimpArgs false
set_option linter.unusedVariables false
namespace Go.Abs.Try
set_option maxRecDepth 100000
theorem gcd_dvd : ∀ (l : List Mono) (s : Nat), l.foldl (fun g m => Nat.gcd g m.monoCoef.natAbs) s ∣ s ∧ ∀ m ∈ l, l.foldl (fun g m => Nat.gcd g m.monoCoef.natAbs) s ∣ m.monoCoef.natAbs
 | [], s => ⟨Nat.dvd_refl _, by simp⟩
 | x :: xs, s => by
   obtain ⟨h1, h2⟩ := gcd_dvd xs (Nat.gcd s x.monoCoef.natAbs)
   rw [List.foldl_cons]
   refine ⟨Nat.dvd_trans h1 (Nat.gcd_dvd_left _ _), fun m hm => ?_⟩
   rcases List.mem_cons.1 hm with rfl | hm
   · exact Nat.dvd_trans h1 (Nat.gcd_dvd_right _ _)
   · exact h2 m hm
theorem div_ne (a d : Int) (ha : a ≠ 0) (h : d.natAbs ∣ a.natAbs) : a.tdiv d ≠ 0 := by
 intro e
 have h1 : d ∣ a := Int.natAbs_dvd_natAbs.1 h
 have h2 := Int.tdiv_mul_cancel h1
 rw [e] at h2
 omega
theorem validL_div (d : Int) : ∀ (l : List Mono) (p : Option Node), validL p l = true → (∀ m ∈ l, m.monoCoef.tdiv d ≠ 0) → validL p (divM d l) = true
 | [], _, _, _ => rfl
 | m :: ms, p, h, hl => by
   simp only [validL, Bool.and_eq_true, Bool.not_eq_true', beq_eq_false_iff_ne] at h
   have ih := validL_div d ms (some m.monoAtom) h.2.2.2.2 fun k hk => hl k (by simp [hk])
   simp only [divM, List.map_cons, validL, Bool.and_eq_true, Bool.not_eq_true', beq_eq_false_iff_ne]
   exact ⟨hl m (by simp), fits_div h.2.1, h.2.2.1, h.2.2.2.1, ih⟩
theorem floor_fits (a b : Int) (ha : fitsC a = true) (hb : 0 < b) : fitsC (-floorI a b) = true := by
 have hf := (fitsC_iff _).1 ha
 have h1 := Int.natAbs_tdiv_le_natAbs a b
 have h2 := Int.mul_tdiv_add_tmod a b
 rw [fitsC_iff]
 unfold floorI
 by_cases hm : a.tmod b < 0
 · rw [if_pos hm]
   by_cases hq : a.tdiv b = -9007199254740992
   · rw [hq] at h2; omega
   · omega
 · rw [if_neg hm]; omega
theorem gcdI_nat (c : Con) : (gcdI c).natAbs = gcdN c.conForm.linMonos := by unfold gcdI; omega
theorem byR_nat (c : Con) : (byR c).natAbs = gcdN c.conForm.linMonos := by
 unfold byR gcdI; cases firstNeg c.conForm.linMonos <;> simp only [cond_true, cond_false] <;> omega
theorem good_div (d : Int) (l : List Mono) (k k' : Int) (h : Good ⟨l, k⟩) : Good ⟨divM d l, k'⟩ := by
 refine ⟨by simpa [divM] using h.1, fun m hm => ?_⟩
 obtain ⟨x, hx, rfl⟩ := List.mem_map.1 hm
 exact h.2 x hx
theorem round_ok (c : Con) (h : Ok c) (hv : validC c = true) : Good (roundR c).conForm ∧ validC (roundR c) = true := by
 have hg : Good ⟨c.conForm.linMonos, c.conForm.linConst⟩ := h.1
 simp only [validC, validB, Bool.and_eq_true] at hv
 unfold roundR
 cases he : c.conForm.linMonos.isEmpty with
 | true =>
   simp only [cond_true]
   refine ⟨h.1, ?_⟩
   simp only [validC, validB, Bool.and_eq_true]
   exact hv
 | false =>
   have hne : c.conForm.linMonos ≠ [] := fun e => by rw [e] at he; cases he
   have hp := gcdI_pos c h hne
   have hdv : ∀ d : Int, d.natAbs = gcdN c.conForm.linMonos → ∀ m ∈ c.conForm.linMonos, m.monoCoef.tdiv d ≠ 0 := fun d hd m hm => div_ne _ _ (h.2.1 m hm).2.1 (by rw [hd]; exact (gcd_dvd c.conForm.linMonos 0).2 m hm)
   simp only [cond_false]
   cases hrel : c.conRel == 0 with
   | true =>
     simp only [cond_true]
     cases c.conForm.linConst.tmod (gcdI c) == 0 with
     | false => exact ⟨⟨by simp, by simp⟩, rfl⟩
     | true =>
       simp only [cond_true]
       refine ⟨good_div _ _ _ _ hg, ?_⟩
       simp only [validC, validB, Bool.and_eq_true]
       exact ⟨hv.1, validL_div _ _ _ hv.2.1 (hdv _ (byR_nat c)), fits_div hv.2.2⟩
   | false =>
     have hconst := (fitsC_iff _).1 h.2.2
     simp only [cond_false]
     refine ⟨good_div _ _ _ _ hg, ?_⟩
     simp only [validC, validB, Bool.and_eq_true]
     exact ⟨hv.1, validL_div _ _ _ hv.2.1 (hdv _ (gcdI_nat c)), floor_fits _ _ ((fitsC_iff _).2 (by omega)) hp.1⟩
theorem contra_same (N : Nat) (c : Con) (hN : 4611686018400000000 ≤ N ∧ N ≤ 4611686018427387904) (hg : Good c.conForm) : ∃ b, F59 N c = some b ∧ F60 N c = some b := by
 simp only [F59, F60, valid107 N c hN hg, valid109 N c hN hg, bindO_some]
 cases validC c with
 | false => exact ⟨_, rfl, rfl⟩
 | true =>
   simp only [iteO_true]
   by_cases hl : (c.conForm.linMonos.length : Int) > 0
   · have e : ((c.conForm.linMonos.length : Int) == 0) = false := beq_eq_false_iff_ne.2 (by omega)
     rw [decide_eq_true hl, e]; exact ⟨_, rfl, rfl⟩
   · have e : ((c.conForm.linMonos.length : Int) == 0) = true := beq_iff_eq.2 (by omega)
     rw [decide_eq_false hl, e]
     cases c.conRel == 0 <;> cases c.conForm.linConst == 0 <;> cases c.conRel == 1 <;> exact ⟨_, rfl, rfl⟩
end Go.Abs.Try
namespace Go.Abs.Try
set_option maxRecDepth 100000
abbrev Rg (N : Nat) : Prop := 4611686018400000000 ≤ N ∧ N ≤ 4611686018427387904
theorem step1388 (N : Nat) (s : List Mult) (cons : List Con) : F1388 N s cons = F1010 N cons s := rfl
structure OkCon (pool : List Node) (c : Con) : Prop where
 good : Good c.conForm
 val : validC c = true
 mem : ∀ m ∈ c.conForm.linMonos, m.monoAtom ∈ pool
theorem srt_len : ∀ (l : List Mono) (pool : List Node), Srt l → (∀ m ∈ l, m.monoAtom ∈ pool) → l.length ≤ pool.length
 | [], _, _, _ => by simp
 | m :: l, pool, hs, hm => by
   classical
   obtain ⟨h1, h2⟩ := List.pairwise_cons.1 hs
   have hmem := hm m (by simp)
   have := srt_len l (pool.erase m.monoAtom) h2 fun k hk => by
     have hne : k.monoAtom ≠ m.monoAtom := fun e => by
       have h3 := h1 k hk
       rw [e] at h3
       have h4 := cmpR_neg m.monoAtom m.monoAtom
       omega
     exact (List.mem_erase_of_ne hne).2 (hm k (by simp [hk]))
   rw [List.length_erase_of_mem hmem] at this
   have := List.length_pos_of_mem hmem
   simp only [List.length_cons]; omega
theorem OkCon.len {pool : List Node} {c : Con} (h : OkCon pool c) : c.conForm.linMonos.length ≤ pool.length := by
 have h2 := h.val
 simp only [validC, validB, Bool.and_eq_true] at h2
 exact srt_len _ _ (srt_of _ none h2.2.1).1 h.mem
theorem valid_of : ∀ (l : List Mono) (p : Option Node), Srt l → (∀ m ∈ l, fitsC m.monoCoef = true ∧ m.monoCoef ≠ 0 ∧ atomB m.monoAtom = true) → (∀ q, p = some q → ∀ m ∈ l, cmpR q m.monoAtom < 0) → validL p l = true
 | [], _, _, _, _ => rfl
 | m :: l, p, hs, hm, hp => by
   obtain ⟨h1, h2⟩ := List.pairwise_cons.1 hs
   obtain ⟨a1, a2, a3⟩ := hm m (by simp)
   have ih := valid_of l (some m.monoAtom) h2 (fun k hk => hm k (by simp [hk])) (fun q hq k hk => by injection hq with hq; subst hq; exact h1 k hk)
   have e0 : (m.monoCoef == 0) = false := beq_eq_false_iff_ne.2 a2
   have e1 : prevB p m.monoAtom = true := by
     cases p with
     | none => rfl
     | some q =>
       have := hp q rfl m (by simp)
       simp only [prevB, Bool.not_eq_true', decide_eq_false_iff_not]; omega
   simp only [validL, e0, a1, a3, e1, ih, Bool.not_false, Bool.and_self]
theorem round_mem (c : Con) {pool : List Node} (h : ∀ m ∈ c.conForm.linMonos, m.monoAtom ∈ pool) : ∀ m ∈ (roundR c).conForm.linMonos, m.monoAtom ∈ pool := by
 have hd : ∀ d, ∀ m ∈ divM d c.conForm.linMonos, m.monoAtom ∈ pool := fun d m hm => by
   obtain ⟨k, hk, rfl⟩ := List.mem_map.1 hm
   exact h k hk
 unfold roundR
 cases c.conForm.linMonos.isEmpty with
 | true => exact h
 | false =>
   simp only [cond_false]
   cases c.conRel == 0 with
   | true =>
     simp only [cond_true]
     cases c.conForm.linConst.tmod (gcdI c) == 0 with
     | true => exact hd _
     | false => exact fun m hm => by cases hm
   | false => exact hd _
theorem step_same (N : Nat) (hN : Rg N) (pool : List Node) (hpl : pool.length ≤ 2000) (cons : List Con) (s : List Mult) (hc : ∀ c ∈ cons, OkCon pool c) (hs : s.length ≤ 300) (hI : ∀ m ∈ s, I64 m.multCoef) :
   (∃ c e, F1010 N cons s = some (c, e) ∧ e ≠ 0 ∧ (F1012 N cons s = some false ∨ (F1012 N cons s = some true ∧ ∃ c', F1013 N cons s = some (c', false)))) ∨
   (∃ c, F1010 N cons s = some (c, 0) ∧ F1012 N cons s = some true ∧ F1013 N cons s = some (c, true) ∧ OkCon pool c) := by
 have hrel : ∀ c ∈ cons, c.conRel = 0 ∨ c.conRel = 1 := fun c h => by
   have := (hc c h).val
   simp only [validC, Bool.and_eq_true, Bool.or_eq_true, beq_iff_eq] at this
   exact this.1
 have hvb : ∀ c ∈ cons, validB c.conForm = true := fun c h => by
   have := (hc c h).val
   simp only [validC, Bool.and_eq_true] at this
   exact this.2
 have l10 : F1010 N cons s = bif s.any (badM cons) then some (zC, 1) else F1010_f1 N cons s (s.foldl (fun r m => max r (relM cons m)) 0) := loop1010 cons _ s N 0 0 (by omega)
 have l12 : F1012 N cons s = bif s.any (badM cons) then some false else F1012_f1 s () := loop1012 cons _ s N 0 (by omega)
 cases hbad : s.any (badM cons) with
 | true =>
   rw [hbad] at l10 l12
   exact .inl ⟨_, _, l10, by decide, .inl l12⟩
 | false =>
   rw [hbad] at l10 l12
   simp only [cond_false] at l10 l12
   by_cases hs0 : s = []
   · subst hs0
     exact .inl ⟨zC, 1, by rw [l10]; rfl, by decide, .inl (by rw [l12]; rfl)⟩
   · have hpos : 0 < s.length := List.length_pos_iff.2 hs0
     have hnb : ∀ m ∈ s, badM cons m = false := fun m hm => by
       cases h : badM cons m with
       | false => rfl
       | true =>
         have : s.any (badM cons) = true := List.any_eq_true.2 ⟨m, hm, h⟩
         rw [hbad] at this; cases this
     obtain ⟨ok, S, d, ⟨r, t1, t2, t3⟩, ⟨r', u1, u2, u3⟩, hS, hSl, hSa, hSf⟩ := total_same N hN cons s (fun c h => ⟨(hc c h).good, hvb c h, by have := (hc c h).len; omega⟩) (fun m hm => by
         have := hnb m hm
         simp only [badM, Bool.or_eq_false_iff, decide_eq_false_iff_not] at this
         exact ⟨by have := this.1; omega, by have := this.2.1; omega, hI m hm⟩) hs (· ∈ pool) (fun c h => (hc c h).mem)
     have e0 : ((s.length : Int) == 0) = false := beq_eq_false_iff_ne.2 (by omega)
     have e1 : F1012 N cons s = some true := by rw [l12]; simp only [F1012_f1]; rw [decide_eq_true (by omega : (s.length : Int) > 0)]
     have l13 : F1013 N cons s = F1013_f1 N (s.map (fm cons), s.map (·.multCoef), s.foldl (fun r m => max r (relM cons m)) 0) := by
       have := loop1013 cons hrel (F1013_f1 N) s N 0 [] [] 0 (by omega) (.inl rfl) hnb (by simp; omega) rfl
       show foldN (F1013_s1 cons) (F1013_f1 N) N s 0 ([], [], 0) = _
       simpa using this
     have hrl : F1010 N cons s = F1010_f1 N cons s (s.foldl (fun r m => max r (relM cons m)) 0) := l10
     have h01 : ∀ (l : List Mult) (r : Int), (∀ m ∈ l, m ∈ s) → (r = 0 ∨ r = 1) → (l.foldl (fun r m => max r (relM cons m)) r = 0 ∨ l.foldl (fun r m => max r (relM cons m)) r = 1) := by
       intro l
       induction l with
       | nil => exact fun _ _ h => h
       | cons m l ih =>
         intro r hl hr
         have hbm := hnb m (hl m (by simp))
         simp only [badM, Bool.or_eq_false_iff, decide_eq_false_iff_not] at hbm
         have hlt : m.multIndex.toNat < cons.length := by have := hbm.1; have := hbm.2.1; omega
         have hmem : cons.getD m.multIndex.toNat default ∈ cons := by
           rw [List.getD_eq_getElem?_getD, List.getElem?_eq_getElem hlt]; exact List.getElem_mem hlt
         refine ih _ (fun x hx => hl x (by simp [hx])) ?_
         show max r (relM cons m) = 0 ∨ max r (relM cons m) = 1
         rcases hrel _ hmem with h | h <;> rcases hr with h2 | h2 <;> (rw [relM, h, h2]; decide)
     obtain ⟨rel, hrel2⟩ : ∃ rel, rel = s.foldl (fun r m => max r (relM cons m)) 0 := ⟨_, rfl⟩
     have hr01 : rel = 0 ∨ rel = 1 := by rw [hrel2]; exact h01 s 0 (fun _ h => h) (.inl rfl)
     rw [← hrel2] at l13 hrl
     cases ok with
     | false =>
       have f10 : F1010 N cons s = some (zC, 2) := by rw [hrl]; simp only [F1010_f1, e0, iteO_false, t1, bindO_some, t2]; rfl
       have f13 : F1013 N cons s = some (zC, false) := by rw [l13]; simp only [F1013_f1, u1, bindO_some, u2, iteO_false]; rfl
       exact .inl ⟨_, _, f10, by decide, .inr ⟨e1, _, f13⟩⟩
     | true =>
       have hSf := hSf rfl
       have hnzm : ∀ m ∈ nz S, m ∈ S := fun m hm => (List.mem_filter.1 hm).1
       have hgood : Good (⟨nz S, d⟩ : Lin) := ⟨by have := List.length_filter_le (fun m : Mono => !(m.monoCoef == 0)) S; simp only [nz]; omega, fun m hm => (hSa m (hnzm m hm)).1⟩
       have hok : Ok ⟨⟨nz S, d⟩, rel⟩ := ⟨hgood, fun m hm => ⟨hSf.1 m (hnzm m hm), nz_ne m hm, (hSa m (hnzm m hm)).2.1⟩, hSf.2⟩
       have hval : validC ⟨⟨nz S, d⟩, rel⟩ = true := by
         simp only [validC, validB, Bool.and_eq_true, Bool.or_eq_true, beq_iff_eq]
         exact ⟨hr01, valid_of _ none (nz_srt hS) hok.2.1 (fun _ h => by cases h), hSf.2⟩
       obtain ⟨rg1, rg2⟩ := round_ok _ hok hval
       have f10 : F1010 N cons s = some (roundR ⟨⟨nz S, d⟩, rel⟩, 0) := by
         rw [hrl]; simp only [F1010_f1, e0, iteO_false, t1, bindO_some, t2, iteO_true, t3 rfl, round108 N _ hN hok]
       have f13 : F1013 N cons s = some (roundR ⟨⟨nz S, d⟩, rel⟩, true) := by
         rw [l13]; simp only [F1013_f1, u1, bindO_some, u2, iteO_true, u3 rfl, round110 N _ hN hok]
       exact .inr ⟨_, f10, e1, f13, rg1, rg2, round_mem _ fun m hm => (hSa m (hnzm m hm)).2.2⟩
end Go.Abs.Try
namespace Go.Abs.Try
set_option maxRecDepth 100000
mutual
def wgt : Deriv → Nat
  | ⟨st, _, f, ks⟩ => f.linMonos.length + (st.map fun s => s.length + 1).sum + wgtL ks
def wgtL : List Deriv → Nat
  | [] => 0
  | k :: ks => (wgt k + 1) + wgtL ks
end
theorem wgtL_eq : ∀ l : List Deriv, wgtL l = (l.map fun k => wgt k + 1).sum
 | [] => by simp only [wgtL, List.map_nil, List.sum_nil]
 | k :: ks => by simp only [wgtL, List.map_cons, List.sum_cons, wgtL_eq ks]
theorem wgt_eq (d : Deriv) : wgt d = d.derivForm.linMonos.length + (d.derivSteps.map fun s => s.length + 1).sum + (d.derivKids.map fun k => wgt k + 1).sum := by
 cases d; simp only [wgt, wgtL_eq]
mutual
def ht : Deriv → Nat
  | ⟨_, _, _, ks⟩ => htL ks + 1
def htL : List Deriv → Nat
  | [] => 0
  | k :: ks => max (ht k) (htL ks)
end
theorem ht_eq (d : Deriv) : ht d = htL d.derivKids + 1 := by cases d; simp only [ht]
theorem ht_mem {k : Deriv} : ∀ {l : List Deriv}, k ∈ l → ht k ≤ htL l
 | x :: l, h => by
   simp only [htL]
   rcases List.mem_cons.1 h with rfl | h
   · omega
   · have := ht_mem h; omega
inductive Her (P : Deriv → Prop) : Deriv → Prop
 | mk (d : Deriv) (h : P d) (hk : ∀ k ∈ d.derivKids, Her P k) : Her P d
theorem Her.own {P : Deriv → Prop} {d : Deriv} (h : Her P d) : P d := by cases h; assumption
theorem Her.kid {P : Deriv → Prop} {d : Deriv} (h : Her P d) {k : Deriv} (hk : k ∈ d.derivKids) : Her P k := by cases h with | mk _ _ h => exact h k hk
theorem sum_mem {α : Type} {f : α → Nat} {x : α} : ∀ {l : List α}, x ∈ l → f x ≤ (l.map f).sum
 | y :: l, h => by
   rcases List.mem_cons.1 h with rfl | h
   · simp
   · have := sum_mem (f := f) h; simp only [List.map_cons, List.sum_cons]; omega
theorem sum_len {α : Type} {f : α → Nat} : ∀ l : List α, l.length ≤ (l.map fun x => f x + 1).sum
 | [] => by simp
 | y :: l => by have := sum_len (f := f) l; simp only [List.map_cons, List.sum_cons, List.length_cons]; omega
theorem wgt_kid {d k : Deriv} (h : k ∈ d.derivKids) : wgt k + 1 ≤ wgt d := by
 have := sum_mem (f := fun k => wgt k + 1) h
 rw [wgt_eq d]; omega
theorem ht_kid {d k : Deriv} (h : k ∈ d.derivKids) : ht k < ht d := by rw [ht_eq d]; have := ht_mem h; omega
theorem dkids_len (d : Deriv) : d.derivKids.length ≤ wgt d := by
 have := sum_len (f := wgt) d.derivKids
 rw [wgt_eq d]; omega
theorem dsteps_len (d : Deriv) : d.derivSteps.length ≤ wgt d := by
 have := sum_len (f := List.length) d.derivSteps
 rw [wgt_eq d]; omega
theorem wrapN (n : Nat) (h : n ≤ 1152921504606846976) : IntKind.i64.wrap (n : Int) = (n : Int) := wrap_id (by omega)
theorem foldN_sum {α R : Type} (f : α → Nat) (step : Int → Nat → α → Option (Sum Int R)) (fin : Int → Option R) : ∀ (l : List α) (M i s : Nat), l.length < M → s + (l.map f).sum ≤ 1152921504606846976 →
   (∀ x ∈ l, ∀ (s i : Nat), s + f x ≤ 1152921504606846976 → step (s : Int) i x = some (.inl ((s + f x : Nat) : Int))) → foldN step fin M l i (s : Int) = fin ((s + (l.map f).sum : Nat) : Int)
 | [], M, i, s, hM, _, _ => by
   obtain ⟨K, rfl⟩ : ∃ K, M = K + 1 := ⟨M - 1, by simp at hM; omega⟩
   rfl
 | x :: l, M, i, s, hM, hb, h => by
   obtain ⟨K, rfl⟩ : ∃ K, M = K + 1 := ⟨M - 1, by simp at hM; omega⟩
   simp only [List.map_cons, List.sum_cons] at hb
   have h1 := h x (by simp) s i (by omega)
   have ih := foldN_sum f step fin l K (i + 1) (s + f x) (by simp at hM; omega) (by omega) fun y hy => h y (by simp [hy])
   have e : s + ((x :: l).map f).sum = s + f x + (l.map f).sum := by simp only [List.map_cons, List.sum_cons]; omega
   rw [e, ← ih]
   simp only [foldN, h1, bindO_some]
theorem foldN_some {S α R : Type} (step : S → Nat → α → Option (Sum S R)) (fin : S → Option R) (I : List α → S → Prop) (Q : R → Prop) (hf : ∀ s, I [] s → ∃ r, fin s = some r ∧ Q r)
   (hs : ∀ x l s i, I (x :: l) s → (∃ s', step s i x = some (.inl s') ∧ I l s') ∨ ∃ r, step s i x = some (.inr r) ∧ Q r) : ∀ (l : List α) (M i : Nat) (s : S), l.length < M → I l s → ∃ r, foldN step fin M l i s = some r ∧ Q r
 | [], M, i, s, hM, hI => by
   obtain ⟨K, rfl⟩ : ∃ K, M = K + 1 := ⟨M - 1, by simp at hM; omega⟩
   exact hf s hI
 | x :: l, M, i, s, hM, hI => by
   obtain ⟨K, rfl⟩ : ∃ K, M = K + 1 := ⟨M - 1, by simp at hM; omega⟩
   rcases hs x l s i hI with ⟨s', h1, h2⟩ | ⟨r, h1, h2⟩
   · obtain ⟨r, h3, h4⟩ := foldN_some step fin I Q hf hs l K (i + 1) s' (by simp at hM; omega) h2
     exact ⟨r, by simp only [foldN, h1, bindO_some]; exact h3, h4⟩
   · exact ⟨r, by simp only [foldN, h1, bindO_some], h2⟩
theorem foldN_both {S α R : Type} (step step' : S → Nat → α → Option (Sum S R)) (fin fin' : S → Option R) (I : List α → S → Prop) (hf : ∀ s, I [] s → ∃ r, fin s = some r ∧ fin' s = some r)
   (hs : ∀ x l s i, I (x :: l) s → (∃ s', step s i x = some (.inl s') ∧ step' s i x = some (.inl s') ∧ I l s') ∨ ∃ r, step s i x = some (.inr r) ∧ step' s i x = some (.inr r)) : ∀ (l : List α) (M i : Nat) (s : S), l.length < M → I l s → ∃ r, foldN step fin M l i s = some r ∧ foldN step' fin' M l i s = some r
 | [], M, i, s, hM, hI => by
   obtain ⟨K, rfl⟩ : ∃ K, M = K + 1 := ⟨M - 1, by simp at hM; omega⟩
   exact hf s hI
 | x :: l, M, i, s, hM, hI => by
   obtain ⟨K, rfl⟩ : ∃ K, M = K + 1 := ⟨M - 1, by simp at hM; omega⟩
   rcases hs x l s i hI with ⟨s', h1, h2, h3⟩ | ⟨r, h1, h2⟩
   · obtain ⟨r, h4, h5⟩ := foldN_both step step' fin fin' I hf hs l K (i + 1) s' (by simp at hM; omega) h3
     exact ⟨r, by simp only [foldN, h1, bindO_some]; exact h4, by simp only [foldN, h2, bindO_some]; exact h5⟩
   · exact ⟨r, by simp only [foldN, h1, bindO_some], by simp only [foldN, h2, bindO_some]⟩
theorem wgt1006 : ∀ (N : Nat) (d : Deriv), wgt d ≤ 1152921504606846976 → 1152921504606846976 + ht d < N → F1006 N d = some (wgt d : Int)
 | 0, _, _, h => by omega
 | N + 1, d, hw, hN => by
   have hk := dkids_len d
   have hs := dsteps_len d
   have hh : 1 ≤ ht d := by rw [ht_eq d]; omega
   have he := wgt_eq d
   have h1 := foldN_sum (R := Int) (fun s : List Mult => s.length + 1) F1006_s1 (F1006_f1 (F1006 N) N d) d.derivSteps N 0 d.derivForm.linMonos.length (by omega) (by omega) fun x hx s i hb => by
     have e : (x.length : Int) + 1 = ((x.length + 1 : Nat) : Int) := rfl
     simp only [F1006_s1, e, wrapN (x.length + 1) (by omega), ← Int.natCast_add]
     rw [wrapN _ (by omega)]
   have h2 := foldN_sum (R := Int) (fun k => wgt k + 1) (F1006_s2 (F1006 N)) F1006_f2 d.derivKids N 0 (d.derivForm.linMonos.length + (d.derivSteps.map fun s => s.length + 1).sum) (by omega) (by omega) fun x hx s i hb => by
     have hx1 := wgt_kid hx
     have hx2 := ht_kid hx
     have e : (wgt x : Int) + 1 = ((wgt x + 1 : Nat) : Int) := rfl
     simp only [F1006_s2, wgt1006 N x (by omega) (by omega), bindO_some, e, wrapN (wgt x + 1) (by omega), ← Int.natCast_add]
     rw [wrapN _ (by omega)]
   show foldN F1006_s1 (F1006_f1 (F1006 N) N d) N d.derivSteps 0 (d.derivForm.linMonos.length : Int) = _
   rw [h1]
   show foldN (F1006_s2 (F1006 N)) F1006_f2 N d.derivKids 0 _ = _
   rw [h2, he]; rfl
theorem atoms1007 : ∀ (N : Nat) (d : Deriv), Her (fun d => Good d.derivForm) d → wgt d ≤ 1048576 → 4611686018400000000 + ht d ≤ N ∧ N ≤ 4611686018427387904 → ∃ b, F1007 N d = some b
 | 0, _, _, _, h => by omega
 | N + 1, d, hg, hw, hN => by
   have hk := dkids_len d
   have hh : 1 ≤ ht d := by rw [ht_eq d]; omega
   have hlen := hg.own.1
   obtain ⟨b, hb, _⟩ := lightS N (by omega) [d.derivForm] N 0 0 (by simp; omega) (fun f hf => by rw [List.mem_singleton.1 hf]; exact hg.own) (by simp; omega)
   have hb : F32 N [d.derivForm] = some b := hb
   show ∃ b, F1007b (F1007 N) N d = some b
   simp only [F1007b, hb, bindO_some]
   cases b with
   | false => exact ⟨_, rfl⟩
   | true =>
     simp only [iteO_true]
     obtain ⟨r, h1, _⟩ := foldN_some (R := Bool) (F1007_s1 (F1007 N)) F1007_f1 (fun l _ => ∀ k ∈ l, k ∈ d.derivKids) (fun _ => True) (fun _ _ => ⟨_, rfl, trivial⟩) (fun x l s i hI => by
       have hx := hI x (by simp)
       have hx1 := wgt_kid hx
       have hx2 := ht_kid hx
       obtain ⟨b, hb⟩ := atoms1007 N x (hg.kid hx) (by omega) (by omega)
       simp only [F1007_s1, hb, bindO_some]
       cases b with
       | true => exact .inl ⟨_, rfl, fun k hk => hI k (by simp [hk])⟩
       | false => exact .inr ⟨_, rfl, trivial⟩) d.derivKids N 0 () (by omega) fun _ h => h
     exact ⟨r, h1⟩
theorem deep1017 : ∀ (N : Nat) (d : Deriv), wgt d ≤ 1048576 → 4611686018400000000 + ht d ≤ N → ht d ≤ 1152921504606846976 → F1017 N d = some (ht d : Int)
 | 0, _, _, h, _ => by omega
 | N + 1, d, hw, hN, hb => by
   have hk := dkids_len d
   have key : ∀ (l : List Deriv) (M i s : Nat), l.length < M → (∀ k ∈ l, k ∈ d.derivKids) → foldN (F1017_s1 (F1017 N)) F1017_f1 M l i (s : Int) = F1017_f1 ((max s (htL l) : Nat) : Int) := by
     intro l
     induction l with
     | nil =>
       intro M i s hM _
       obtain ⟨K, rfl⟩ : ∃ K, M = K + 1 := ⟨M - 1, by simp at hM; omega⟩
       have : max s (htL []) = s := by simp only [htL]; omega
       rw [this]; rfl
     | cons x l ih =>
       intro M i s hM hI
       obtain ⟨K, rfl⟩ : ∃ K, M = K + 1 := ⟨M - 1, by simp at hM; omega⟩
       have hx := hI x (by simp)
       have hx1 := wgt_kid hx
       have hx2 := ht_kid hx
       have e : max (s : Int) (ht x : Int) = ((max s (ht x) : Nat) : Int) := by omega
       simp only [foldN, F1017_s1, deep1017 N x (by omega) (by omega) (by omega), bindO_some, e]
       rw [ih K (i + 1) _ (by simp at hM; omega) fun k hk => hI k (by simp [hk])]
       congr 2
       simp only [htL]; omega
   have := key d.derivKids N 0 0 (by omega) fun _ h => h
   show foldN (F1017_s1 (F1017 N)) F1017_f1 N d.derivKids 0 0 = _
   rw [show (0 : Int) = ((0 : Nat) : Int) from rfl, this]
   have he := ht_eq d
   have e : ((max 0 (htL d.derivKids) : Nat) : Int) + 1 = (ht d : Int) := by omega
   simp only [F1017_f1, e]
   rw [wrapN _ hb]
theorem count1016 : ∀ (N : Nat) (d : Deriv), wgt d ≤ 1048576 → 4611686018400000000 + ht d ≤ N → ∃ c : Nat, F1016 N d = some (c : Int) ∧ c ≤ wgt d + 1
 | 0, _, _, h => by omega
 | N + 1, d, hw, hN => by
   have hk := dkids_len d
   have he := wgt_eq d
   have hsl := sum_len (f := List.length) d.derivSteps
   have key : ∀ (step : Int → Nat → Deriv → Option (Sum Int Int)) (fin : Int → Option Int), (∀ s i x, step s i x = bindO (F1016 N x) fun r => some (.inl (IntKind.i64.wrap (s + r)))) → (∀ s, fin s = some s) → ∀ (l : List Deriv) (M i s : Nat), l.length < M → s ≤ 2097152 → (l.map fun k => wgt k + 1).sum ≤ 1048576 → s + (l.map fun k => wgt k + 1).sum ≤ 2097152 → (∀ k ∈ l, k ∈ d.derivKids) → ∃ c : Nat, foldN step fin M l i (s : Int) = some (c : Int) ∧ c ≤ s + (l.map fun k => wgt k + 1).sum := by
     intro step fin hst hfin l
     induction l with
     | nil =>
       intro M i s hM _ _ _ _
       obtain ⟨K, rfl⟩ : ∃ K, M = K + 1 := ⟨M - 1, by simp at hM; omega⟩
       exact ⟨s, hfin _, by simp⟩
     | cons x l ih =>
       intro M i s hM h1 h2 h3 hI
       obtain ⟨K, rfl⟩ : ∃ K, M = K + 1 := ⟨M - 1, by simp at hM; omega⟩
       have hx := hI x (by simp)
       have hx1 := wgt_kid hx
       have hx2 := ht_kid hx
       simp only [List.map_cons, List.sum_cons] at h2 h3
       obtain ⟨c, hc, hc2⟩ := count1016 N x (by omega) (by omega)
       obtain ⟨c', i1, i2⟩ := ih K (i + 1) (s + c) (by simp at hM; omega) (by omega) (by omega) (by omega) fun k hk => hI k (by simp [hk])
       refine ⟨c', ?_, by simp only [List.map_cons, List.sum_cons]; omega⟩
       simp only [foldN, hst, hc, bindO_some, ← Int.natCast_add]
       rw [wrapN _ (by omega)]
       exact i1
   show ∃ c : Nat, F1016b (F1016 N) N d = some (c : Int) ∧ c ≤ wgt d + 1
   have e : (d.derivSteps.length : Int) + 1 = ((d.derivSteps.length + 1 : Nat) : Int) := rfl
   cases hsp : d.derivSplit with
   | true =>
     obtain ⟨c, h1, h2⟩ := key (F1016_s1 (F1016 N)) F1016_f1 (fun _ _ _ => rfl) (fun _ => rfl) d.derivKids N 0 (d.derivSteps.length + 1) (by omega) (by omega) (by omega) (by omega) fun _ h => h
     refine ⟨c, ?_, by omega⟩
     simp only [F1016b, hsp, iteO_true, e]
     rw [wrapN _ (by omega)]
     exact h1
   | false =>
     obtain ⟨c, h1, h2⟩ := key (F1016_s2 (F1016 N)) F1016_f2 (fun _ _ _ => rfl) (fun _ => rfl) d.derivKids N 0 d.derivSteps.length (by omega) (by omega) (by omega) (by omega) fun _ h => h
     refine ⟨c, ?_, by omega⟩
     simp only [F1016b, hsp, iteO_false]
     exact h1
theorem weight1014 : ∀ (N : Nat) (d : Deriv) (lv : Nat), wgt d ≤ 1000 → 4611686018400000000 + ht d ≤ N → lv + ht d ≤ 4000000 → ∃ c q : Nat, F1014 N d (lv : Int) = some ((c : Int), (q : Int)) ∧ c ≤ wgt d + 1 ∧ (60 < q ↔ 60 + 1 < lv + ht d) ∧ q ≤ 4000000
 | 0, _, _, _, h, _ => by omega
 | N + 1, d, lv, hw, hN, hl => by
   have hk := dkids_len d
   have he := wgt_eq d
   have hte := ht_eq d
   have hsl := sum_len (f := List.length) d.derivSteps
   have key : ∀ (step : Int × Int → Nat → Deriv → Option (Sum (Int × Int) (Int × Int))) (fin : Int × Int → Option (Int × Int)),
       (∀ s i x, step s i x = bindO (F1014 N x (IntKind.i64.wrap ((lv : Int) + 1))) fun r4 => iteO (decide ((IntKind.i64.wrap (s.1 + r4.1)) > 2000)) (some (.inr (IntKind.i64.wrap (s.1 + r4.1), max s.2 r4.2))) (iteO (decide ((max s.2 r4.2) > 60)) (some (.inr (IntKind.i64.wrap (s.1 + r4.1), max s.2 r4.2))) (some (.inl (IntKind.i64.wrap (s.1 + r4.1), max s.2 r4.2))))) →
       (∀ s, fin s = some (s.1, s.2)) → ∀ (l : List Deriv) (M i c q : Nat), l.length < M → c + (l.map fun k => wgt k + 1).sum ≤ 1001 → q ≤ 60 → (∀ k ∈ l, k ∈ d.derivKids) →
       ∃ c' q' : Nat, foldN step fin M l i ((c : Int), (q : Int)) = some ((c' : Int), (q' : Int)) ∧ c' ≤ c + (l.map fun k => wgt k + 1).sum ∧ (60 < q' ↔ 60 < lv + htL l ∧ l ≠ []) ∧ q' ≤ 4000000 := by
     intro step fin hst hfin l
     induction l with
     | nil =>
       intro M i c q hM _ hq _
       obtain ⟨K, rfl⟩ : ∃ K, M = K + 1 := ⟨M - 1, by simp at hM; omega⟩
       exact ⟨c, q, hfin _, by simp, ⟨fun h => by omega, fun h => absurd rfl h.2⟩, by omega⟩
     | cons x l ih =>
       intro M i c q hM h2 hq hI
       obtain ⟨K, rfl⟩ : ∃ K, M = K + 1 := ⟨M - 1, by simp at hM; omega⟩
       have hx := hI x (by simp)
       have hx1 := wgt_kid hx
       have hx2 := ht_kid hx
       simp only [List.map_cons, List.sum_cons] at h2
       obtain ⟨c1, q1, f1, f2, f3, f4⟩ := weight1014 N x (lv + 1) (by omega) (by omega) (by omega)
       have e1 : IntKind.i64.wrap ((lv : Int) + 1) = ((lv + 1 : Nat) : Int) := wrapN (lv + 1) (by omega)
       have e2 : IntKind.i64.wrap ((c : Int) + (c1 : Int)) = ((c + c1 : Nat) : Int) := by rw [← Int.natCast_add, wrapN _ (by omega)]
       have e3 : max (q : Int) (q1 : Int) = ((max q q1 : Nat) : Int) := by omega
       have e4 : decide (((c + c1 : Nat) : Int) > 2000) = false := decide_eq_false (by omega)
       have hst' := hst ((c : Int), (q : Int)) i x
       rw [e1, f1] at hst'
       simp only [bindO_some, e2, e3, e4, iteO_false] at hst'
       have hh : htL (x :: l) = max (ht x) (htL l) := by simp only [htL]
       by_cases hb : q1 ≤ 60
       · have e5 : decide (((max q q1 : Nat) : Int) > 60) = false := decide_eq_false (by omega)
         rw [e5, iteO_false] at hst'
         obtain ⟨c', q', i1, i2, i3, i4⟩ := ih K (i + 1) (c + c1) (max q q1) (by simp at hM; omega) (by omega) (by omega) fun k hk => hI k (by simp [hk])
         refine ⟨c', q', by simp only [foldN, hst', bindO_some]; exact i1, by simp only [List.map_cons, List.sum_cons]; omega, ?_, i4⟩
         rw [i3, hh]
         have hx3 : ¬ 60 + 1 < lv + 1 + ht x := fun h => by have := f3.2 h; omega
         constructor
         · rintro ⟨a, b⟩; exact ⟨by omega, by simp⟩
         · rintro ⟨a, b⟩
           have hlt : 60 < lv + htL l := by omega
           refine ⟨hlt, fun e => ?_⟩
           subst e
           have h0 : 1 ≤ ht x := by rw [ht_eq x]; omega
           simp only [htL] at hlt; omega
       · have e5 : decide (((max q q1 : Nat) : Int) > 60) = true := decide_eq_true (by omega)
         rw [e5, iteO_true] at hst'
         refine ⟨c + c1, max q q1, by simp only [foldN, hst', bindO_some], by simp only [List.map_cons, List.sum_cons]; omega, ?_, by omega⟩
         have := f3.1 (by omega)
         exact ⟨fun _ => ⟨by omega, by simp⟩, fun _ => by omega⟩
   have hz : htL d.derivKids = 0 ↔ d.derivKids = [] := by
     cases d.derivKids with
     | nil => simp [htL]
     | cons x l => have h0 : 1 ≤ ht x := by rw [ht_eq x]; omega
                   simp only [htL]; constructor
                   · intro h; omega
                   · intro h; cases h
   have fin' : ∀ (b : Option (Int × Int)) (c0 : Nat), c0 + (d.derivKids.map fun k => wgt k + 1).sum ≤ wgt d + 1 → (lv ≤ 60 → ∃ c' q' : Nat, b = some ((c' : Int), (q' : Int)) ∧ c' ≤ c0 + (d.derivKids.map fun k => wgt k + 1).sum ∧ (60 < q' ↔ 60 < lv + htL d.derivKids ∧ d.derivKids ≠ []) ∧ q' ≤ 4000000) →
       ∃ c q : Nat, iteO (decide ((lv : Int) > 60)) (some ((c0 : Int), (lv : Int))) (iteO (decide ((c0 : Int) > 2000)) (some ((c0 : Int), (lv : Int))) b) = some ((c : Int), (q : Int)) ∧ c ≤ wgt d + 1 ∧ (60 < q ↔ 60 + 1 < lv + ht d) ∧ q ≤ 4000000 := by
     intro b c0 hc0 hb
     by_cases hlv : lv ≤ 60
     · have e5 : decide ((lv : Int) > 60) = false := decide_eq_false (by omega)
       have e6 : decide ((c0 : Int) > 2000) = false := decide_eq_false (by omega)
       obtain ⟨c', q', h1, h2, h3, h4⟩ := hb hlv
       refine ⟨c', q', by rw [e5, e6, iteO_false, iteO_false, h1], by omega, ?_, h4⟩
       rw [h3, hte]
       constructor
       · rintro ⟨a, b⟩; omega
       · intro a
         refine ⟨by omega, fun e => ?_⟩
         have := hz.2 e
         omega
     · have e5 : decide ((lv : Int) > 60) = true := decide_eq_true (by omega)
       exact ⟨c0, lv, by rw [e5, iteO_true], by omega, by omega, by omega⟩
   show ∃ c q : Nat, F1014b (F1014 N) N d (lv : Int) = some ((c : Int), (q : Int)) ∧ _
   cases hsp : d.derivSplit with
   | true =>
     have e : IntKind.i64.wrap ((d.derivSteps.length : Int) + 1) = ((d.derivSteps.length + 1 : Nat) : Int) := wrapN (d.derivSteps.length + 1) (by omega)
     simp only [F1014b, hsp, iteO_true, e]
     exact fin' _ (d.derivSteps.length + 1) (by omega) fun hlv => key (F1014_s1 (F1014 N) (lv : Int)) F1014_f1 (fun _ _ _ => rfl) (fun _ => rfl) d.derivKids N 0 (d.derivSteps.length + 1) lv (by omega) (by omega) hlv fun _ h => h
   | false =>
     simp only [F1014b, hsp, iteO_false]
     exact fin' _ d.derivSteps.length (by omega) fun hlv => key (F1014_s2 (F1014 N) (lv : Int)) F1014_f2 (fun _ _ _ => rfl) (fun _ => rfl) d.derivKids N 0 d.derivSteps.length lv (by omega) (by omega) hlv fun _ h => h
end Go.Abs.Try
namespace Go.Abs.Try
set_option maxRecDepth 100000
structure DOk (pool : List Node) (d : Deriv) : Prop where
 good : Good d.derivForm
 mem : ∀ m ∈ d.derivForm.linMonos, m.monoAtom ∈ pool
 i64 : ∀ s ∈ d.derivSteps, ∀ m ∈ s, I64 m.multCoef
def ngM (f : Lin) : List Mono := f.linMonos.map fun m => ⟨(-1) * m.monoCoef, m.monoAtom⟩
theorem mrg_nil (p q : Int) (l : List Mono) : mrg p q l [] = l.map fun m => (⟨p * m.monoCoef, m.monoAtom⟩ : Mono) := by
 cases l <;> simp [mrg]
theorem fits_neg {x : Int} (h : fitsC x = true) : fitsC ((-1) * x) = true := by
 rw [fitsC_iff] at h ⊢; omega
theorem ng_ok {f : Lin} (h : ∀ m ∈ f.linMonos, fitsC m.monoCoef = true ∧ m.monoCoef ≠ 0 ∧ atomB m.monoAtom = true) : ∀ m ∈ ngM f, fitsC m.monoCoef = true ∧ m.monoCoef ≠ 0 ∧ atomB m.monoAtom = true := fun m hm => by
 obtain ⟨k, hk, rfl⟩ := List.mem_map.1 hm
 obtain ⟨a, b, c⟩ := h k hk
 exact ⟨fits_neg a, by show (-1) * k.monoCoef ≠ 0; omega, c⟩
theorem nz_id : ∀ {l : List Mono}, (∀ m ∈ l, m.monoCoef ≠ 0) → nz l = l
 | [], _ => rfl
 | m :: l, h => by
   have h0 : (m.monoCoef == 0) = false := beq_eq_false_iff_ne.2 (h m (by simp))
   have := nz_id fun k hk => h k (List.mem_cons_of_mem m hk)
   unfold nz at this ⊢
   simp only [List.filter_cons, h0, Bool.not_false, if_true, this]
theorem neg_same (N : Nat) (hN : Rg N) (f : Lin) (hg : Good f) (hv : validB f = true) :
   F88 N f ⟨[], 0⟩ (-1) 0 = some (⟨ngM f, (-1) * f.linConst⟩, true) ∧
   ∃ r, F90 N [⟨[], 1⟩, f] [1, (-1)] = some r ∧ r.2 = fitsC (1 - f.linConst) ∧ (r.2 = true → r.1 = ⟨ngM f, 1 - f.linConst⟩) := by
 simp only [validB, Bool.and_eq_true] at hv
 obtain ⟨hs, hm⟩ := srt_of _ none hv.1
 have hF := fitsC_F53 hv.2
 have hF' : -9007199254740992 ≤ f.linConst ∧ f.linConst ≤ 9007199254740992 := hF
 have hng := ng_ok hm
 have hI1 : I64 (-1) := ⟨by decide, by decide⟩
 have hI0 : I64 0 := ⟨by decide, by decide⟩
 have hIp : I64 1 := ⟨by decide, by decide⟩
 have hgz : ∀ k : Int, Good (⟨[], k⟩ : Lin) := fun k => ⟨by simp, by simp⟩
 obtain ⟨r, h1, h2, h3⟩ := merge88 N f ⟨[], 0⟩ (-1) 0 hI1 hI0 (by omega) hg (hgz 0) (fun m hx => (hm m hx).1) (by simp) hF ⟨by decide, by decide⟩
 have em : mrg (-1) 0 f.linMonos [] = ngM f := mrg_nil _ _ _
 have eall : allW (ngM f) = true := List.all_eq_true.2 fun m hx => (hng m hx).1
 have enz : nz (ngM f) = ngM f := nz_id fun m hx => (hng m hx).2.1
 have e0 : (-1) * f.linConst + 0 * (0 : Int) = (-1) * f.linConst := by omega
 have efc : fitsW ((-1) * f.linConst) = true := fits_neg hv.2
 simp only [em, eall, e0, efc, Bool.and_self] at h2 h3
 have h3 := h3 h2
 rw [enz] at h3
 refine ⟨by rw [h1, ← h3, ← h2], ?_⟩
 have hforms : Forms [⟨[], 1⟩, f] [1, (-1)] := by
   refine ⟨rfl, by decide, ?_, ?_, ?_, ?_, ?_⟩
   · intro g hx
     rcases List.mem_cons.1 hx with rfl | hx
     · exact hgz 1
     · rw [List.mem_singleton.1 hx]; exact hg
   · intro g hx m hm'
     rcases List.mem_cons.1 hx with rfl | hx
     · cases hm'
     · rw [List.mem_singleton.1 hx] at hm'; exact (hm m hm').1
   · intro g hx
     rcases List.mem_cons.1 hx with rfl | hx
     · exact ⟨by decide, by decide⟩
     · rw [List.mem_singleton.1 hx]; exact hF
   · intro p hx
     rcases List.mem_cons.1 hx with rfl | hx
     · exact hIp
     · rw [List.mem_singleton.1 hx]; exact hI1
   · have := hg.1
     simp; omega
 obtain ⟨r', k1, k2, k3⟩ := sum90 N hN hforms
 have hsr := sums_srt [⟨[], 1⟩, f] [1, (-1)]
 have hco : ∀ a, coefL (ngM f) a = coefL (sums [⟨[], 1⟩, f] [1, (-1)]) a := fun a => by
   rw [sums_coef, ngM, map_coef]
   simp [dot, atC, coefL]
 have hsn : Srt (ngM f) := map_srt (-1) hs
 have hnz : nz (sums [⟨[], 1⟩, f] [1, (-1)]) = ngM f := by
   rw [← eqM_eq (sums_eq hsn hsr hco), enz]
 have hall : allW (sums [⟨[], 1⟩, f] [1, (-1)]) = true := by
   have h0 : fitsW 0 = true := by decide
   have h4 : (ngM f).all (fun m => fitsW m.monoCoef) = true := eall
   show (sums [⟨[], 1⟩, f] [1, (-1)]).all (fun m => fitsW m.monoCoef) = true
   rw [all_coef h0 hsr]
   rw [all_coef h0 hsn] at h4
   exact fun a => by rw [← hco]; exact h4 a
 have hd : dot Lin.linConst [⟨[], 1⟩, f] [1, (-1)] = 1 - f.linConst := by simp [dot]; omega
 rw [hall, hd, Bool.true_and] at k2
 refine ⟨r', k1, k2, fun h => ?_⟩
 rw [k3 h, hnz, hd]
theorem fits40 {n : Nat} (h : n ≤ 20000) : fits (n + 1) 40 = true := by
 simp only [fits, roomMax]; exact decide_eq_true (by omega)
theorem copied1020 (N : Nat) (cons : List Con) (c : Con) (hN : 20000 < N) (hl : cons.length ≤ 10000) : F1020 N cons c = some (cons ++ [c]) := by
 have key : ∀ (l : List Con) (M i : Nat) (s : List Con), l.length < M → s.length + l.length ≤ 10000 → foldN F1020_s1 (F1020_f1 c) M l i s = some (s ++ l ++ [c]) := by
   intro l
   induction l with
   | nil =>
     intro M i s hM hs
     obtain ⟨K, rfl⟩ : ∃ K, M = K + 1 := ⟨M - 1, by simp at hM; omega⟩
     simp only [foldN, F1020_f1, fits40 (n := s.length) (by simp at hs; omega), iteO_true, List.append_nil]
   | cons x l ih =>
     intro M i s hM hs
     obtain ⟨K, rfl⟩ : ∃ K, M = K + 1 := ⟨M - 1, by simp at hM; omega⟩
     simp only [List.length_cons] at hs hM
     simp only [foldN, F1020_s1, fits40 (n := s.length) (by omega), iteO_true, bindO_some]
     rw [ih K (i + 1) (s ++ [x]) (by omega) (by simp; omega)]
     simp
 have := key cons N 0 [] (by omega) (by simpa using hl)
 simpa [F1020] using this
theorem cut_all {α : Type} (l : List α) : cutL l 0 (l.length : Int) = l := by simp [cutL]
theorem inS_all (n : Nat) : inS 0 (n : Int) n = true := by simp only [inS]; exact decide_eq_true (by omega)
theorem refutes_same : ∀ (N : Nat) (d : Deriv) (cons : List Con) (pool : List Node), Her (DOk pool) d → 4611686018400000000 + ht d ≤ N ∧ N ≤ 4611686018427387904 → wgt d ≤ 300 → pool.length ≤ 2000 → (∀ c ∈ cons, OkCon pool c) → cons.length + wgt d ≤ 5000 →
   ∃ b, F1387 N d cons = some b ∧ F1018 N cons d = some b
 | 0, _, _, _, _, h, _, _, _, _ => by omega
 | N + 1, d, cons, pool, hd, hN, hw, hpl, hc, hcl => by
   have hkl := dkids_len d
   have hh : 1 ≤ ht d := by rw [ht_eq d]; omega
   have hNr : Rg N := ⟨by omega, by omega⟩
   have hsl := sum_len (f := List.length) d.derivSteps
   have he := wgt_eq d
   have hdo := hd.own
   show ∃ b, foldN (F1387_s1 N) (F1387_f1 (F1387 N) N d) N d.derivSteps 0 (cons, false) = some b ∧ foldN (F1018_s1 N) (F1018_f1 (F1018 N) N d) N d.derivSteps 0 (cons, false) = some b
   refine foldN_both (F1387_s1 N) (F1018_s1 N) _ _ (fun l s => (∀ c ∈ s.1, OkCon pool c) ∧ s.1.length + l.length ≤ cons.length + d.derivSteps.length ∧ ∀ x ∈ l, x ∈ d.derivSteps) ?_ ?_ d.derivSteps N 0 (cons, false) (by omega) ⟨hc, by simp, fun _ h => h⟩
   · rintro ⟨cs, k⟩ ⟨hcs, hlen, _⟩
     simp only [List.length_nil, Nat.add_zero] at hcs hlen
     have hv64 := valid64 N d.derivForm hNr hdo.good
     have hv89 := valid89 N d.derivForm hNr hdo.good
     cases hsp : d.derivSplit with
     | true =>
       simp only [F1387_f1, F1018_f1, hsp, iteO_true, hv64, hv89, bindO_some]
       cases hvb : validB d.derivForm with
       | false =>
         simp only [iteO_false]
         cases ((d.derivKids.length : Int) == 2) <;> exact ⟨_, rfl, rfl⟩
       | true =>
         simp only [iteO_true]
         by_cases h2 : d.derivKids.length = 2
         · have e2 : ((d.derivKids.length : Int) == 2) = true := beq_iff_eq.2 (by omega)
           obtain ⟨k0, k1, hkk⟩ : ∃ k0 k1, d.derivKids = [k0, k1] := by
             match hq : d.derivKids, h2 with
             | [a, b], _ => exact ⟨a, b, rfl⟩
           have m0 : k0 ∈ d.derivKids := by rw [hkk]; simp
           have m1 : k1 ∈ d.derivKids := by rw [hkk]; simp
           have w0 := wgt_kid m0; have w1 := wgt_kid m1
           have t0 := ht_kid m0; have t1 := ht_kid m1
           have ksum : (d.derivKids.map fun k => wgt k + 1).sum = (wgt k0 + 1) + (wgt k1 + 1) := by rw [hkk]; simp
           obtain ⟨n1, r, n2, n3, n4⟩ := neg_same N hNr d.derivForm hdo.good hvb
           have a0 : atO d.derivKids 0 = some k0 := by rw [hkk]; rfl
           have a1 : atO d.derivKids 1 = some k1 := by rw [hkk]; rfl
           have hfc : fitsC d.derivForm.linConst = true := by simp only [validB, Bool.and_eq_true] at hvb; exact hvb.2
           have hfc2 := (fitsC_iff _).1 hfc
           have ewr : IntKind.i64.wrap ((-1) * d.derivForm.linConst + 1) = 1 - d.derivForm.linConst := by
             rw [wrap_id (by omega)]; omega
           obtain ⟨hs, hm⟩ := srt_of _ none (by simp only [validB, Bool.and_eq_true] at hvb; exact hvb.1)
           have ok0 : OkCon pool ⟨d.derivForm, 1⟩ := ⟨hdo.good, by simp only [validC, hvb]; rfl, hdo.mem⟩
           obtain ⟨b0, p0, q0⟩ := refutes_same N k0 (cs ++ [⟨d.derivForm, 1⟩]) pool (hd.kid m0) (by omega) (by omega) hpl (fun c hx => by
             rcases List.mem_append.1 hx with hx | hx
             · exact hcs c hx
             · rw [List.mem_singleton.1 hx]; exact ok0) (by simp only [List.length_append, List.length_cons, List.length_nil]; omega)
           simp only [e2, iteO_true, n1, n2, bindO_some, ewr, fits112, n3, inS_all, cut_all, fits40 (n := cs.length) (by omega), a0, a1]
           cases hf1 : fitsC (1 - d.derivForm.linConst) with
           | false => simp only [iteO_false]; exact ⟨_, rfl, rfl⟩
           | true =>
             have n4 := n4 (by rw [n3, hf1])
             have ok1 : OkCon pool ⟨⟨ngM d.derivForm, 1 - d.derivForm.linConst⟩, 1⟩ := by
               refine ⟨⟨by have := hdo.good.1; simpa [ngM] using this, fun m hx => ?_⟩, ?_, fun m hx => ?_⟩
               · obtain ⟨k, hk, rfl⟩ := List.mem_map.1 hx
                 exact hdo.good.2 k hk
               · have := valid_of (ngM d.derivForm) none (map_srt (-1) hs) (ng_ok hm) (fun _ h => by cases h)
                 simp only [validC, validB, this, hf1]; rfl
               · obtain ⟨k, hk, rfl⟩ := List.mem_map.1 hx
                 exact hdo.mem k hk
             obtain ⟨b1, p1, q1⟩ := refutes_same N k1 (cs ++ [⟨⟨ngM d.derivForm, 1 - d.derivForm.linConst⟩, 1⟩]) pool (hd.kid m1) (by omega) (by omega) hpl (fun c hx => by
               rcases List.mem_append.1 hx with hx | hx
               · exact hcs c hx
               · rw [List.mem_singleton.1 hx]; exact ok1) (by simp only [List.length_append, List.length_cons, List.length_nil]; omega)
             simp only [iteO_true, p0, bindO_some, copied1020 N cs _ (by omega) (by omega), q0, n4, p1, q1]
             cases b0 <;> exact ⟨_, rfl, rfl⟩
         · have e2 : ((d.derivKids.length : Int) == 2) = false := beq_eq_false_iff_ne.2 (by omega)
           simp only [e2, iteO_false]
           exact ⟨_, rfl, rfl⟩
     | false =>
       simp only [F1387_f1, F1018_f1, hsp, iteO_false]
       cases k <;> cases hA : ((d.derivKids.length : Int) == 0) <;> cases hB : ((d.derivForm.linMonos.length : Int) == 0) <;> cases hC : (d.derivForm.linConst == 0) <;> exact ⟨_, rfl, rfl⟩
   · rintro x l ⟨cs, k⟩ i ⟨hcs, hlen, hmem⟩
     simp only [List.length_cons] at hcs hlen
     have hx := hmem x (by simp)
     have hxl := sum_mem (f := fun s : List Mult => s.length + 1) hx
     have hcl2 : cs.length ≤ 6000 := by omega
     rcases step_same N hNr pool hpl cs x hcs (by omega) (hdo.i64 x hx) with ⟨c, e, f1, f2, f3⟩ | ⟨c, f1, f2, f3, f4⟩
     · have e0 : (e == 0) = false := beq_eq_false_iff_ne.2 f2
       refine .inr ⟨false, ?_, ?_⟩
       · simp only [F1387_s1, step1388, f1, bindO_some, e0, iteO_false]
       · rcases f3 with f3 | ⟨f3, c', f5⟩
         · simp only [F1018_s1, f3, bindO_some, iteO_false]
         · simp only [F1018_s1, f3, f5, bindO_some, iteO_true, iteO_false]
     · obtain ⟨b, g1, g2⟩ := contra_same N c hNr f4.good
       have hI : ∀ k', (∀ c' ∈ ((cs ++ [c], k') : List Con × Bool).1, OkCon pool c') ∧ ((cs ++ [c], k') : List Con × Bool).1.length + l.length ≤ cons.length + d.derivSteps.length ∧ ∀ x ∈ l, x ∈ d.derivSteps := fun k' => ⟨fun c' hx => by
           rcases List.mem_append.1 hx with hx | hx
           · exact hcs c' hx
           · rw [List.mem_singleton.1 hx]; exact f4, by simp only [List.length_append, List.length_cons, List.length_nil]; omega, fun y hy => hmem y (by simp [hy])⟩
       cases k with
       | true =>
         refine .inl ⟨(cs ++ [c], true), ?_, ?_, hI true⟩
         · simp only [F1387_s1, step1388, f1, bindO_some, beq_self_eq_true, iteO_true, fits40 (n := cs.length) (by omega)]
         · simp only [F1018_s1, f2, f3, bindO_some, iteO_true, copied1020 N cs c (by omega) (by omega)]
       | false =>
         refine .inl ⟨(cs ++ [c], b), ?_, ?_, hI b⟩
         · simp only [F1387_s1, step1388, f1, bindO_some, beq_self_eq_true, iteO_true, iteO_false, g1, fits40 (n := cs.length) (by omega)]
         · simp only [F1018_s1, f2, f3, bindO_some, iteO_true, iteO_false, g2, copied1020 N cs c (by omega) (by omega)]
end Go.Abs.Try
namespace Go.Abs.Try
set_option maxRecDepth 100000
mutual
def poolD : Deriv → List Node
  | ⟨_, _, f, ks⟩ => f.linMonos.map (·.monoAtom) ++ poolL ks
def poolL : List Deriv → List Node
  | [] => []
  | k :: ks => poolD k ++ poolL ks
end
theorem poolD_eq (d : Deriv) : poolD d = d.derivForm.linMonos.map (·.monoAtom) ++ poolL d.derivKids := by cases d; simp only [poolD]
mutual
theorem poolD_len : ∀ d : Deriv, (poolD d).length ≤ wgt d
  | ⟨_, _, f, ks⟩ => by
    have := poolL_len ks
    simp only [poolD, wgt, List.length_append, List.length_map]; omega
theorem poolL_len : ∀ l : List Deriv, (poolL l).length ≤ wgtL l
  | [] => by simp [poolL]
  | k :: ks => by
    have h1 := poolD_len k
    have h2 := poolL_len ks
    simp only [poolL, wgtL, List.length_append]; omega
end
theorem poolL_mem {k : Deriv} {a : Node} (ha : a ∈ poolD k) : ∀ {l : List Deriv}, k ∈ l → a ∈ poolL l
 | x :: l, h => by
   simp only [poolL, List.mem_append]
   rcases List.mem_cons.1 h with rfl | h
   · exact .inl ha
   · exact .inr (poolL_mem ha h)
structure DIn (d : Deriv) : Prop where
 good : Good d.derivForm
 i64 : ∀ s ∈ d.derivSteps, ∀ m ∈ s, I64 m.multCoef
theorem her_pool {pool : List Node} {d : Deriv} (h : Her DIn d) : (∀ a ∈ poolD d, a ∈ pool) → Her (DOk pool) d := by
 induction h with
 | mk d h hk ih =>
   intro hp
   rw [poolD_eq] at hp
   exact .mk d ⟨h.good, fun m hm => hp _ (by simp only [List.mem_append, List.mem_map]; exact .inl ⟨m, hm, rfl⟩), h.i64⟩ fun k hk' => ih k hk' fun a ha => hp a (by simp only [List.mem_append]; exact .inr (poolL_mem ha hk'))
theorem her_good {d : Deriv} (h : Her DIn d) : Her (fun d => Good d.derivForm) d := by
 induction h with
 | mk d h hk ih => exact .mk d h.good ih
mutual
theorem ht_wgt : ∀ d : Deriv, ht d ≤ wgt d + 1
  | ⟨_, _, f, ks⟩ => by have := htL_wgt ks; simp only [ht, wgt]; omega
theorem htL_wgt : ∀ l : List Deriv, htL l ≤ wgtL l
  | [] => by simp [htL]
  | k :: ks => by have h1 := ht_wgt k; have h2 := htL_wgt ks; simp only [htL, wgtL]; omega
end
theorem lawRf (cons : List Con) (d : Deriv) (hg : ∀ c ∈ cons, Good c.conForm) (hlc : cons.length ≤ 1048576) (hsum : (cons.map fun c => c.conForm.linMonos.length).sum ≤ 1048576) (hd : Her DIn d) (hw : wgt d ≤ 1048576) : F1001 big cons d = some true := by
 have hN : 4611686018400000000 ≤ big ∧ big ≤ 4611686018427387904 := by decide
 have ha : F26 big = some true := awake26 4611686018427387874
 have hht := ht_wgt d
 have h3 := forms1003 big hN cons hlc
 obtain ⟨b, hb, hb2⟩ := lightS big hN (cons.map (·.conForm)) big 0 0 (by simp; omega) (fun f hf => by obtain ⟨c, hc, rfl⟩ := List.mem_map.1 hf; exact hg c hc) (by rw [List.map_map]; simp only [Function.comp_def]; omega)
 have hb : F32 big (cons.map (·.conForm)) = some b := hb
 have hbig : big = 4611686018427387904 := rfl
 have h6 := wgt1006 big d (by omega) (by omega)
 obtain ⟨ba, h7⟩ := atoms1007 big d (her_good hd) hw (by omega)
 simp only [F1001, ha, h3, hb, bindO_some, iteO_true]
 cases b with
 | false => rfl
 | true =>
   simp only [iteO_true]
   have h40 := hb2 rfl
   rw [List.map_map] at h40
   simp only [Function.comp_def] at h40
   by_cases c60 : (cons.length : Int) > 60
   · rw [decide_eq_true c60]; rfl
   · rw [decide_eq_false c60, iteO_false, h6, bindO_some]
     by_cases w300 : (wgt d : Int) > 300
     · rw [decide_eq_true w300]; rfl
     · rw [decide_eq_false w300, iteO_false, h7, bindO_some]
       cases ba with
       | false => rfl
       | true =>
         simp only [iteO_true]
         have key : ∃ r, F1008 big cons d = some r ∧ F1009 big cons d = some r := by
           have c2000 : decide ((cons.length : Int) > 2000) = false := decide_eq_false (by omega)
           have go4 : F1008 big cons d = bif cons.all validC then F1008_f1 big cons d () else some (false, 3) := by
             unfold F1008
             rw [c2000, iteO_false]
             exact foldN_all (step := F1008_s1 big) (fin := F1008_f1 big cons d) validC (false, 3) cons big 0 (by omega) fun c hc i => by
               simp only [F1008_s1, valid107 big c hN (hg c hc), bindO_some]
               cases validC c <;> rfl
           have rf5 : F1011 big cons = some (cons.all validC) := by
             have : F1011 big cons = bif cons.all validC then F1011_f1 () else some false := by
               unfold F1011
               exact foldN_all (step := F1011_s1 big) (fin := F1011_f1) validC false cons big 0 (by omega) fun c hc i => by
                 simp only [F1011_s1, valid109 big c hN (hg c hc), bindO_some]
                 cases validC c <;> rfl
             rw [this]
             cases cons.all validC <;> rfl
           simp only [go4, F1009, c2000, rf5, bindO_some, iteO_false]
           cases hv : cons.all validC with
           | false => exact ⟨_, rfl, rfl⟩
           | true =>
             have hval : ∀ c ∈ cons, validC c = true := fun c hc => List.all_eq_true.1 hv c hc
             obtain ⟨c1, q1, e1, e2, e3, e4⟩ := weight1014 big d 1 (by omega) (by omega) (by omega)
             obtain ⟨c2, e5, e6⟩ := count1016 big d (by omega) (by omega)
             have e7 := deep1017 big d (by omega) (by omega) (by omega)
             have d1 : decide ((c1 : Int) > 2000) = false := decide_eq_false (by omega)
             have d2 : decide ((c2 : Int) > 2000) = false := decide_eq_false (by omega)
             have e1 : F1014 big d 1 = some ((c1 : Int), (q1 : Int)) := e1
             simp only [cond_true, iteO_true, F1008_f1, e1, e5, e7, bindO_some, d1, d2, iteO_false]
             by_cases hq : ht d ≤ 60
             · have d3 : decide ((q1 : Int) > 60) = false := decide_eq_false fun h => by have := e3.1 (by omega); omega
               have d4 : decide ((ht d : Int) > 60) = false := decide_eq_false (by omega)
               obtain ⟨r, r1, r2⟩ := refutes_same big d cons (cons.flatMap (fun c => c.conForm.linMonos.map (·.monoAtom)) ++ poolD d) (her_pool hd fun a ha => by simp [ha]) (by omega) (by omega) (by
                   have h1 := poolD_len d
                   have h2 : ∀ l : List Con, (l.flatMap (fun c => c.conForm.linMonos.map (·.monoAtom))).length ≤ (l.map fun c => c.conForm.linMonos.length).sum := by
                     intro l
                     induction l with
                     | nil => simp
                     | cons x l ih => simp only [List.flatMap_cons, List.length_append, List.length_map, List.map_cons, List.sum_cons]; omega
                   have := h2 cons
                   rw [List.length_append]; omega) (fun c hc => ⟨hg c hc, hval c hc, fun m hm => by
                     simp only [List.mem_append, List.mem_flatMap, List.mem_map]
                     exact .inl ⟨c, hc, m, hm, rfl⟩⟩) (by omega)
               simp only [d3, d4, iteO_false, inS_all, iteO_true, cut_all, r1, r2, bindO_some]
               exact ⟨_, rfl, rfl⟩
             · have d3 : decide ((q1 : Int) > 60) = true := decide_eq_true (by have := e3.2 (by omega); omega)
               have d4 : decide ((ht d : Int) > 60) = true := decide_eq_true (by omega)
               simp only [d3, d4, iteO_true]
               exact ⟨_, rfl, rfl⟩
         obtain ⟨r, k1, k2⟩ := key
         simp only [k1, k2, bindO_some, beq_self_eq_true, iteO_true]
end Go.Abs.Try
