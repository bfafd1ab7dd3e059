import Derived.Test.YthgibjeclmkbpaaDP13toDMr3
set_option linter.unusedSimpArgs false
set_option linter.unusedVariables false
namespace Go.Abs.Try
set_option maxRecDepth 100000
theorem lev_make (self : Node → Option Int) (b : Int) (hb : b ≤ 1048576) : ∀ (ks : List Node) (M i : Nat) (s : Int), ks.length < M → 0 ≤ s → s < b → (∀ y ∈ ks, ∃ j, self y = some j ∧ 0 ≤ j ∧ j < b) → ∃ r, foldN (F39_s1 self) F39_f1 M ks i s = some r ∧ r ≤ b
 | [], M, i, s, hM, h0, h1, _ => by
   obtain ⟨K, rfl⟩ : ∃ K, M = K + 1 := ⟨M - 1, by simp at hM; omega⟩
   exact ⟨IntKind.i64.wrap (s + 1), rfl, by rw [wrap_id (by omega)]; omega⟩
 | y :: ks, M, i, s, hM, h0, h1, hk => by
   obtain ⟨K, rfl⟩ : ∃ K, M = K + 1 := ⟨M - 1, by simp at hM; omega⟩
   simp only [List.length_cons] at hM
   obtain ⟨j, hj, j0, j1⟩ := hk y (by simp)
   obtain ⟨r, hr, hrb⟩ := lev_make self b hb ks K (i + 1) (max s j) (by omega) (by omega) (by omega) (fun z hz => hk z (by simp [hz]))
   refine ⟨r, ?_, hrb⟩
   simp only [foldN, F39_s1, hj, bindO_some]
   exact hr
theorem lev_kid {n y : Node} {jp j : Int} (hz : n.size ≤ 4000) (h : F39 loN n = some jp) (hy : y ∈ n.kids) (hj : F39 loN y = some j) : j < jp := by
 have hlo : loN = 4611686018400000000 := rfl
 have h6 := lev_up n jp h (loN + 1) (by omega)
 have h6 : foldN (F39_s1 (F39 loN)) F39_f1 loN n.kids 0 0 = some jp := h6
 obtain ⟨_, g⟩ := lev_fold (F39 loN) n.kids loN 0 0 jp h6 (fun x hx => by
   have := kids_size hx
   obtain ⟨i, hi, i0, i1⟩ := levels39 loN x (by omega) (by omega)
   exact ⟨i, hi, i0, by omega⟩) (by omega) (by omega)
 obtain ⟨i, hi, hij⟩ := g y hy
 rw [hj] at hi
 injection hi with hi
 omega
theorem hol_sub {n k : Node} (h : hol n = false) (hk : k ∈ n.kids) : hol k = false := by
 unfold hol at h ⊢
 rw [List.any_eq_false] at h ⊢
 exact fun x hx => h x (nodes_sub hk hx)
theorem hol_mk {k : Int} {ks : List Node} (hk : (k == 42) = false) (h : ∀ y ∈ ks, hol y = false) : hol (nd k ks) = false := by
 unfold hol
 rw [nodes_eq, List.any_cons, nd_op, hk, Bool.false_or, List.any_eq_false]
 intro x hx
 obtain ⟨y, hy, hxy⟩ : ∃ y ∈ ks, x ∈ nodes y := by
   rw [nd_kids] at hx
   clear h
   induction ks with
   | nil => cases hx
   | cons a l ih =>
     rw [nodesL] at hx
     rcases List.mem_append.1 hx with hx | hx
     · exact ⟨a, by simp, hx⟩
     · obtain ⟨y, hy, h⟩ := ih hx
       exact ⟨y, by simp [hy], h⟩
 have := h y hy
 unfold hol at this
 exact List.any_eq_false.1 this x hxy
theorem mem_nodesL' {x : Node} : ∀ {ks : List Node}, x ∈ nodesL ks → ∃ y ∈ ks, x ∈ nodes y
 | [], h => by cases h
 | a :: l, h => by
   rw [nodesL] at h
   rcases List.mem_append.1 h with h | h
   · exact ⟨a, by simp, h⟩
   · obtain ⟨y, hy, h⟩ := mem_nodesL' h
     exact ⟨y, by simp [hy], h⟩
theorem ck_nd {p : Node} (hp : CK p) {k : Int} {ks : List Node} (ho : ownA (nd k ks) = true) (hsh : shapeB k (ks.map sortS) = true) (hv : valN (nd k ks) = none) (hz : (nd k ks).size ≤ p.size) (hin : ∀ y ∈ ks, sortedR y = true ∧ (∀ z ∈ nodes y, z ∈ nodes p) ∧ ∀ j jp, F39 loN y = some j → F39 loN p = some jp → j < jp) : CK (nd k ks) := by
 have hlo : loN = 4611686018400000000 := rfl
 obtain ⟨h1, h2, h3, jp, h4, h5⟩ := hp
 refine ⟨by omega, ?_, ?_, ?_⟩
 · rw [sortedR_eq, Bool.and_eq_true, nodeB, Bool.and_eq_true]
   exact ⟨⟨ho, hsh⟩, by rw [nd_kids]; exact List.all_eq_true.2 fun y hy => (hin y hy).1⟩
 · have sub : ∀ x ∈ nodes (nd k ks), ∀ v, valN x = some v → x ∈ nodes p := fun x hx v hxv => by
     rw [nodes_eq] at hx
     rcases List.mem_cons.1 hx with rfl | hx
     · rw [hv] at hxv; cases hxv
     · obtain ⟨y, hy, hxy⟩ := mem_nodesL' hx
       exact (hin y hy).2.1 x hxy
   exact fun x hx y hy v w a b c => h3 x (sub x hx v a) y (sub y hy w b) v w a b c
 · have hl := kids_len (nd k ks)
   rw [nd_kids] at hl
   obtain ⟨K, hK⟩ : ∃ K, loN = K + 1 := ⟨loN - 1, by omega⟩
   have hks : ∀ y ∈ ks, ∃ j, F39 K y = some j ∧ 0 ≤ j ∧ j < jp := fun y hy => by
     have hys : y.size ≤ (nd k ks).size := by have := kids_size (n := nd k ks) hy; omega
     obtain ⟨j, hj, j0, _⟩ := levels39 K y (by omega) (by omega)
     have hj2 : F39 loN y = some j := mF39 (by omega) y j hj
     exact ⟨j, hj, j0, (hin y hy).2.2 j jp hj2 h5⟩
   have hpos : 0 < jp := by
     rw [hK] at h5
     have h5 : foldN (F39_s1 (F39 K)) F39_f1 K p.kids 0 0 = some jp := h5
     obtain ⟨g, _⟩ := lev_fold (F39 K) p.kids K 0 0 jp h5 (fun x hx => by
       have := kids_size hx
       obtain ⟨i, hi, i0, i1⟩ := levels39 K x (by omega) (by omega)
       exact ⟨i, hi, i0, by omega⟩) (by omega) (by omega)
     exact g
   obtain ⟨r, hr, hrb⟩ := lev_make (F39 K) jp (by omega) ks K 0 0 (by omega) (by omega) hpos hks
   exact ⟨r, by omega, by rw [hK]; exact hr⟩
theorem num_is {v : Val} (h : VV v) (h1 : v.valSort = 1) : v = numV v.valNum := by
 have a := h.ns (by omega)
 have b := h.na (by omega)
 have c := h.to.1
 obtain ⟨s, n, x, y, z⟩ := v
 simp only at a b c h1
 subst a b h1
 have c : z = [] := List.eq_nil_of_length_eq_zero c
 subst c
 rfl
theorem numV_small (x : Int) : VSmall (numV x) := ⟨Nat.zero_le _, Nat.zero_le _, Nat.zero_le _⟩
theorem own_nd (k : Int) (ks : List Node) (h1 : (k == 1) = false) (h2 : (k == 2) = false) (h3 : (k == 3) = false) (h7 : (k == 7) = false) (h42 : (k == 42) = false) : ownA (nd k ks) = true := by
 simp only [ownA, ownB, F118, nd_op, nd_name, nd_sort, nd_num, beq_self_eq_true, iteO_true, iteO_false, h1, h2, h3, h7, h42, Option.getD_some]
theorem own_14 (ks : List Node) : ownA (nd 14 ks) = true := own_nd 14 ks rfl rfl rfl rfl rfl
theorem own_16 (ks : List Node) : ownA (nd 16 ks) = true := own_nd 16 ks rfl rfl rfl rfl rfl
theorem lawMt (a i j x : Node) (m : List Entry) (hz : a.size + i.size + j.size + x.size ≤ 1048576) (hm : MSmall m) : F1026 4611686018427387904 a i j x m = some true := by
 obtain ⟨N, hNe⟩ : ∃ N : Nat, N = 4611686018427387904 := ⟨_, rfl⟩
 have ha : F1027 N = some true := by rw [hNe]; exact awake1027 4611686018427387874
 have hlo : loN = 4611686018400000000 := rfl
 have hhi : hiN = 4611686018427387904 := rfl
 have hN : loN ≤ N ∧ N ≤ hiN := by omega
 rw [← hNe]
 unfold F1026
 simp only [nd_mk]
 have atz : (nd 14 [nd 15 [a, i, x], j]).size = 2 + a.size + i.size + x.size + j.size := by
   simp only [nd_size, List.map_cons, List.map_nil, List.sum_cons, List.sum_nil]; omega
 rw [ha, bindO_some, iteO_true, sort28 N a (by omega), bindO_some]
 by_cases sa : sortS a = 5
 case neg => rw [beq_eq_false_iff_ne.2 sa, iteO_false]
 rw [beq_iff_eq.2 sa, iteO_true, sort28 N i (by omega), bindO_some]
 by_cases si : sortS i = 1
 case neg => rw [beq_eq_false_iff_ne.2 si, iteO_false]
 rw [beq_iff_eq.2 si, iteO_true, sort28 N j (by omega), bindO_some]
 by_cases sj : sortS j = 1
 case neg => rw [beq_eq_false_iff_ne.2 sj, iteO_false]
 rw [beq_iff_eq.2 sj, iteO_true, sort28 N x (by omega), bindO_some]
 by_cases sx : sortS x = 1
 case neg => rw [beq_eq_false_iff_ne.2 sx, iteO_false]
 rw [beq_iff_eq.2 sx, iteO_true]
 obtain ⟨b, hb, hbl⟩ := short_1028 N (by omega) m (fun e h => hm.args e h) hm.len
 rw [hb, bindO_some]
 cases b with
 | false => rfl
 | true =>
 rw [iteO_true, size27 N (nd 14 [nd 15 [a, i, x], j]) (by omega) (by omega), bindO_some]
 by_cases h240 : (nd 14 [nd 15 [a, i, x], j]).size ≤ 240
 case neg => rw [decide_eq_true (by omega), iteO_true]
 rw [decide_eq_false (by omega), iteO_false]
 obtain ⟨r, e1, s1, v1⟩ := val29 N hN (nd 14 [nd 15 [a, i, x], j]) m hm (by omega)
 obtain ⟨p, e2, s2, v2⟩ := val29 N hN i m hm (by omega)
 obtain ⟨q, e3, s3, v3⟩ := val29 N hN j m hm (by omega)
 rw [e1, bindO_some, e2, bindO_some, e3, bindO_some]
 by_cases r0 : r.2 = 0
 case neg => rw [beq_eq_false_iff_ne.2 r0, iteO_false]
 by_cases p0 : p.2 = 0
 case neg => rw [beq_iff_eq.2 r0, iteO_true, beq_eq_false_iff_ne.2 p0, iteO_false]
 by_cases q0 : q.2 = 0
 case neg => rw [beq_iff_eq.2 r0, iteO_true, beq_iff_eq.2 p0, iteO_true, beq_eq_false_iff_ne.2 q0, iteO_false]
 rw [beq_iff_eq.2 r0, iteO_true, beq_iff_eq.2 p0, iteO_true, beq_iff_eq.2 q0, iteO_true]
 have v1 := v1 r0
 have v2 := v2 p0
 have v3 := v3 q0
 have hv := v1.mod
 have hmv := vv_of126 N (by omega) m hm hv
 -- the parts
 have ca := v1.ck
 have cs : CK (nd 15 [a, i, x]) := ck_kid ca (by simp [nd_kids])
 have cx : CK x := ck_kid cs (by simp [nd_kids])
 have cA : CK a := ck_kid cs (by simp [nd_kids])
 have hs := hol_sub v1.hole (k := nd 15 [a, i, x]) (by simp [nd_kids])
 have hj := hol_sub v1.hole (k := j) (by simp [nd_kids])
 have hA := hol_sub hs (k := a) (by simp [nd_kids])
 have hx := hol_sub hs (k := x) (by simp [nd_kids])
 have okat : (evalR m (nd 14 [nd 15 [a, i, x], j])).2 = true := by rw [v1.ev]
 have k1 := ev_kids okat
 have oks : (evalR m (nd 15 [a, i, x])).2 = true := k1 _ (by simp [nd_kids])
 have k2 := ev_kids oks
 have okA : (evalR m a).2 = true := k2 _ (by simp [nd_kids])
 have okx : (evalR m x).2 = true := k2 _ (by simp [nd_kids])
 have okj : (evalR m j).2 = true := by rw [v3.ev]
 have VA := eval_vv m hmv (a.size + 1) a (by omega) cA.ord okA
 have VX := eval_vv m hmv (x.size + 1) x (by omega) cx.ord okx
 have es : evalR m (nd 15 [a, i, x]) = (storedV (evalR m a).1 p.1.valNum (evalR m x).1.valNum, decide (((storedV (evalR m a).1 p.1.valNum (evalR m x).1.valNum).valAt.length : Int) ≤ 200)) := by
   rw [ev_nd rfl (by rw [nd_kids] at k2; exact k2)]
   have : (evalR m i).1 = p.1 := by rw [v2.ev]
   rw [← this]; rfl
 have eat : evalR m (nd 14 [nd 15 [a, i, x], j]) = (numV (atV (storedV (evalR m a).1 p.1.valNum (evalR m x).1.valNum) q.1.valNum), fitsG (atV (storedV (evalR m a).1 p.1.valNum (evalR m x).1.valNum) q.1.valNum)) := by
   rw [ev_nd rfl (by rw [nd_kids] at k1; exact k1)]
   have h1 : (evalR m j).1 = q.1 := by rw [v3.ev]
   have h2 := congrArg Prod.fst es
   simp only at h2
   rw [← h1, ← h2]; rfl
 rw [stored_at] at eat
 have esel : evalR m (nd 14 [a, j]) = (numV (atV (evalR m a).1 q.1.valNum), fitsG (atV (evalR m a).1 q.1.valNum)) := by
   rw [ev_nd rfl (by intro y hy; simp only [List.mem_cons, List.not_mem_nil, or_false] at hy; rcases hy with rfl | rfl <;> assumption)]
   have h1 : (evalR m j).1 = q.1 := by rw [v3.ev]
   rw [← h1]; rfl
 have elens : evalR m (nd 16 [nd 15 [a, i, x]]) = (numV (evalR m a).1.valNum, fitsG (evalR m a).1.valNum) := by
   rw [ev_nd rfl (by intro y hy; rw [List.mem_singleton] at hy; rw [hy]; exact oks)]
   have h2 := congrArg Prod.fst es
   simp only at h2
   have h3 : (evalR m (nd 15 [a, i, x])).1.valNum = (evalR m a).1.valNum := by rw [h2]; rfl
   rw [← h3]; rfl
 have elena : evalR m (nd 16 [a]) = (numV (evalR m a).1.valNum, fitsG (evalR m a).1.valNum) := by
   rw [ev_nd rfl (by intro y hy; rw [List.mem_singleton] at hy; rw [hy]; exact okA)]; rfl
 have hfa := VA.1.num
 have sub1 : ∀ z ∈ nodes (nd 15 [a, i, x]), z ∈ nodes (nd 14 [nd 15 [a, i, x], j]) := fun z h => nodes_sub (by simp [nd_kids]) h
 have subA : ∀ z ∈ nodes a, z ∈ nodes (nd 14 [nd 15 [a, i, x], j]) := fun z h => sub1 z (nodes_sub (by simp [nd_kids]) h)
 have levA : ∀ u w, F39 loN a = some u → F39 loN (nd 14 [nd 15 [a, i, x], j]) = some w → u < w := fun u w hu hw => by
   obtain ⟨g, _, hg⟩ := cs.lev
   have h1 := lev_kid (n := nd 15 [a, i, x]) cs.size hg (y := a) (by simp [nd_kids]) hu
   have h2 := lev_kid (n := nd 14 [nd 15 [a, i, x], j]) ca.size hw (y := nd 15 [a, i, x]) (by simp [nd_kids]) hg
   omega
 have pA := And.intro cA.ord (And.intro subA levA)
 have clens : CK (nd 16 [nd 15 [a, i, x]]) := ck_nd ca (own_16 _) (by show shapeB 16 [5] = true; rfl) rfl (by rw [atz]; simp only [nd_size, List.map_cons, List.map_nil, List.sum_cons, List.sum_nil]; have := size_pos j; omega) (by
   intro y hy; rw [List.mem_singleton] at hy; subst hy
   exact ⟨cs.ord, sub1, fun u w hu hw => lev_kid (n := nd 14 [nd 15 [a, i, x], j]) ca.size hw (y := nd 15 [a, i, x]) (by simp [nd_kids]) hu⟩)
 have clena : CK (nd 16 [a]) := ck_nd ca (own_16 _) (by show shapeB 16 [sortS a] = true; rw [sa]; rfl) rfl (by rw [atz]; simp only [nd_size, List.map_cons, List.map_nil, List.sum_cons, List.sum_nil]; omega) (by
   intro y hy; rw [List.mem_singleton] at hy; subst hy; exact pA)
 have f1 := val_to N hN (nd 16 [nd 15 [a, i, x]]) m hm clens (hol_mk rfl (by intro y hy; rw [List.mem_singleton] at hy; rw [hy]; exact hs)) hv (by rw [elens]; exact hfa)
 have f2 := val_to N hN (nd 16 [a]) m hm clena (hol_mk rfl (by intro y hy; rw [List.mem_singleton] at hy; rw [hy]; exact hA)) hv (by rw [elena]; exact hfa)
 rw [elens] at f1
 rw [elena] at f2
 have z0 : ((0 : Int) == 0) = true := rfl
 by_cases hpq : q.1.valNum = p.1.valNum
 · rw [hpq, beq_self_eq_true, iteO_true]
   rw [if_pos hpq] at eat
   have hr : r.1 = numV (evalR m x).1.valNum := by have := v1.ev; rw [eat] at this; exact (Prod.mk.inj this).1.symm
   have hX : (evalR m x).1 = numV (evalR m x).1.valNum := num_is VX.1 (VX.2.trans sx)
   have f3 := val_to N hN x m hm cx hx hv okx
   rw [hX] at f3
   rw [f3, bindO_some, f1, bindO_some, f2, bindO_some, hr]
   simp only [z0, iteO_true, same_self N _ (by omega) (numV_small _), bindO_some]
 · rw [beq_eq_false_iff_ne.2 (fun h => hpq h.symm), iteO_false]
   rw [if_neg hpq] at eat
   have hr := v1.ev
   rw [eat] at hr
   obtain ⟨hr1, hr2⟩ := Prod.mk.inj hr
   have csel : CK (nd 14 [a, j]) := ck_nd ca (own_14 _) (by show shapeB 14 [sortS a, sortS j] = true; rw [sa, sj]; rfl) rfl (by rw [atz]; simp only [nd_size, List.map_cons, List.map_nil, List.sum_cons, List.sum_nil]; omega) (by
     intro y hy
     simp only [List.mem_cons, List.not_mem_nil, or_false] at hy
     rcases hy with rfl | rfl
     · exact pA
     · exact ⟨v3.ck.ord, fun z h => nodes_sub (by simp [nd_kids]) h, fun u w hu hw => lev_kid (n := nd 14 [nd 15 [a, i, x], y]) ca.size hw (y := y) (by simp [nd_kids]) hu⟩)
   have f3 := val_to N hN (nd 14 [a, j]) m hm csel (hol_mk rfl (by intro y hy; simp only [List.mem_cons, List.not_mem_nil, or_false] at hy; rcases hy with rfl | rfl <;> assumption)) hv (by rw [esel]; exact hr2)
   rw [esel] at f3
   rw [f3, bindO_some, f1, bindO_some, f2, bindO_some, ← hr1]
   simp only [z0, iteO_true, same_self N _ (by omega) (numV_small _), bindO_some]
end Go.Abs.Try
