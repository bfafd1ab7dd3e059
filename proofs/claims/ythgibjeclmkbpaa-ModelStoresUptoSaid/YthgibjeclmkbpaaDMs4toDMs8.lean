import Derived.Test.YthgibjeclmkbpaaDWt2toDMs3
import Derived.Test.YthgibjeclmkbpaaDMod2toDVal30
set_option linter.unusedSimpArgs false
set_option linter.unusedVariables false
namespace Go.Abs.Try
set_option maxRecDepth 100000
theorem set9 (N : Nat) (m : List Entry) (st : Bool) (k : List Val) (P : Nat) (good : Prop) : Out P st good (⟨4, 0, [], [], []⟩, true) (F1401 N 9 k m st) := by
 have : F1401 N 9 k m st = iteO st (some ((⟨4, 0, [], [], []⟩ : Val), true)) (some ((⟨4, 0, [], [], []⟩ : Val), false)) := rfl
 rw [this]
 cases st with
 | true => exact ⟨_, _, rfl, wb_set (by simp), fun _ => rfl, fun h => by cases h⟩
 | false => exact ⟨_, _, rfl, wb_set (by simp), (fun h => by cases h), fun _ _ => ⟨rfl, fun _ => rfl⟩⟩
theorem set10 (N : Nat) (m : List Entry) (st : Bool) (k : List Val) (P : Nat) (hP : 1 ≤ P) (good : Prop) (a : Val) (h0 : atO k 0 = some a) : Out P st good (⟨4, 0, [a.valNum], [], []⟩, true) (F1401 N 10 k m st) := by
 have : F1401 N 10 k m st = bindO (atO k 0) fun x1 => iteO st (some ((⟨4, 0, [x1.valNum], [], []⟩ : Val), true)) (some ((⟨4, 0, [x1.valNum], [], []⟩ : Val), false)) := rfl
 rw [this, h0, bindO_some]
 cases st with
 | true => exact ⟨_, _, rfl, wb_set (by simpa using hP), fun _ => rfl, fun h => by cases h⟩
 | false => exact ⟨_, _, rfl, wb_set (by simpa using hP), (fun h => by cases h), fun _ _ => ⟨rfl, fun _ => rfl⟩⟩
theorem set11 (N : Nat) (m : List Entry) (st : Bool) (k : List Val) (P Q : Nat) (good : Prop) (a b : Val) (h0 : atO k 0 = some a) (h1 : atO k 1 = some b) (ha : a.valSet.length ≤ P) (hb : b.valSet.length ≤ Q) (hPQ : P + Q ≤ 2097152) (hg : good → asc a.valSet) :
   Out (P + Q) st good (⟨4, 0, combL 11 a.valSet b.valSet, [], []⟩, decide (((combL 11 a.valSet b.valSet).length : Int) ≤ 200)) (F1401 N 11 k m st) := by
 have : F1401 N 11 k m st = bindO (atO k 0) fun x2 => iteO (fits (x2.valSet.length) 8) (bindO (atO k 1) fun x3 => iteO (fits (x2.valSet.length + x3.valSet.length) 8) (iteO st (some ((⟨4, 0, compF (sortF (x2.valSet ++ x3.valSet)), [], []⟩ : Val), true)) (some ((⟨4, 0, compF (sortF (x2.valSet ++ x3.valSet)), [], []⟩ : Val), decide ((((compF (sortF (x2.valSet ++ x3.valSet))).length : Int)) > 200)))) none) none := rfl
 rw [this, h0, bindO_some, fits8 (by omega), iteO_true, h1, bindO_some, fits8 (by omega), iteO_true]
 have := comp_len (a.valSet ++ b.valSet)
 rw [List.length_append] at this
 exact out_set (by omega) fun h => comb11 b.valSet (hg h)
theorem set12 (N : Nat) (m : List Entry) (st : Bool) (k : List Val) (P Q : Nat) (good : Prop) (a b : Val) (h0 : k[0]? = some a) (h1 : k[1]? = some b) (ha : a.valSet.length ≤ P) (hb : b.valSet.length ≤ Q) (hPQ : P + Q ≤ 2097152) (hN : 4194304 < N) (hg : good → asc b.valSet) :
   Out (P + Q) st good (⟨4, 0, combL 12 a.valSet b.valSet, [], []⟩, decide (((combL 12 a.valSet b.valSet).length : Int) ≤ 200)) (F1401 N 12 k m st) := by
 have : F1401 N 12 k m st = bindO (atO k 0) fun x4 => foldN (S := List Int) (F1401_s1 N k) (F1401_f1 st) N x4.valSet 0 [] := rfl
 rw [this, show atO k 0 = some a from atO_lit (i := 0) rfl h0, bindO_some]
 obtain ⟨f, hf, hfold⟩ := cap_fold N k b h1 (by omega) (by omega) (F1401_f1 st)
 rw [hfold a.valSet N 0 [] (by omega) (by simp; omega), List.nil_append]
 have hl := List.length_filter_le f a.valSet
 refine out_set (by omega) fun h => ?_
 rw [comb12]
 exact List.filter_congr fun x _ => hf (hg h) x
theorem set13 (N : Nat) (m : List Entry) (st : Bool) (k : List Val) (P Q : Nat) (good : Prop) (a b : Val) (h0 : k[0]? = some a) (h1 : k[1]? = some b) (ha : a.valSet.length ≤ P) (hb : b.valSet.length ≤ Q) (hPQ : P + Q ≤ 2097152) (hN : 4194304 < N) (hg : good → asc b.valSet) :
   Out (P + Q) st good (⟨4, 0, combL 13 a.valSet b.valSet, [], []⟩, decide (((combL 13 a.valSet b.valSet).length : Int) ≤ 200)) (F1401 N 13 k m st) := by
 have : F1401 N 13 k m st = bindO (atO k 0) fun x4 => foldN (S := List Int) (F1401_s2 N k) (F1401_f2 st) N x4.valSet 0 [] := rfl
 rw [this, show atO k 0 = some a from atO_lit (i := 0) rfl h0, bindO_some]
 obtain ⟨f, hf, hfold⟩ := minus_fold N k b h1 (by omega) (by omega) (F1401_f2 st)
 rw [hfold a.valSet N 0 [] (by omega) (by simp; omega), List.nil_append]
 have hl := List.length_filter_le f a.valSet
 refine out_set (by omega) fun h => ?_
 rw [comb13]
 exact List.filter_congr fun x _ => hf (hg h) x
theorem atZ_mid {i x j : Int} : ∀ {l1 r1 l2 r2 : List Int}, r1.length = l1.length → i ∉ l1 → atZ j (l1 ++ i :: l2) (r1 ++ x :: r2) = if j = i then x else atZ j (l1 ++ l2) (r1 ++ r2)
 | [], [], l2, r2, _, _ => by
   rw [List.nil_append, List.nil_append, List.nil_append, List.nil_append, atZ]
   by_cases h : j = i
   · subst h; rw [beq_self_eq_true, cond_true, if_pos rfl]
   · rw [beq_eq_false_iff_ne.2 (Ne.symm h), cond_false, if_neg h]
 | [], _ :: _, _, _, h, _ => by simp at h
 | _ :: _, [], _, _, h, _ => by simp at h
 | a :: l1, b :: r1, l2, r2, h, hi => by
   have ih := atZ_mid (i := i) (x := x) (j := j) (l1 := l1) (r1 := r1) (l2 := l2) (r2 := r2) (by simpa using h) fun h => hi (by simp [h])
   simp only [List.cons_append]
   rw [atZ, ih, atZ]
   by_cases hj : j = i
   · subst hj
     have : (a == j) = false := beq_eq_false_iff_ne.2 fun e => hi (by simp [e])
     rw [this, cond_false, if_pos rfl, if_pos rfl]
   · rw [if_neg hj, if_neg hj]
theorem storeL_at (v : Val) (i x j : Int) : ∀ L : List Int, atZ j (storeL v i x L).1 (storeL v i x L).2 = if j ∈ L then (bif j == i then x else atV v j) else 0
 | [] => by simp [storeL, atZ]
 | k :: L => by
   have ih := storeL_at v i x j L
   rw [storeL]
   by_cases hk : k = j
   · subst hk
     rw [if_pos (by simp)]
     cases hn : (bif k == i then x else atV v k) == 0 with
     | true =>
       simp only [hn, cond_true]
       rw [ih]
       have := beq_iff_eq.1 hn
       split
       · rfl
       · exact this.symm
     | false =>
       simp only [hn, cond_false]
       rw [atZ, beq_self_eq_true, cond_true]
   · have e : (j ∈ k :: L) ↔ j ∈ L := by rw [List.mem_cons]; exact ⟨fun h => h.resolve_left (Ne.symm hk), .inr⟩
     simp only [e]
     rw [← ih]
     cases (bif k == i then x else atV v k) == 0 with
     | true => simp only [cond_true]
     | false =>
       simp only [cond_false]
       rw [atZ, beq_eq_false_iff_ne.2 hk, cond_false]
theorem insU_mem {l : List Int} {n x : Int} : x ∈ insU l n ↔ x ∈ l ∨ x = n := by
 unfold insU
 cases hh : hasL l n with
 | true =>
   rw [cond_true]
   exact ⟨.inl, fun h => h.elim id fun e => by rw [e]; exact hasL_iff.1 hh⟩
 | false => rw [cond_false, insL_mem]; exact or_comm
theorem stored_at (v : Val) (i x j : Int) : atV (storedV v i x) j = if j = i then x else atV v j := by
 show atZ j (storeL v i x (insU v.valAt i)).1 (storeL v i x (insU v.valAt i)).2 = _
 rw [storeL_at]
 by_cases h : j = i
 · subst h
   rw [if_pos (insU_mem.2 (.inr rfl)), beq_self_eq_true, cond_true, if_pos rfl]
 · rw [if_neg h]
   by_cases h2 : j ∈ v.valAt
   · rw [if_pos (insU_mem.2 (.inl h2)), beq_eq_false_iff_ne.2 h, cond_false]
   · rw [if_neg fun h3 => (insU_mem.1 h3).elim h2 h]
     exact (atZ_out h2).symm
theorem split_at {α : Type} (l : List α) (p : Nat) (x : α) (h : l[p]? = some x) : l = l.take p ++ x :: l.drop (p + 1) := by
 obtain ⟨h1, h2⟩ := List.getElem?_eq_some_iff.1 h
 rw [← h2, ← List.drop_eq_getElem_cons h1, List.take_append_drop]
structure Put (v u : Val) (i x : Int) : Prop where
 arr : Arr u
 sort : u.valSort = v.valSort
 num : u.valNum = v.valNum
 at_ : ∀ j, atV u j = if j = i then x else atV v j
theorem put_stored {v u : Val} {i x : Int} (hv : Arr v) (h5 : v.valSort = 5) (hx : fitsG x = true) (h : Put v u i x) : u = storedV v i x :=
 arr_same h.arr ((stored_vg hv i x hx).2.2 rfl) (h.sort.trans h5) h.num fun j _ => (h.at_ j).trans (stored_at v i x j).symm
theorem get1041 (N : Nat) (v : Val) (i : Int) (hN : v.valAt.length < N) (hl : v.valAt.length ≤ 4194304) (ht : v.valTo.length = v.valAt.length) : ∃ x, F1041 N v i = some x ∧ (asc v.valAt → x = atV v i) := by
 obtain ⟨p, b, hb, hs⟩ := bin1053 N v.valAt i hN hl
 unfold F1041
 rw [hb, bindO_some]
 cases b with
 | false =>
   refine ⟨0, rfl, fun ha => ?_⟩
   have := hs.mem ha
   exact (atZ_out (hasL_not this.symm)).symm
 | true =>
   have hp := hs.hit rfl
   have hlt := (List.getElem?_eq_some_iff.1 hp).1
   obtain ⟨y, hto⟩ : ∃ y, v.valTo[p]? = some y := ⟨_, List.getElem?_eq_getElem (by omega)⟩
   simp only [iteO_true, atO_get hto, bindO_some]
   refine ⟨_, rfl, fun ha => ?_⟩
   unfold atV
   have e1 := split_at v.valAt p i hp
   have e2 := split_at v.valTo p _ hto
   have hni : i ∉ v.valAt.take p := fun h => by
     obtain ⟨k, hk, e⟩ := List.mem_take_iff_getElem.1 h
     have := hs.low ha k i (by rw [List.getElem?_eq_getElem (by omega)]; exact congrArg some e) (by omega)
     omega
   rw [e1, e2, atZ_mid (by simp; omega) hni, if_pos rfl]
theorem out_put {P : Nat} {st : Bool} {good : Prop} {v u : Val} {i x : Int} (hu : WB P u) (hx : fitsG x = true) (hg : good → Arr v ∧ v.valSort = 5) (hp : good → Put v u i x) :
   Out P st good (storedV v i x, decide (((storedV v i x).valAt.length : Int) ≤ 200)) (iteO st (some (u, true)) (some (u, decide ((u.valAt.length : Int) > 200)))) := by
 cases st with
 | true => exact ⟨_, _, rfl, hu, fun _ => rfl, fun h => by cases h⟩
 | false =>
   refine ⟨_, _, rfl, hu, (fun h => by cases h), fun _ h => ?_⟩
   obtain ⟨h1, h2⟩ := hg h
   have e := put_stored h1 h2 hx (hp h)
   rw [← e]
   refine ⟨?_, fun _ => rfl⟩
   by_cases hh : (u.valAt.length : Int) ≤ 200
   · rw [decide_eq_true hh, decide_eq_false (by omega)]; rfl
   · rw [decide_eq_false hh, decide_eq_true (by omega)]; rfl
theorem not_low {l : List Int} {i : Int} {p : Nat} (h : ∀ k x, l[k]? = some x → k < p → x < i) : i ∉ l.take p := fun hi => by
 obtain ⟨k, hk, e⟩ := List.mem_take_iff_getElem.1 hi
 have := h k i (by rw [List.getElem?_eq_getElem (by omega)]; exact congrArg some e) (by omega)
 omega
theorem store1400 (N : Nat) (m : List Entry) (st : Bool) (v : Val) (i x : Int) (P : Nat) (good : Prop) (hN : 4194304 < N) (hv : WB P v) (hP : P ≤ 1048576) (hx : fitsG x = true) (hg : good → Arr v ∧ v.valSort = 5) :
   Out (P + 1) st good (storedV v i x, decide (((storedV v i x).valAt.length : Int) ≤ 200)) (F1400 N v i x m st) := by
 obtain ⟨hnum, hset, hat, hto⟩ := hv
 obtain ⟨p, b, hb, hs⟩ := bin1053 N v.valAt i (by omega) (by omega)
 have hple := hs.le
 unfold F1400
 rw [fits8 (by omega), iteO_true, fits8 (by omega), iteO_true, fits8 (by omega), iteO_true, hb, bindO_some]
 have lt1 : (v.valAt.take p).length = p := by simp; omega
 have lt2 : (v.valTo.take p).length = p := by simp; omega
 cases b with
 | true =>
   have hp := hs.hit rfl
   have hlt := (List.getElem?_eq_some_iff.1 hp).1
   obtain ⟨y, hy⟩ : ∃ y, v.valTo[p]? = some y := ⟨_, List.getElem?_eq_getElem (by omega)⟩
   have e1 := split_at v.valAt p i hp
   have e2 := split_at v.valTo p y hy
   rw [iteO_true]
   cases hx0 : x == 0 with
   | true =>
     have hx0 := beq_iff_eq.1 hx0
     have hw : IntKind.i64.wrap ((p : Int) + 1) = ((p + 1 : Nat) : Int) := by rw [wrap_id (by omega)]; omega
     have hin : ∀ l : List Int, l.length = v.valAt.length → inS (p : Int) ((p + 1 : Nat) : Int) l.length = true := fun l hl => decide_eq_true ⟨by omega, by omega, by omega⟩
     simp only [iteO_true, hw, hin v.valAt rfl, hin v.valTo hto, decide_eq_true (show (p : Int) < ((p + 1 : Nat) : Int) by omega), fits8 (show v.valTo.length ≤ 8388608 by omega), fits8 (show v.valAt.length ≤ 8388608 by omega)]
     have d1 : ∀ l : List Int, delF l (p : Int) ((p + 1 : Nat) : Int) = l.take p ++ l.drop (p + 1) := fun l => by unfold delF; simp
     rw [d1, d1]
     have hl1 : (v.valAt.take p ++ v.valAt.drop (p + 1)).length ≤ P + 1 := by simp; omega
     refine out_put (u := ⟨v.valSort, v.valNum, v.valSet, v.valAt.take p ++ v.valAt.drop (p + 1), v.valTo.take p ++ v.valTo.drop (p + 1)⟩) ⟨hnum, by show v.valSet.length ≤ _; omega, hl1, by simp; omega⟩ hx hg fun h => ?_
     obtain ⟨ha, h5⟩ := hg h
     have hord := ha.ord
     have hni := not_low (hs.low hord)
     have hni2 : i ∉ v.valAt.take p ++ v.valAt.drop (p + 1) := by
       rw [e1] at hord
       have := List.pairwise_append.1 hord
       intro hm
       rcases List.mem_append.1 hm with h1 | h1
       · exact hni h1
       · have := (List.pairwise_cons.1 this.2.1).1 i h1; omega
     refine ⟨⟨ha.set, ?_, by simp; omega, ?_, ?_⟩, rfl, rfl, fun j => ?_⟩
     · have hsub : (v.valAt.take p ++ v.valAt.drop (p + 1)).Sublist v.valAt := by
         conv => rhs; rw [e1]
         exact List.Sublist.append (List.Sublist.refl _) (List.sublist_cons_self _ _)
       exact List.Pairwise.sublist hsub ha.ord
     · intro t ht
       refine ha.nz t ?_
       rw [e2]
       rcases List.mem_append.1 ht with h1 | h1
       · exact List.mem_append.2 (.inl h1)
       · exact List.mem_append.2 (.inr (List.mem_cons_of_mem _ h1))
     · intro t ht
       refine ha.fit t ?_
       rw [e2]
       rcases List.mem_append.1 ht with h1 | h1
       · exact List.mem_append.2 (.inl h1)
       · exact List.mem_append.2 (.inr (List.mem_cons_of_mem _ h1))
     · show atZ j (v.valAt.take p ++ v.valAt.drop (p + 1)) (v.valTo.take p ++ v.valTo.drop (p + 1)) = if j = i then x else atZ j v.valAt v.valTo
       have hmid := atZ_mid (i := i) (x := y) (j := j) (l1 := v.valAt.take p) (r1 := v.valTo.take p) (l2 := v.valAt.drop (p + 1)) (r2 := v.valTo.drop (p + 1)) (by omega) hni
       rw [← e1, ← e2] at hmid
       by_cases hj : j = i
       · subst hj
         rw [if_pos rfl, hx0]
         exact atZ_out hni2
       · rw [if_neg hj, hmid, if_neg hj]
   | false =>
     rw [iteO_false, atO_get hy, bindO_some, Int.toNat_natCast]
     have hset2 : v.valTo.set p x = v.valTo.take p ++ x :: v.valTo.drop (p + 1) := by
       rw [List.set_eq_take_append_cons_drop, if_pos (by omega)]
     refine out_put (u := ⟨v.valSort, v.valNum, v.valSet, v.valAt, v.valTo.set p x⟩) ⟨hnum, by show v.valSet.length ≤ _; omega, by show v.valAt.length ≤ _; omega, by simp; omega⟩ hx hg fun h => ?_
     obtain ⟨ha, h5⟩ := hg h
     have hni := not_low (hs.low ha.ord)
     have hm : ∀ t ∈ v.valTo.set p x, t = x ∨ t ∈ v.valTo := fun t ht => (List.mem_or_eq_of_mem_set ht).symm
     refine ⟨⟨ha.set, ha.ord, by simp; omega, fun t ht => ?_, fun t ht => ?_⟩, rfl, rfl, fun j => ?_⟩
     · rcases hm t ht with rfl | h1
       · exact beq_eq_false_iff_ne.1 hx0
       · exact ha.nz t h1
     · rcases hm t ht with rfl | h1
       · exact hx
       · exact ha.fit t h1
     · show atZ j v.valAt (v.valTo.set p x) = if j = i then x else atZ j v.valAt v.valTo
       have m1 := atZ_mid (i := i) (x := y) (j := j) (l1 := v.valAt.take p) (r1 := v.valTo.take p) (l2 := v.valAt.drop (p + 1)) (r2 := v.valTo.drop (p + 1)) (by omega) hni
       have m2 := atZ_mid (i := i) (x := x) (j := j) (l1 := v.valAt.take p) (r1 := v.valTo.take p) (l2 := v.valAt.drop (p + 1)) (r2 := v.valTo.drop (p + 1)) (by omega) hni
       rw [← e1, ← hset2] at m2
       rw [← e1, ← e2] at m1
       rw [m2, m1]
       by_cases hj : j = i
       · rw [if_pos hj, if_pos hj]
       · rw [if_neg hj, if_neg hj, if_neg hj]
 | false =>
   rw [iteO_false]
   cases hx0 : x == 0 with
   | true =>
     rw [iteO_true]
     refine out_put (u := v) ⟨hnum, by omega, by omega, hto⟩ hx hg fun h => ?_
     obtain ⟨ha, h5⟩ := hg h
     refine ⟨ha, rfl, rfl, fun j => ?_⟩
     by_cases hj : j = i
     · subst hj
       rw [if_pos rfl, beq_iff_eq.1 hx0]
       exact atZ_out (hasL_not (hs.mem ha.ord).symm)
     · rw [if_neg hj]
   | false =>
     have h33 : F1055 v.valAt (p : Int) [i] = some (Go.Abs.insL v.valAt p i) := insF_some 8 _ p _ hple (fits8 (by omega))
     have h34 : F1055 v.valTo (p : Int) [x] = some (Go.Abs.insL v.valTo p x) := insF_some 8 _ p _ (by omega) (fits8 (by omega))
     rw [iteO_false, h33, bindO_some, h34, bindO_some]
     have i1 : Go.Abs.insL v.valAt p i = v.valAt.take p ++ i :: v.valAt.drop p := rfl
     have i2 : Go.Abs.insL v.valTo p x = v.valTo.take p ++ x :: v.valTo.drop p := rfl
     rw [i1, i2]
     refine out_put (u := ⟨v.valSort, v.valNum, v.valSet, v.valAt.take p ++ i :: v.valAt.drop p, v.valTo.take p ++ x :: v.valTo.drop p⟩) ⟨hnum, by show v.valSet.length ≤ _; omega, by simp; omega, by simp; omega⟩ hx hg fun h => ?_
     obtain ⟨ha, h5⟩ := hg h
     have hni := not_low (hs.low ha.ord)
     have hlo : ∀ y ∈ v.valAt.take p, y < i := fun y hy => by
       obtain ⟨k, hk, e⟩ := List.mem_take_iff_getElem.1 hy
       exact hs.low ha.ord k y (by rw [List.getElem?_eq_getElem (by omega)]; exact congrArg some e) (by omega)
     have hhi : ∀ y ∈ v.valAt.drop p, i < y := fun y hy => by
       obtain ⟨k, hk⟩ := List.getElem?_of_mem hy
       rw [List.getElem?_drop] at hk
       have h1 := hs.high ha.ord (p + k) y hk (by omega)
       have h2 : y ≠ i := fun e => by
         rw [e] at hk
         exact hasL_not (hs.mem ha.ord).symm (List.mem_of_getElem? hk)
       omega
     have hord : asc (v.valAt.take p ++ v.valAt.drop p) := by rw [List.take_append_drop]; exact ha.ord
     have hpa := List.pairwise_append.1 hord
     refine ⟨⟨ha.set, ?_, by simp; omega, ?_, ?_⟩, rfl, rfl, fun j => ?_⟩
     · refine List.pairwise_append.2 ⟨hpa.1, List.pairwise_cons.2 ⟨hhi, hpa.2.1⟩, fun a h1 b h2 => ?_⟩
       rcases List.mem_cons.1 h2 with rfl | h2
       · exact hlo a h1
       · exact hpa.2.2 a h1 b h2
     · intro t ht
       rcases List.mem_append.1 ht with h1 | h1
       · exact ha.nz t (List.mem_of_mem_take h1)
       · rcases List.mem_cons.1 h1 with rfl | h1
         · exact beq_eq_false_iff_ne.1 hx0
         · exact ha.nz t (List.mem_of_mem_drop h1)
     · intro t ht
       rcases List.mem_append.1 ht with h1 | h1
       · exact ha.fit t (List.mem_of_mem_take h1)
       · rcases List.mem_cons.1 h1 with rfl | h1
         · exact hx
         · exact ha.fit t (List.mem_of_mem_drop h1)
     · show atZ j (v.valAt.take p ++ i :: v.valAt.drop p) (v.valTo.take p ++ x :: v.valTo.drop p) = if j = i then x else atZ j v.valAt v.valTo
       rw [atZ_mid (by omega) hni, List.take_append_drop, List.take_append_drop]
end Go.Abs.Try
namespace Go.Abs.Try
set_option maxRecDepth 100000
theorem at_get_gV {v : List Val} {i : Nat} (h : i < v.length) : v[i]? = some (gV v i) := by
 have : v[i]? = some v[i] := List.getElem?_eq_getElem h
 rw [gV, List.getD_eq_getElem?_getD, this]; rfl
theorem all_fold {f : Int → Bool} {step : Unit → Nat → Int → Option (Sum Unit Bool)} {fin : Unit → Option Bool} (hs : ∀ i x, step () i x = some (bif f x then .inl () else .inr false)) (hf : fin () = some true) : ∀ (l : List Int) (M i : Nat), l.length < M → foldN step fin M l i () = some (l.all f)
 | [], M, i, hM => by
   obtain ⟨K, rfl⟩ : ∃ K, M = K + 1 := ⟨M - 1, by simp at hM; omega⟩
   simp [foldN, hf]
 | x :: l, M, i, hM => by
   obtain ⟨K, rfl⟩ : ∃ K, M = K + 1 := ⟨M - 1, by simp at hM; omega⟩
   simp only [foldN, hs, bindO_some, List.all_cons]
   cases f x with
   | true => exact all_fold hs hf l K (i + 1) (by simp at hM; omega)
   | false => rfl
theorem holds1045 (N : Nat) (hN : 4194304 < N) (op : Int) (v : List Val) (hv : ∀ x ∈ v, WB 1048576 x) (ha : arity op ≤ v.length) : ∃ b, F1045 N op v = some b ∧ ((op = 40 ∨ op = 41 → asc (gV v 1).valSet) → b = decB op v) := by
 have g0 : 0 < v.length → atO v 0 = some (gV v 0) := fun h => at_gV (i := 0) h
 have g1 : 1 < v.length → atO v 1 = some (gV v 1) := fun h => at_gV (i := 1) h
 simp only [F1045, decB]
 by_cases h : op = 30
 · subst h; exact ⟨_, rfl, fun _ => rfl⟩
 rw [beq_eq_false_iff_ne.2 h]; simp only [iteO_false, cond_false]
 by_cases h : op = 32
 · subst h
   have := g0 (by have : arity 32 = 1 := rfl; omega)
   simp only [this, iteO_true, bindO_some, beq_self_eq_true, cond_true]
   exact ⟨_, rfl, fun _ => rfl⟩
 rw [beq_eq_false_iff_ne.2 h]; simp only [iteO_false, cond_false]
 by_cases h : op = 33
 · subst h
   have a2 : arity 33 = 2 := rfl
   have e0 := g0 (by omega); have e1 := g1 (by omega)
   simp only [e0, e1, bindO_some, beq_self_eq_true, iteO_true, cond_true]
   cases (gV v 0).valNum == 1 <;> exact ⟨_, rfl, fun _ => rfl⟩
 rw [beq_eq_false_iff_ne.2 h]; simp only [iteO_false, cond_false]
 by_cases h : op = 34
 · subst h
   have a2 : arity 34 = 2 := rfl
   have e0 := g0 (by omega); have e1 := g1 (by omega)
   simp only [e0, e1, bindO_some, beq_self_eq_true, iteO_true, cond_true]
   cases (gV v 0).valNum == 1 <;> exact ⟨_, rfl, fun _ => rfl⟩
 rw [beq_eq_false_iff_ne.2 h]; simp only [iteO_false, cond_false]
 by_cases h : op = 35
 · subst h
   have a2 : arity 35 = 2 := rfl
   have e0 := g0 (by omega); have e1 := g1 (by omega)
   simp only [e0, e1, bindO_some, beq_self_eq_true, iteO_true, cond_true]
   cases (gV v 0).valNum == 0 <;> exact ⟨_, rfl, fun _ => rfl⟩
 rw [beq_eq_false_iff_ne.2 h]; simp only [iteO_false, cond_false]
 by_cases h : op = 36
 · subst h
   have a2 : arity 36 = 2 := rfl
   have e0 := g0 (by omega); have e1 := g1 (by omega)
   simp only [e0, e1, bindO_some, beq_self_eq_true, iteO_true, cond_true]
   exact ⟨_, rfl, fun _ => rfl⟩
 rw [beq_eq_false_iff_ne.2 h]; simp only [iteO_false, cond_false]
 by_cases h : op = 37
 · subst h
   have a2 : arity 37 = 2 := rfl
   have e0 := g0 (by omega); have e1 := g1 (by omega)
   have hs := hv _ (gV_mem (v := v) (i := 0) (by omega))
   simp only [e0, e1, bindO_some, beq_self_eq_true, iteO_true, cond_true, eq1051, same183 N (gV v 0) (gV v 1) ⟨by have := hs.2.1; omega, by have := hs.2.2.1; omega, by have := hs.2.2.2; have := hs.2.2.1; omega⟩]
   exact ⟨_, rfl, fun _ => rfl⟩
 rw [beq_eq_false_iff_ne.2 h]; simp only [iteO_false, cond_false]
 by_cases h : op = 38
 · subst h
   have a2 : arity 38 = 2 := rfl
   have e0 := g0 (by omega); have e1 := g1 (by omega)
   simp only [e0, e1, bindO_some, beq_self_eq_true, iteO_true, cond_true]
   exact ⟨_, rfl, fun _ => rfl⟩
 rw [beq_eq_false_iff_ne.2 h]; simp only [iteO_false, cond_false]
 by_cases h : op = 39
 · subst h
   have a2 : arity 39 = 2 := rfl
   have e0 := g0 (by omega); have e1 := g1 (by omega)
   simp only [e0, e1, bindO_some, beq_self_eq_true, iteO_true, cond_true]
   exact ⟨_, rfl, fun _ => rfl⟩
 rw [beq_eq_false_iff_ne.2 h]; simp only [iteO_false, cond_false]
 by_cases h : op = 40
 · subst h
   have a2 : arity 40 = 2 := rfl
   have e0 := g0 (by omega); have e1 := g1 (by omega)
   have hs := (hv _ (gV_mem (v := v) (i := 1) (by omega))).2.1
   obtain ⟨p, b, hb, hst⟩ := bin1053 N (gV v 1).valSet (gV v 0).valNum (by omega) (by omega)
   simp only [e0, e1, bindO_some, beq_self_eq_true, iteO_true, cond_true, hb]
   exact ⟨_, rfl, fun h => hst.mem (h (.inl trivial))⟩
 rw [beq_eq_false_iff_ne.2 h]; simp only [iteO_false, cond_false]
 by_cases h : op = 41
 · subst h
   have a2 : arity 41 = 2 := rfl
   have e0 := g0 (by omega); have e1 := g1 (by omega)
   have hs0 := (hv _ (gV_mem (v := v) (i := 0) (by omega))).2.1
   have hs := (hv _ (gV_mem (v := v) (i := 1) (by omega))).2.1
   obtain ⟨ff, hff⟩ := bin_all N (gV v 1).valSet (by omega) (by omega)
   simp only [e0, bindO_some, beq_self_eq_true, iteO_true, cond_true]
   rw [all_fold (step := F1045_s1 N v) (fin := F1045_f1) (f := fun x => (ff x).2) (fun i x => by
     have hd : decide ((i : Int) ≥ 0) = true := decide_eq_true (by omega)
     simp only [F1045_s1, e1, bindO_some, (hff x).1, hd, Bool.not_true]
     cases (ff x).2 <;> rfl) rfl (gV v 0).valSet N 0 (by omega)]
   refine ⟨_, rfl, fun h => ?_⟩
   have ha := h (.inr trivial)
   exact congrArg (fun f => (gV v 0).valSet.all f) (funext fun x => (hff x).2.mem ha)
 rw [beq_eq_false_iff_ne.2 h]; simp only [iteO_false, cond_false]
 exact ⟨_, rfl, fun _ => rfl⟩
theorem truth1044 (b : Bool) : F1044 b = some (truthV b) := by cases b <;> rfl
theorem num_out {P : Nat} {st : Bool} {good : Prop} {x : Int} {ref : Val × Bool} (hr : ref.2 = fitsG x ∧ (ref.2 = true → ref.1 = numV x)) :
   Out P st good ref (iteO (decide (x < (-1152921504606846976))) (some ((⟨1, 0, [], [], []⟩ : Val), true)) (iteO (decide (x > 1152921504606846976)) (some ((⟨1, 0, [], [], []⟩ : Val), true)) (some ((⟨1, x, [], [], []⟩ : Val), st)))) := by
 have h0 : WB P ⟨1, 0, [], [], []⟩ := ⟨⟨by show (-1152921504606846976 : Int) ≤ 0; decide, by show (0 : Int) ≤ 1152921504606846976; decide⟩, by simp, by simp, rfl⟩
 have bad : fitsG x = false → Out P st good ref (some ((⟨1, 0, [], [], []⟩ : Val), true)) := fun hf => ⟨_, _, rfl, h0, fun _ => rfl, fun _ _ => ⟨by rw [hr.1, hf]; rfl, fun h => by rw [hr.1, hf] at h; cases h⟩⟩
 rcases fits_cases x with ⟨h1, h2⟩ | ⟨h1, h2, h3⟩ | ⟨h1, h2, h3⟩
 · rw [h1, iteO_true]; exact bad h2
 · rw [h1, iteO_false, h2, iteO_true]; exact bad h3
 · rw [h1, iteO_false, h2, iteO_false]
   have := fitsG_iff.1 h3
   exact ⟨_, _, rfl, ⟨this, by simp, by simp, rfl⟩, id, fun hs _ => ⟨by rw [hs, hr.1, h3]; rfl, fun h => (hr.2 h).symm⟩⟩
theorem abs1052 (c : Int) (hc : -1000000000000 ≤ c ∧ c ≤ 1000000000000) : F1052 c = some (c.natAbs : Int) := by
 unfold F1052
 by_cases h : c < 0
 · rw [decide_eq_true h, iteO_true, wrap_id (by omega)]; congr 1; omega
 · rw [decide_eq_false h, iteO_false]; congr 1; omega
theorem scale_out {P : Nat} {st : Bool} {good : Prop} {c x : Int} (hc : -1000000000000 ≤ c ∧ c ≤ 1000000000000) (hx : -1152921504606846976 ≤ x ∧ x ≤ 1152921504606846976) {ref : Val × Bool} (hr : ref.2 = fitsG (c * x) ∧ (ref.2 = true → ref.1 = numV (c * x))) :
   Out P st good ref (iteO (c == 0)
               (iteO (decide ((IntKind.i64.wrap (c * x)) < (-1152921504606846976)))
                 (some ((⟨1, 0, [], [], []⟩ : Val), true))
                 (iteO (decide ((IntKind.i64.wrap (c * x)) > 1152921504606846976))
                   (some ((⟨1, 0, [], [], []⟩ : Val), true))
                   (some ((⟨1, IntKind.i64.wrap (c * x), [], [], []⟩ : Val), st))))
               (bindO (F1052 c) fun r19 =>
                 iteO (decide (r19 = 0))
                 (none)
                 (iteO (decide (x > (IntKind.i64.wrap ((1152921504606846976 : Int).tdiv r19))))
                   (some ((⟨1, 0, [], [], []⟩ : Val), true))
                   (bindO (F1052 c) fun r20 =>
                     iteO (decide (r20 = 0))
                     (none)
                     (iteO (decide (x < (IntKind.i64.wrap (0 - (IntKind.i64.wrap ((1152921504606846976 : Int).tdiv r20))))))
                       (some ((⟨1, 0, [], [], []⟩ : Val), true))
                       (iteO (decide ((IntKind.i64.wrap (c * x)) < (-1152921504606846976)))
                         (some ((⟨1, 0, [], [], []⟩ : Val), true))
                         (iteO (decide ((IntKind.i64.wrap (c * x)) > 1152921504606846976))
                           (some ((⟨1, 0, [], [], []⟩ : Val), true))
                           (some ((⟨1, IntKind.i64.wrap (c * x), [], [], []⟩ : Val), st))))))))) := by
 have h0 : WB P ⟨1, 0, [], [], []⟩ := ⟨⟨by show (-1152921504606846976 : Int) ≤ 0; decide, by show (0 : Int) ≤ 1152921504606846976; decide⟩, by simp, by simp, rfl⟩
 have bad : fitsG (c * x) = false → Out P st good ref (some ((⟨1, 0, [], [], []⟩ : Val), true)) := fun hf => ⟨_, _, rfl, h0, fun _ => rfl, fun _ _ => ⟨by rw [hr.1, hf]; rfl, fun h => by rw [hr.1, hf] at h; cases h⟩⟩
 by_cases hz : c = 0
 · subst hz
   rw [beq_self_eq_true, iteO_true, Int.zero_mul, wrap_id (by omega)]
   rw [Int.zero_mul] at hr
   exact num_out hr
 · rw [beq_eq_false_iff_ne.2 hz, iteO_false, abs1052 c hc, bindO_some]
   obtain ⟨k, hk⟩ : ∃ k : Int, k = (c.natAbs : Int) := ⟨_, rfl⟩
   have hk0 : 0 < k := by omega
   have hk1 : k ≤ 1000000000000 := by omega
   rw [← hk, decide_eq_false (by omega : ¬ k = 0), iteO_false]
   have hd : (1152921504606846976 : Int).tdiv k = 1152921504606846976 / k := Int.tdiv_eq_ediv_of_nonneg (by omega)
   have hq0 : 0 ≤ 1152921504606846976 / k := Int.ediv_nonneg (by omega) (by omega)
   have hq1 : 1152921504606846976 / k ≤ 1152921504606846976 := Int.ediv_le_self _ (by omega)
   have w1 : IntKind.i64.wrap ((1152921504606846976 : Int).tdiv k) = 1152921504606846976 / k := by rw [hd]; exact wrap_id (by omega)
   have w2 : IntKind.i64.wrap (0 - 1152921504606846976 / k) = -(1152921504606846976 / k) := by rw [wrap_id (by omega)]; omega
   have hkm : 1152921504606846976 / k * k ≤ 1152921504606846976 := Int.ediv_mul_le _ (by omega)
   have hkm2 : 1152921504606846976 < (1152921504606846976 / k + 1) * k := Int.lt_ediv_add_one_mul_self _ hk0
   have hsg : c = k ∨ c = -k := by omega
   rw [w1]
   by_cases h1 : x > 1152921504606846976 / k
   · have l1 : (1152921504606846976 / k + 1) * k ≤ x * k := Int.mul_le_mul_of_nonneg_right (by omega) (by omega)
     rw [decide_eq_true h1, iteO_true]
     refine bad ?_
     simp only [fitsG, Bool.and_eq_false_iff, decide_eq_false_iff_not]
     rcases hsg with e | e
     · right; rw [e, Int.mul_comm]; omega
     · left; rw [e, Int.neg_mul, Int.mul_comm]; omega
   · rw [decide_eq_false h1, iteO_false, bindO_some, decide_eq_false (by omega : ¬ k = 0), iteO_false, w1, w2]
     by_cases h2 : x < -(1152921504606846976 / k)
     · have l1 : x * k ≤ -(1152921504606846976 / k + 1) * k := Int.mul_le_mul_of_nonneg_right (by omega) (by omega)
       rw [Int.neg_mul] at l1
       rw [decide_eq_true h2, iteO_true]
       refine bad ?_
       simp only [fitsG, Bool.and_eq_false_iff, decide_eq_false_iff_not]
       rcases hsg with e | e
       · left; rw [e, Int.mul_comm]; omega
       · right; rw [e, Int.neg_mul, Int.mul_comm]; omega
     · have u1 : x * k ≤ 1152921504606846976 / k * k := Int.mul_le_mul_of_nonneg_right (by omega) (by omega)
       have u2 : -(1152921504606846976 / k) * k ≤ x * k := Int.mul_le_mul_of_nonneg_right (by omega) (by omega)
       rw [Int.neg_mul] at u2
       have hcx : c * x = x * k ∨ c * x = -(x * k) := by
         rcases hsg with e | e
         · left; rw [e, Int.mul_comm]
         · right; rw [e, Int.neg_mul, Int.mul_comm]
       rw [decide_eq_false h2, iteO_false, wrap_id (by omega)]
       exact num_out hr
end Go.Abs.Try
namespace Go.Abs.Try
set_option maxRecDepth 100000
structure GoodV (op : Int) (vs : List Val) : Prop where
 set : op = 11 ∨ op = 12 ∨ op = 13 → asc (gV vs 0).valSet ∧ asc (gV vs 1).valSet
 arr : op = 14 ∨ op = 15 → Arr (gV vs 0) ∧ (gV vs 0).valSort = 5
 form : op = 40 ∨ op = 41 → asc (gV vs 1).valSet
theorem Out.mono {P Q : Nat} {st : Bool} {good : Prop} {ref : Val × Bool} {o : Option (Val × Bool)} (h : Out P st good ref o) (hq : P ≤ Q) : Out Q st good ref o := by
 obtain ⟨v, st', e, hw, h1, h2⟩ := h
 exact ⟨v, st', e, hw.mono hq, h1, h2⟩
theorem Out.back {P : Nat} {st : Bool} {good : Prop} {ref : Val × Bool} {o : Option (Val × Bool)} (h : Out P st good ref o) : Out P st good ref (bindO o fun r => some (r.1, r.2)) := by
 obtain ⟨v, st', e, hw, h1, h2⟩ := h
 exact ⟨v, st', by rw [e]; rfl, hw, h1, h2⟩
theorem apP (N : Nat) (hN : 4194304 < N) (m : List Entry) (op srt : Int) (nm : ByteArray) (num : Int) (ks : List Node) (vs : List Val) (st : Bool) (q : Nat → Nat) (P : Nat) (hq : ∀ i, i < vs.length → WB (q i) (gV vs i)) (hqb : ∀ v ∈ vs, WB 1048576 v) (hP : q 0 + q 1 + q 2 + 256 ≤ P) (hPb : P ≤ 1048576)
   (h1 : op ≠ 1) (h3 : op ≠ 3) (ha : arity op ≤ vs.length) (hnum : op = 2 ∨ op = 7 → -1000000000000 ≤ num ∧ num ≤ 1000000000000) : Out P st (GoodV op vs) (applyR op num vs) (F1399_f1 N m ⟨op, srt, nm, num, ks⟩ (vs, st)) := by
 have g0 : 0 < vs.length → atO vs 0 = some (gV vs 0) := fun h => at_gV (i := 0) h
 have g1 : 1 < vs.length → atO vs 1 = some (gV vs 1) := fun h => at_gV (i := 1) h
 have g2 : 2 < vs.length → atO vs 2 = some (gV vs 2) := fun h => at_gV (i := 2) h
 by_cases h : op = 2
 · subst h
   change Out P st _ (numV num, fitsG num) (iteO (decide (num < (-1152921504606846976))) (some ((⟨1, 0, [], [], []⟩ : Val), true)) (iteO (decide (num > 1152921504606846976)) (some ((⟨1, 0, [], [], []⟩ : Val), true)) (some ((⟨1, num, [], [], []⟩ : Val), st))))
   exact num_out ⟨rfl, fun _ => rfl⟩
 by_cases h : op = 4
 · subst h
   have a2 : arity 4 = 2 := rfl
   have k0 := (hq 0 (by omega)).1; have k1 := (hq 1 (by omega)).1
   change Out P st _ (numV ((gV vs 0).valNum + (gV vs 1).valNum), fitsG ((gV vs 0).valNum + (gV vs 1).valNum)) (bindO (atO vs 0) fun x13 => bindO (atO vs 1) fun x14 => iteO (decide ((IntKind.i64.wrap (x13.valNum + x14.valNum)) < (-1152921504606846976))) (some ((⟨1, 0, [], [], []⟩ : Val), true)) (iteO (decide ((IntKind.i64.wrap (x13.valNum + x14.valNum)) > 1152921504606846976)) (some ((⟨1, 0, [], [], []⟩ : Val), true)) (some ((⟨1, IntKind.i64.wrap (x13.valNum + x14.valNum), [], [], []⟩ : Val), st))))
   rw [g0 (by omega), bindO_some, g1 (by omega), bindO_some, wrap_id (by omega)]
   exact num_out ⟨rfl, fun _ => rfl⟩
 by_cases h : op = 5
 · subst h
   have a2 : arity 5 = 2 := rfl
   have k0 := (hq 0 (by omega)).1; have k1 := (hq 1 (by omega)).1
   change Out P st _ (numV ((gV vs 0).valNum - (gV vs 1).valNum), fitsG ((gV vs 0).valNum - (gV vs 1).valNum)) (bindO (atO vs 0) fun x13 => bindO (atO vs 1) fun x14 => iteO (decide ((IntKind.i64.wrap (x13.valNum - x14.valNum)) < (-1152921504606846976))) (some ((⟨1, 0, [], [], []⟩ : Val), true)) (iteO (decide ((IntKind.i64.wrap (x13.valNum - x14.valNum)) > 1152921504606846976)) (some ((⟨1, 0, [], [], []⟩ : Val), true)) (some ((⟨1, IntKind.i64.wrap (x13.valNum - x14.valNum), [], [], []⟩ : Val), st))))
   rw [g0 (by omega), bindO_some, g1 (by omega), bindO_some, wrap_id (by omega)]
   exact num_out ⟨rfl, fun _ => rfl⟩
 by_cases h : op = 6
 · subst h
   have a2 : arity 6 = 1 := rfl
   have k0 := (hq 0 (by omega)).1
   change Out P st _ (numV (0 - (gV vs 0).valNum), fitsG (0 - (gV vs 0).valNum)) (bindO (atO vs 0) fun x17 => iteO (decide ((IntKind.i64.wrap (0 - x17.valNum)) < (-1152921504606846976))) (some ((⟨1, 0, [], [], []⟩ : Val), true)) (iteO (decide ((IntKind.i64.wrap (0 - x17.valNum)) > 1152921504606846976)) (some ((⟨1, 0, [], [], []⟩ : Val), true)) (some ((⟨1, IntKind.i64.wrap (0 - x17.valNum), [], [], []⟩ : Val), st))))
   rw [g0 (by omega), bindO_some, wrap_id (by omega)]
   exact num_out ⟨rfl, fun _ => rfl⟩
 by_cases h : op = 7
 · subst h
   have a2 : arity 7 = 1 := rfl
   have k0 := (hq 0 (by omega)).1
   have hn := hnum (.inr rfl)
   obtain ⟨s1, s2, s3⟩ := scaled174 num (gV vs 0).valNum hn k0
   have e : F1399_f1 N m ⟨7, srt, nm, num, ks⟩ (vs, st) = bindO (atO vs 0) fun x18 => iteO (num == 0)
               (iteO (decide ((IntKind.i64.wrap (num * x18.valNum)) < (-1152921504606846976)))
                 (some ((⟨1, 0, [], [], []⟩ : Val), true))
                 (iteO (decide ((IntKind.i64.wrap (num * x18.valNum)) > 1152921504606846976))
                   (some ((⟨1, 0, [], [], []⟩ : Val), true))
                   (some ((⟨1, IntKind.i64.wrap (num * x18.valNum), [], [], []⟩ : Val), st))))
               (bindO (F1052 num) fun r19 =>
                 iteO (decide (r19 = 0))
                 (none)
                 (iteO (decide (x18.valNum > (IntKind.i64.wrap ((1152921504606846976 : Int).tdiv r19))))
                   (some ((⟨1, 0, [], [], []⟩ : Val), true))
                   (bindO (F1052 num) fun r20 =>
                     iteO (decide (r20 = 0))
                     (none)
                     (iteO (decide (x18.valNum < (IntKind.i64.wrap (0 - (IntKind.i64.wrap ((1152921504606846976 : Int).tdiv r20))))))
                       (some ((⟨1, 0, [], [], []⟩ : Val), true))
                       (iteO (decide ((IntKind.i64.wrap (num * x18.valNum)) < (-1152921504606846976)))
                         (some ((⟨1, 0, [], [], []⟩ : Val), true))
                         (iteO (decide ((IntKind.i64.wrap (num * x18.valNum)) > 1152921504606846976))
                           (some ((⟨1, 0, [], [], []⟩ : Val), true))
                           (some ((⟨1, IntKind.i64.wrap (num * x18.valNum), [], [], []⟩ : Val), st)))))))) := rfl
   rw [e, g0 (by omega), bindO_some]
   exact scale_out hn k0 ⟨s2, s3⟩
 by_cases h : op = 8
 · subst h
   have a2 : arity 8 = 3 := rfl
   change Out P st _ (bif (gV vs 0).valNum == 1 then gV vs 1 else gV vs 2, true) (bindO (atO vs 0) fun x21 => iteO (x21.valNum == 1) (bindO (atO vs 1) fun x22 => some (x22, st)) (bindO (atO vs 2) fun x23 => some (x23, st)))
   rw [g0 (by omega), bindO_some]
   cases (gV vs 0).valNum == 1 with
   | true => rw [iteO_true, g1 (by omega), bindO_some]; exact ⟨_, _, rfl, (hq 1 (by omega)).mono (by omega), id, fun h _ => ⟨h, fun _ => rfl⟩⟩
   | false => rw [iteO_false, g2 (by omega), bindO_some]; exact ⟨_, _, rfl, (hq 2 (by omega)).mono (by omega), id, fun h _ => ⟨h, fun _ => rfl⟩⟩
 by_cases h : op = 14
 · subst h
   have a2 : arity 14 = 2 := rfl
   have k0 := hq 0 (by omega)
   obtain ⟨x, hx, hg⟩ := get1041 N (gV vs 0) (gV vs 1).valNum (by have := k0.2.2.1; omega) (by have := k0.2.2.1; omega) k0.2.2.2
   change Out P st _ (numV (atV (gV vs 0) (gV vs 1).valNum), fitsG (atV (gV vs 0) (gV vs 1).valNum)) (bindO (atO vs 0) fun x24 => bindO (atO vs 1) fun x25 => bindO (F1041 N x24 x25.valNum) fun r26 => iteO (decide (r26 < (-1152921504606846976))) (some ((⟨1, 0, [], [], []⟩ : Val), true)) (iteO (decide (r26 > 1152921504606846976)) (some ((⟨1, 0, [], [], []⟩ : Val), true)) (some ((⟨1, r26, [], [], []⟩ : Val), st))))
   rw [g0 (by omega), bindO_some, g1 (by omega), bindO_some, hx, bindO_some]
   obtain ⟨v, st', e, hw, o1, o2⟩ := num_out (P := P) (st := st) (good := True) (x := x) (ref := (numV x, fitsG x)) ⟨rfl, fun _ => rfl⟩
   refine ⟨v, st', e, hw, o1, fun hs hgo => ?_⟩
   have := hg (hgo.arr (.inl rfl)).1.ord
   rw [← this]
   exact o2 hs trivial
 by_cases h : op = 16
 · subst h
   have a2 : arity 16 = 1 := rfl
   change Out P st _ (numV (gV vs 0).valNum, fitsG (gV vs 0).valNum) (bindO (atO vs 0) fun x17 => iteO (decide (x17.valNum < (-1152921504606846976))) (some ((⟨1, 0, [], [], []⟩ : Val), true)) (iteO (decide (x17.valNum > 1152921504606846976)) (some ((⟨1, 0, [], [], []⟩ : Val), true)) (some ((⟨1, x17.valNum, [], [], []⟩ : Val), st))))
   rw [g0 (by omega), bindO_some]
   exact num_out ⟨rfl, fun _ => rfl⟩
 by_cases h : op = 15
 · subst h
   have a2 : arity 15 = 3 := rfl
   have k0 := hq 0 (by omega)
   change Out P st _ (storedV (gV vs 0) (gV vs 1).valNum (gV vs 2).valNum, decide (((storedV (gV vs 0) (gV vs 1).valNum (gV vs 2).valNum).valAt.length : Int) ≤ 200)) (bindO (atO vs 0) fun x28 => bindO (atO vs 1) fun x29 => bindO (atO vs 2) fun x30 => bindO (F1400 N x28 x29.valNum x30.valNum m st) fun r31 => some (r31.1, r31.2))
   rw [g0 (by omega), bindO_some, g1 (by omega), bindO_some, g2 (by omega), bindO_some]
   exact ((store1400 N m st _ _ _ (q 0) _ hN k0 (by omega) (fitsG_iff.2 (hq 2 (by omega)).1) fun hgo => hgo.arr (.inr rfl)).mono (by omega)).back
 by_cases h : op = 9
 · subst h
   change Out P st _ (⟨4, 0, [], [], []⟩, true) (bindO (F1401 N 9 vs m st) fun r => some (r.1, r.2))
   exact (set9 N m st vs P _).back
 by_cases h : op = 10
 · subst h
   have a2 : arity 10 = 1 := rfl
   change Out P st _ (⟨4, 0, [(gV vs 0).valNum], [], []⟩, true) (bindO (F1401 N 10 vs m st) fun r => some (r.1, r.2))
   exact (set10 N m st vs P (by omega) _ _ (g0 (by omega))).back
 by_cases h : op = 11
 · subst h
   have a2 : arity 11 = 2 := rfl
   change Out P st _ (⟨4, 0, combL 11 (gV vs 0).valSet (gV vs 1).valSet, [], []⟩, decide (((combL 11 (gV vs 0).valSet (gV vs 1).valSet).length : Int) ≤ 200)) (bindO (F1401 N 11 vs m st) fun r => some (r.1, r.2))
   exact ((set11 N m st vs (q 0) (q 1) _ _ _ (g0 (by omega)) (g1 (by omega)) (hq 0 (by omega)).2.1 (hq 1 (by omega)).2.1 (by omega) fun hgo => (hgo.set (.inl rfl)).1).mono (by omega)).back
 by_cases h : op = 12
 · subst h
   have a2 : arity 12 = 2 := rfl
   change Out P st _ (⟨4, 0, combL 12 (gV vs 0).valSet (gV vs 1).valSet, [], []⟩, decide (((combL 12 (gV vs 0).valSet (gV vs 1).valSet).length : Int) ≤ 200)) (bindO (F1401 N 12 vs m st) fun r => some (r.1, r.2))
   exact ((set12 N m st vs (q 0) (q 1) _ _ _ (at_get_gV (by omega)) (at_get_gV (by omega)) (hq 0 (by omega)).2.1 (hq 1 (by omega)).2.1 (by omega) hN fun hgo => (hgo.set (.inr (.inl rfl))).2).mono (by omega)).back
 by_cases h : op = 13
 · subst h
   have a2 : arity 13 = 2 := rfl
   change Out P st _ (⟨4, 0, combL 13 (gV vs 0).valSet (gV vs 1).valSet, [], []⟩, decide (((combL 13 (gV vs 0).valSet (gV vs 1).valSet).length : Int) ≤ 200)) (bindO (F1401 N 13 vs m st) fun r => some (r.1, r.2))
   exact ((set13 N m st vs (q 0) (q 1) _ _ _ (at_get_gV (by omega)) (at_get_gV (by omega)) (hq 0 (by omega)).2.1 (hq 1 (by omega)).2.1 (by omega) hN fun hgo => (hgo.set (.inr (.inr rfl))).2).mono (by omega)).back
 obtain ⟨b, hb, hbd⟩ := holds1045 N hN op vs hqb ha
 rename_i n2 n4 n5 n6 n7 n8 n14 n16 n15 n9 n10 n11 n12
 simp only [F1399_f1, applyR, beq_eq_false_iff_ne.2 h1, beq_eq_false_iff_ne.2 h3, beq_eq_false_iff_ne.2 n2, beq_eq_false_iff_ne.2 n4, beq_eq_false_iff_ne.2 n5, beq_eq_false_iff_ne.2 n6, beq_eq_false_iff_ne.2 n7, beq_eq_false_iff_ne.2 n8, beq_eq_false_iff_ne.2 n14, beq_eq_false_iff_ne.2 n16, beq_eq_false_iff_ne.2 n15, beq_eq_false_iff_ne.2 n9, beq_eq_false_iff_ne.2 n10, beq_eq_false_iff_ne.2 n11, beq_eq_false_iff_ne.2 n12, beq_eq_false_iff_ne.2 h, iteO_false, cond_false, Bool.or_self, hb, bindO_some, truth1044]
 refine ⟨_, _, rfl, ?_, id, fun hs hgo => ⟨hs, fun _ => ?_⟩⟩
 · exact (truthV_ok b).wb.mono (by omega)
 · rw [hbd hgo.form]
end Go.Abs.Try
namespace Go.Abs.Try
set_option maxRecDepth 100000
theorem look_fold (N : Nat) (hN : 1048600 < N) (m : List Entry) (hm : MOk m) (name : ByteArray) (args : List Val) (srt : Int) (st : Bool) (step : Unit → Nat → Entry → Option (Sum Unit (Val × Bool))) (fin : Unit → Option (Val × Bool))
   (hs : ∀ i x, step () i x = iteO (x.entryName.toList == name.toList) (bindO (F1037 N x (⟨name, args, (⟨srt, 0, [], [], []⟩ : Val)⟩ : Entry)) fun r => iteO r (some (.inr (x.entryVal, st))) (some (.inl ()))) (some (.inl ()))) (hf : fin () = some ((⟨srt, 0, [], [], []⟩ : Val), st)) :
   foldN step fin N m 0 () = some (lookR name args srt m, st) := by
 have key : ∀ (l : List Entry) (M i : Nat), l.length < M → (∀ e ∈ l, e ∈ m) → foldN step fin M l i () = some (lookR name args srt l, st) := by
   intro l
   induction l with
   | nil =>
     intro M i hM _
     obtain ⟨K, rfl⟩ : ∃ K, M = K + 1 := ⟨M - 1, by simp at hM; omega⟩
     simp only [foldN, hf, lookR]
   | cons e l ih =>
     intro M i hM he
     obtain ⟨K, rfl⟩ : ∃ K, M = K + 1 := ⟨M - 1, by simp at hM; omega⟩
     have h1 := ih K (i + 1) (by simp at hM; omega) fun k hk => he k (by simp [hk])
     obtain ⟨h2, h3, _⟩ := hm.args e (he e (by simp))
     have hp := place_of158 N (by omega) e (⟨name, args, (⟨srt, 0, [], [], []⟩ : Val)⟩ : Entry) h2 fun a ha => (h3 a ha).small
     simp only [foldN, hs, lookR, eq1037, hp, placeB]
     cases e.entryName.toList == name.toList with
     | false => exact h1
     | true =>
       cases e.entryVal.valSort == srt with
       | false => exact h1
       | true =>
         simp only [iteO_true, bindO_some, Bool.true_and]
         cases sameVs e.entryArgs args with
         | true => rfl
         | false => exact h1
 exact key m N 0 (by have := hm.len; omega) fun _ h => h
def Ev (P : Nat) (st : Bool) (ref : Val × Bool) (o : Option (Val × Bool)) : Prop := ∃ v st', o = some (v, st') ∧ WB P v ∧ (st = true → st' = true) ∧ (st = false → st' = !ref.2 ∧ (ref.2 = true → v = ref.1))
theorem kids_fold (N : Nat) (self : Node → List Entry → Bool → Option (Val × Bool)) (m : List Entry) (fin : List Val × Bool → Option (Val × Bool)) : ∀ (l : List Node) (M i : Nat) (vs : List Val) (st : Bool), l.length < M → vs.length + l.length ≤ 4194304 → (∀ k ∈ l, ∀ st, Ev (256 * k.size) st (evalR m k) (self k m st)) →
   ∃ us st', foldN (F1399_s1 self m) fin M l i (vs, st) = fin (vs ++ us, st') ∧ us.length = l.length ∧ (∀ (j : Nat) (k : Node) (u : Val), l[j]? = some k → us[j]? = some u → WB (256 * k.size) u) ∧ (st = true → st' = true) ∧ (st = false → st' = !(l.map (evalR m)).all (·.2) ∧ ((l.map (evalR m)).all (·.2) = true → us = (l.map (evalR m)).map (·.1)))
 | [], M, i, vs, st, hM, _, _ => by
   obtain ⟨K, rfl⟩ : ∃ K, M = K + 1 := ⟨M - 1, by simp at hM; omega⟩
   exact ⟨[], st, by simp [foldN], rfl, fun j k u h => by simp at h, id, fun h => ⟨by simp [h], fun _ => rfl⟩⟩
 | k :: l, M, i, vs, st, hM, hl, hs => by
   obtain ⟨K, rfl⟩ : ∃ K, M = K + 1 := ⟨M - 1, by simp at hM; omega⟩
   simp only [List.length_cons] at hM hl
   obtain ⟨v, s1, e1, w1, t1, f1⟩ := hs k (by simp) st
   obtain ⟨us, s2, e2, n2, w2, t2, f2⟩ := kids_fold N self m fin l K (i + 1) (vs ++ [v]) s1 (by omega) (by simp; omega) fun x hx => hs x (by simp [hx])
   refine ⟨v :: us, s2, ?_, by simp [n2], ?_, fun h => t2 (t1 h), fun h => ?_⟩
   · simp only [foldN, F1399_s1, e1, bindO_some, fits88 (show vs.length + 1 ≤ 4194304 by omega), iteO_true]
     exact e2.trans (by simp)
   · intro j x u hj hu
     cases j with
     | zero =>
       simp only [List.getElem?_cons_zero, Option.some.injEq] at hj hu
       subst hj; subst hu; exact w1
     | succ j => exact w2 j x u (by simpa using hj) (by simpa using hu)
   · obtain ⟨a1, a2⟩ := f1 h
     simp only [List.map_cons, List.all_cons]
     cases hr : (evalR m k).2 with
     | true =>
       rw [hr] at a1
       obtain ⟨b1, b2⟩ := f2 a1
       refine ⟨by rw [Bool.true_and]; exact b1, fun h3 => ?_⟩
       rw [Bool.true_and] at h3
       rw [a2 hr, b2 h3]
     | false =>
       rw [hr] at a1
       refine ⟨by rw [Bool.false_and]; exact t2 a1, fun h3 => by rw [Bool.false_and] at h3; cases h3⟩
theorem goodV_of {m : List Entry} (hm : MOk m) (hv : ∀ e ∈ m, VG e.entryVal.valSort e.entryVal) {n : Node} (hz : n.size ≤ 1048576) (hs : sortedR n = true) (hall : (n.kids.map (evalR m)).all (·.2) = true) : GoodV n.op ((n.kids.map (evalR m)).map (·.1)) := by
 have hk : ∀ k ∈ n.kids, (evalR m k).2 = true := fun k hk => List.all_eq_true.1 hall _ (List.mem_map.2 ⟨k, hk, rfl⟩)
 have vg : ∀ k ∈ n.kids, sortedR k = true → sortS k = 4 ∨ sortS k = 5 → VG (sortS k) (evalR m k).1 := fun k hk' hsk h => by
   have := kids_size hk'
   exact eval_vg m hm hv (k.size + 1) k (by omega) (by omega) hsk (hk k hk') h
 refine ⟨fun h => ?_, fun h => ?_, fun h => ?_⟩
 · have two : (∃ a b, n.kids = [a, b] ∧ sortS a = 4 ∧ sortS b = 4 ∧ sortedR a = true ∧ sortedR b = true) → asc (gV ((n.kids.map (evalR m)).map (·.1)) 0).valSet ∧ asc (gV ((n.kids.map (evalR m)).map (·.1)) 1).valSet := by
     rintro ⟨a, b, e, sa, sb, ha, hb⟩
     have va := vg a (by simp [e]) ha (.inl sa)
     have vb := vg b (by simp [e]) hb (.inl sb)
     rw [sa] at va; rw [sb] at vb
     rw [e]
     exact ⟨(va.2.1 rfl).ord, (vb.2.1 rfl).ord⟩
   rcases h with h | h | h
   · obtain ⟨a, b, e, r⟩ := fCup hs h; exact two ⟨a, b, by rw [e]; rfl, r⟩
   · obtain ⟨a, b, e, r⟩ := fCap hs h; exact two ⟨a, b, by rw [e]; rfl, r⟩
   · obtain ⟨a, b, e, r⟩ := fMinus hs h; exact two ⟨a, b, by rw [e]; rfl, r⟩
 · have one : ∀ a, a ∈ n.kids → gV ((n.kids.map (evalR m)).map (·.1)) 0 = (evalR m a).1 → sortS a = 5 → sortedR a = true → Arr (gV ((n.kids.map (evalR m)).map (·.1)) 0) ∧ (gV ((n.kids.map (evalR m)).map (·.1)) 0).valSort = 5 := by
     intro a hma hg sa ha
     have va := vg a hma ha (.inr sa)
     rw [sa] at va
     rw [hg]
     exact ⟨va.2.2 rfl, va.1⟩
   rcases h with h | h
   · obtain ⟨a, b, e, sa, _, ha, _⟩ := fSel hs h
     exact one a (by rw [e]; simp [nd_kids]) (by rw [e]; rfl) sa ha
   · obtain ⟨a, b, c, e, sa, _, _, ha, _⟩ := fSto hs h
     exact one a (by rw [e]; simp [nd_kids]) (by rw [e]; rfl) sa ha
 · rcases h with h | h
   · obtain ⟨a, b, e, _, sb, _, hb⟩ := fMem hs h
     have vb := vg b (by rw [e]; simp [nd_kids]) hb (.inl sb)
     rw [sb] at vb
     rw [e]
     exact (vb.2.1 rfl).ord
   · obtain ⟨a, b, e, _, sb, _, hb⟩ := fSub hs h
     have vb := vg b (by rw [e]; simp [nd_kids]) hb (.inl sb)
     rw [sb] at vb
     rw [e]
     exact (vb.2.1 rfl).ord
theorem var_kids2 {w : Node} (h : sortedR w = true) (ho : w.op = 1) : w.kids = [] := by
 rw [sortedR_eq, nodeB, Bool.and_eq_true, Bool.and_eq_true] at h
 have hsh := h.1.2
 rw [ho] at hsh
 cases hk : w.kids with
 | nil => rfl
 | cons a l =>
   rw [hk] at hsh
   have e153 : F153 1 = some ([], true) := rfl
   simp only [shapeB, e153, Option.getD_some, cond_true, beq_iff_eq, List.map_cons] at hsh
   cases hsh
theorem size_mem_sum {k : Node} : ∀ {ks : List Node}, k ∈ ks → k.size ≤ (ks.map Node.size).sum
 | x :: ks, h => by
   rw [List.map_cons, List.sum_cons]
   rcases List.mem_cons.1 h with rfl | h
   · omega
   · have := size_mem_sum h; omega
def szAt (ks : List Node) (i : Nat) : Nat := ((ks[i]?).map Node.size).getD 0
theorem szAt_sum (ks : List Node) : szAt ks 0 + szAt ks 1 + szAt ks 2 ≤ (ks.map Node.size).sum := by
 match ks with
 | [] => simp [szAt]
 | [a] => simp [szAt]
 | [a, b] => simp [szAt]
 | a :: b :: c :: ks => simp [szAt]; omega
theorem szAt_le (ks : List Node) (i : Nat) : szAt ks i ≤ (ks.map Node.size).sum := by
 unfold szAt
 cases h : ks[i]? with
 | none => simp
 | some k => exact size_mem_sum (List.mem_of_getElem? h)
theorem evalP (m : List Entry) (hm : MOk m) (hv : ∀ e ∈ m, VG e.entryVal.valSort e.entryVal) : ∀ (N : Nat) (n : Node) (st : Bool), 4194305 + n.size < N → n.size ≤ 4096 → sortedR n = true → Ev (256 * n.size) st (evalR m n) (F1399 N n m st)
 | 0, n, _, h, _, _ => absurd h (Nat.not_lt_zero _)
 | N + 1, n, st, h, hb, hs => by
   have hks : ∀ k ∈ n.kids, sortedR k = true := fun k hk => by
     rw [sortedR_eq, Bool.and_eq_true] at hs
     exact List.all_eq_true.1 hs.2 k hk
   have hk : ∀ k ∈ n.kids, ∀ st, Ev (256 * k.size) st (evalR m k) (F1399 N k m st) := fun k hk st => by
     have := kids_size hk
     exact evalP m hm hv N k st (by omega) (by omega) (hks k hk)
   have hlen := kids_len n
   have hsz := Node.size_eq n
   obtain ⟨us, st', e, hul, hw, ht, hf⟩ := kids_fold N (F1399 N) m (F1399_f1 N m n) n.kids N 0 [] st (by omega) (by simp; omega) hk
   show Ev _ st _ (F1399b (F1399 N) N n m st)
   rw [F1399b, room88 (by omega), iteO_true, e, List.nil_append]
   have hq : ∀ i, i < us.length → WB (256 * szAt n.kids i) (gV us i) := fun i hi => by
     obtain ⟨k, hkk⟩ : ∃ k, n.kids[i]? = some k := ⟨_, List.getElem?_eq_getElem (by omega)⟩
     have := hw i k _ hkk (at_get_gV hi)
     unfold szAt
     rw [hkk]
     exact this
   have look : ∀ args : List Val, WB (256 * n.size) (lookR n.name args n.sortf m) := fun args => ((look_ok (fun e he => (hm.args e he).2.2) n.name args n.sortf).wb).mono (by omega)
   have fin : ∀ o, Out (256 * n.size) st' (GoodV n.op us ∧ us = (n.kids.map (evalR m)).map (·.1)) (bif (n.op == 1) || (n.op == 3) then (lookR n.name us n.sortf m, true) else applyR n.op n.num us) o → Ev (256 * n.size) st (evalR m n) o := by
     rintro o ⟨v, s2, eo, hwv, o1, o2⟩
     refine ⟨v, s2, eo, hwv, fun h => o1 (ht h), fun h => ?_⟩
     obtain ⟨a1, a2⟩ := hf h
     rw [evalR_eq]
     cases hall : (n.kids.map (evalR m)).all (·.2) with
     | false =>
       rw [hall] at a1
       exact ⟨o1 a1, fun h => by cases h⟩
     | true =>
       rw [hall] at a1
       have eu := a2 hall
       have hg := goodV_of hm hv (by omega) hs hall
       rw [← eu] at hg ⊢
       exact o2 a1 ⟨hg, eu⟩
   refine fin _ ?_
   by_cases h1 : n.op = 1
   · have hk0 := var_kids2 hs h1
     have hu0 : us = [] := by
       rw [hk0] at hul
       exact List.length_eq_zero_iff.1 hul
     subst hu0
     have e1 : (n.op == 1) = true := beq_iff_eq.2 h1
     rw [e1, Bool.true_or, cond_true]
     have : F1399_f1 N m n ([], st') = some (lookR n.name [] n.sortf m, st') := by
       simp only [F1399_f1, e1, iteO_true]
       exact look_fold N (by omega) m hm n.name [] n.sortf st' _ _ (fun i x => rfl) rfl
     exact ⟨_, _, this, look _, id, fun h _ => ⟨h, fun _ => rfl⟩⟩
   · by_cases h3 : n.op = 3
     · have e1 : (n.op == 1) = false := beq_eq_false_iff_ne.2 h1
       have e3 : (n.op == 3) = true := beq_iff_eq.2 h3
       rw [e1, e3, Bool.false_or, cond_true]
       have : F1399_f1 N m n (us, st') = some (lookR n.name us n.sortf m, st') := by
         simp only [F1399_f1, e1, e3, iteO_true, iteO_false]
         exact look_fold N (by omega) m hm n.name us n.sortf st' _ _ (fun i x => rfl) rfl
       exact ⟨_, _, this, look _, id, fun h _ => ⟨h, fun _ => rfl⟩⟩
     · have e1 : (n.op == 1) = false := beq_eq_false_iff_ne.2 h1
       have e3 : (n.op == 3) = false := beq_eq_false_iff_ne.2 h3
       rw [e1, e3, Bool.false_or, cond_false]
       have hfine := fine_own hs
       have ha := hfine.ar (by rw [e1, e3]; rfl)
       have hsum := szAt_sum n.kids
       obtain ⟨op, srt, nm, num, ks⟩ := n
       simp only at *
       obtain ⟨v, s2, eo, hwv, o1, o2⟩ := apP N (by omega) m op srt nm num ks us st' (fun i => 256 * szAt ks i) (256 * (⟨op, srt, nm, num, ks⟩ : Node).size) hq (fun u hu => by
         obtain ⟨j, hj⟩ := List.getElem?_of_mem hu
         have hjl := (List.getElem?_eq_some_iff.1 hj).1
         have := hq j hjl
         have hle := szAt_le ks j
         rw [show gV us j = u by have := at_get_gV hjl; rw [hj] at this; injection this with this; exact this.symm] at this
         exact this.mono (by omega)) (by omega) (by omega) h1 h3 (by omega) hfine.num
       exact ⟨v, s2, eo, hwv, o1, fun h hg => o2 h hg.1⟩
end Go.Abs.Try
namespace Go.Abs.Try
set_option maxRecDepth 100000
section
open Classical
variable (N : Nat) (n : Node)
end
end Go.Abs.Try
namespace Go.Abs.Try
set_option maxRecDepth 100000
section
open Classical
variable (N : Nat) (n : Node)
end
end Go.Abs.Try
namespace Go.Abs.Try
set_option maxRecDepth 100000
end Go.Abs.Try
namespace Go.Abs.Try
set_option maxRecDepth 100000
section
open Classical
end
end Go.Abs.Try
namespace Go.Abs.Try
set_option maxRecDepth 100000
def hol (n : Node) : Bool := (nodes n).any fun x => x.op == 42
theorem hol42 (n : Node) (h : n.size < 4611686018427387904) : F42 n = some (hol n) := by
 unfold F42 hol
 rw [walk_ok n h, bindO_some, foldO_all (fun x : Node => !(x.op == 42)) true (nodes n) fun x _ => ?_]
 · show (bif (nodes n).all (fun x => !(x.op == 42)) then some false else some true) = _
   rw [← List.not_any_eq_all_not]
   cases (nodes n).any fun x => x.op == 42 <;> rfl
 · unfold F42_s1
   cases x.op == 42 <;> rfl
section
open Classical
variable (n : Node)
variable (N : Nat)
end
end Go.Abs.Try
namespace Go.Abs.Try
set_option maxRecDepth 100000
def loN : Nat := 4611686018400000000
def hiN : Nat := 4611686018427387904
structure CK (n : Node) : Prop where
 size : n.size ≤ 4000
 ord : sortedR n = true
 uni : US (nodes n)
 lev : ∃ j : Int, j ≤ 100 ∧ F39 loN n = some j
theorem lev_up (n : Node) (j : Int) (h : F39 loN n = some j) (N : Nat) (hN : loN ≤ N) : F39 N n = some j := mF39 hN n j h
theorem ck_of15 (N : Nat) (n : Node) (s : Int) (hN : loN ≤ N ∧ N ≤ hiN) (hb : n.size ≤ 1048576) (h : F15 N n s = some 0) : CK n := by
 have hlo : loN = 4611686018400000000 := rfl
 have hhi : hiN = 4611686018427387904 := rfl
 obtain ⟨k, hk, _, _⟩ := levels39 loN n (by omega) (by omega)
 have hk2 := lev_up n k hk N hN.1
 have h27 := size27 N n (by omega) (by omega)
 have h72 := sorted72 N n (by omega)
 have h28 := sort28 N n (by omega)
 unfold F15 at h
 cases h0 : decide (s < 0) with
 | true => rw [h0] at h; simp only [iteO_true] at h; injection h with h; omega
 | false =>
 rw [h0] at h; simp only [iteO_false] at h
 cases h5 : decide (s > 5) with
 | true => rw [h5] at h; simp only [iteO_true] at h; injection h with h; omega
 | false =>
 rw [h5] at h; simp only [iteO_false, hk2, h27, h72, h28, bindO_some] at h
 cases hx : decide ((n.size : Int) > 4000) with
 | true => rw [hx] at h; simp only [iteO_true] at h; injection h with h; omega
 | false =>
 have hx := of_decide_eq_false hx
 rw [decide_eq_false hx] at h; simp only [iteO_false] at h
 cases hy : decide (k > 100) with
 | true => rw [hy] at h; simp only [iteO_true] at h; injection h with h; omega
 | false =>
 have hy := of_decide_eq_false hy
 rw [decide_eq_false hy] at h; simp only [iteO_false] at h
 cases hs : sortedR n with
 | false => rw [hs] at h; simp only [iteO_false] at h; injection h with h; omega
 | true =>
 rw [hs] at h; simp only [iteO_true] at h
 have h41 := uni41 N n (by omega) hb
 rw [h41, bindO_some] at h
 cases hu : (adjB (varsR n) && clearB n (varsR n)) with
 | false => rw [hu] at h; simp only [iteO_false] at h; injection h with h; omega
 | true => exact ⟨by omega, hs, (ref_says n (sorted_nodes n hs)).1 hu, k, by omega, hk⟩
theorem ck_to15 (N : Nat) (n : Node) (hN : loN ≤ N ∧ N ≤ hiN) (h : CK n) : F15 N n 0 = some 0 := by
 have hlo : loN = 4611686018400000000 := rfl
 have hhi : hiN = 4611686018427387904 := rfl
 obtain ⟨h1, h2, h3, j, h4, h5⟩ := h
 have hk2 := lev_up n j h5 N hN.1
 have h27 := size27 N n (by omega) (by omega)
 have h72 := sorted72 N n (by omega)
 have h41 := uni41 N n (by omega) (by omega)
 have hu := (ref_says n (sorted_nodes n h2)).2 h3
 unfold F15
 rw [h27, hk2, h72, h41, hu, h2]
 simp only [bindO_some, decide_eq_false (by omega : ¬ (n.size : Int) > 4000), decide_eq_false (by omega : ¬ j > 100)]
 rfl
theorem lev_fold (self : Node → Option Int) : ∀ (ks : List Node) (M i : Nat) (s r : Int), foldN (F39_s1 self) F39_f1 M ks i s = some r → (∀ k ∈ ks, ∃ j : Int, self k = some j ∧ 0 ≤ j ∧ j ≤ 1048576) → 0 ≤ s → s ≤ 1048576 → s < r ∧ ∀ k ∈ ks, ∃ j : Int, self k = some j ∧ j < r
 | _, 0, _, _, _, h, _, _, _ => by cases h
 | [], M + 1, i, s, r, h, _, h0, h1 => by
   have h : some (IntKind.i64.wrap (s + 1)) = some r := h
   injection h with h
   rw [wrap_id (by omega)] at h
   exact ⟨by omega, fun _ h => by cases h⟩
 | k :: ks, M + 1, i, s, r, h, hk, h0, h1 => by
   obtain ⟨j, hj, j0, j1⟩ := hk k (by simp)
   have h : bindO (F39_s1 self s i k) _ = some r := h
   unfold F39_s1 at h
   rw [hj] at h
   have h : foldN (F39_s1 self) F39_f1 M ks (i + 1) (max s j) = some r := h
   obtain ⟨g1, g2⟩ := lev_fold self ks M (i + 1) (max s j) r h (fun x hx => hk x (by simp [hx])) (by omega) (by omega)
   refine ⟨by omega, fun x hx => ?_⟩
   rcases List.mem_cons.1 hx with rfl | hx
   · exact ⟨j, hj, by omega⟩
   · exact g2 x hx
theorem ck_kid {n k : Node} (h : CK n) (hk : k ∈ n.kids) : CK k := by
 have hlo : loN = 4611686018400000000 := rfl
 obtain ⟨h1, h2, h3, j, h4, h5⟩ := h
 have hz := kids_size hk
 refine ⟨by omega, sorted_kid h2 hk, fun x hx y hy v w a b c => h3 x (nodes_sub hk hx) y (nodes_sub hk hy) v w a b c, ?_⟩
 have h6 := lev_up n j h5 (loN + 1) (by omega)
 have h6 : foldN (F39_s1 (F39 loN)) F39_f1 loN n.kids 0 0 = some j := h6
 obtain ⟨_, g⟩ := lev_fold (F39 loN) n.kids loN 0 0 j h6 (fun x hx => by
   have := kids_size hx
   obtain ⟨i, hi, i0, i1⟩ := levels39 loN x (by omega) (by omega)
   exact ⟨i, hi, i0, by omega⟩) (by omega) (by omega)
 obtain ⟨i, hi, hij⟩ := g k hk
 exact ⟨i, by omega, hi⟩
end Go.Abs.Try
namespace Go.Abs.Try
set_option maxRecDepth 100000
theorem vg_all (N : Nat) (hN : 2097200 < N) (m : List Entry) (hm : MSmall m) (hv : F126 N m = some true) : ∀ e ∈ m, VG e.entryVal.valSort e.entryVal := fun e he =>
 vg_of157 N (by omega) e (hm.args e he).2.2 (((valid_iff N hN m hm).1 hv).each e he)
theorem prog_val (N : Nat) (hN : loN ≤ N ∧ N ≤ hiN) (n : Node) (m : List Entry) (hm : MSmall m) (hz : n.size ≤ 4096) (hs : sortedR n = true) (hv : F126 N m = some true) : ∃ v st, F1399 N n m false = some (v, st) ∧ st = !(evalR m n).2 ∧ ((evalR m n).2 = true → v = (evalR m n).1 ∧ VOk v) := by
 have hlo : loN = 4611686018400000000 := rfl
 have hhi : hiN = 4611686018427387904 := rfl
 obtain ⟨b, hb, hmo⟩ := valid126 N (by omega) m hm
 have hmo := hmo (by rw [hv] at hb; injection hb with hb; exact hb.symm)
 obtain ⟨v, st, e, _, _, h2⟩ := evalP m hmo (vg_all N (by omega) m hm hv) N n false (by omega) hz hs
 obtain ⟨h3, h4⟩ := h2 rfl
 exact ⟨v, st, e, h3, fun he => ⟨h4 he, by rw [h4 he]; exact ev_ok hmo (by omega) hs he⟩⟩
theorem val_1031 (N : Nat) (hN : loN ≤ N ∧ N ≤ hiN) (n : Node) (m : List Entry) (s : Int) (hm : MSmall m) (hz : n.size ≤ 1048576) : ∃ r, F1031 N n m s = some r ∧ VSmall r.1 ∧ (r.2 ≠ 0 → r.1.valNum = 0) ∧
   ((F15 N n s = some 0 ∧ hol n = false ∧ F126 N m = some true ∧ (evalR m n).2 = true ∧ r = ((evalR m n).1, 0) ∧ VOk r.1) ∨ (r.2 ≠ 0 ∧ ∀ c, F15 N n s = some c → (c ≠ 0 ∧ r = (⟨0, 0, [], [], []⟩, c)) ∨ (c = 0 ∧ (hol n = true ∧ r = (⟨0, 0, [], [], []⟩, 3) ∨ hol n = false ∧ (F126 N m = some false ∧ r = (⟨0, 0, [], [], []⟩, 3) ∨ F126 N m = some true ∧ (evalR m n).2 = false ∧ r = (⟨0, 0, [], [], []⟩, 2)))))) := by
 have hlo : loN = 4611686018400000000 := rfl
 have hhi : hiN = 4611686018427387904 := rfl
 obtain ⟨c, h14, h15⟩ := check_same N n s (by omega) (by omega)
 obtain ⟨b, hb, _⟩ := valid126 N (by omega) m hm
 have h0 : VSmall ⟨0, 0, [], [], []⟩ := ⟨by simp, by simp, by simp⟩
 obtain ⟨fv, hfv⟩ : ∃ fv, fv = F126 N m := ⟨_, rfl⟩
 have hb' : fv = some b := hfv.trans hb
 rw [← hfv]
 unfold F1031
 rw [h14, bindO_some, hol42 n (by omega), eq1033 N (by omega) m hm, hb, bindO_some, bindO_some]
 by_cases hc : c = 0
 · subst hc
   have hck := ck_of15 N n s hN (by omega) h15
   rw [beq_self_eq_true, iteO_true]
   cases hh : hol n with
   | true => exact ⟨_, rfl, h0, fun _ => rfl, .inr ⟨by decide, fun c h => .inr ⟨by rw [h15] at h; injection h with h; exact h.symm, .inl ⟨rfl, rfl⟩⟩⟩⟩
   | false =>
     rw [iteO_false]
     cases b with
     | false => exact ⟨_, rfl, h0, fun _ => rfl, .inr ⟨by decide, fun c h => .inr ⟨by rw [h15] at h; injection h with h; exact h.symm, .inr ⟨rfl, .inl ⟨hb', rfl⟩⟩⟩⟩⟩
     | true =>
       obtain ⟨v, st, e, h1, h2⟩ := prog_val N hN n m hm (by have := hck.size; omega) hck.ord hb
       rw [iteO_true, e, bindO_some]
       cases he : (evalR m n).2 with
       | false =>
         rw [he] at h1
         subst h1
         exact ⟨_, rfl, h0, fun _ => rfl, .inr ⟨by decide, fun c h => .inr ⟨by rw [h15] at h; injection h with h; exact h.symm, .inr ⟨rfl, .inr ⟨hb', rfl, rfl⟩⟩⟩⟩⟩
       | true =>
         rw [he] at h1
         subst h1
         obtain ⟨ev, hok⟩ := h2 he
         obtain ⟨f1, f2, f3⟩ := fits_v hok.small
         simp only [Bool.not_true, iteO_false, f1, f2, f3, iteO_true]
         exact ⟨_, rfl, hok.small, fun h => absurd rfl h, .inl ⟨h15, trivial, hb', trivial, by rw [ev], hok⟩⟩
 · rw [beq_eq_false_iff_ne.2 hc, iteO_false]
   exact ⟨_, rfl, h0, fun _ => rfl, .inr ⟨hc, fun c' h => .inl ⟨by rw [h15] at h; injection h with h; rw [← h]; exact hc, by rw [h15] at h; injection h with h; rw [h]⟩⟩⟩
end Go.Abs.Try
