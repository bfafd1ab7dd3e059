import Derived.Test.YtdigpkmbcojpoaaGreatWWt2
import Derived.Test.YtdigpkmbcojpoaaGreatWLm1toWLm8
set_option linter.unusedSimpArgs false
set_option linter.unusedVariables false
namespace Go.Abs.Try
set_option maxRecDepth 100000
theorem ev_kids {m : List Entry} {n : Node} (h : (evalR m n).2 = true) : ∀ x ∈ n.kids,(evalR m x).2 = true := by
 rw [evalR_eq] at h
 cases hall : (n.kids.map (evalR m)).all (·.2) with
 | false => rw [hall] at h; cases h
 | true => exact fun x hx => List.all_eq_true.1 hall _ (List.mem_map.2 ⟨x,hx,rfl⟩)
theorem ev_all {m : List Entry} {ks : List Node} (h : ∀ x ∈ ks,(evalR m x).2 = true) : (ks.map (evalR m)).all (·.2) = true := by
 rw [List.all_eq_true]
 intro y hy
 obtain ⟨x,hx,rfl⟩ := List.mem_map.1 hy
 exact h x hx
theorem ev_nd {m : List Entry} {k : Int} {ks : List Node} (h13 : ((k == 1) || (k == 3)) = false) (h : ∀ x ∈ ks,(evalR m x).2 = true) : evalR m (nd k ks) = applyR k 0 ((ks.map (evalR m)).map (·.1)) := by
 rw [evalR_eq,nd_kids,nd_op,nd_num,ev_all h,cond_true,h13,cond_false]
theorem ev_look {m : List Entry} {n : Node} (h13 : ((n.op == 1) || (n.op == 3)) = true) (h : ∀ x ∈ n.kids,(evalR m x).2 = true) : evalR m n = (lookR n.name ((n.kids.map (evalR m)).map (·.1)) n.sortf m,true) := by
 rw [evalR_eq,ev_all h,cond_true,h13,cond_true]
theorem look_vg (nm : ByteArray) (args : List Val) (s : Int) : ∀ m : List Entry,(∀ e ∈ m,VG e.entryVal.valSort e.entryVal) → VG s (lookR nm args s m)
 | [],_ => default_vg s
 | x :: m,h => by
   rw [lookR]
   cases hc : (x.entryName.toList == nm.toList) && ((x.entryVal.valSort == s) && sameVs x.entryArgs args) with
   | true =>
     rw [Bool.and_eq_true,Bool.and_eq_true] at hc
     have := h x (by simp)
     rw [beq_iff_eq.1 hc.2.1] at this
     exact this
   | false => exact look_vg nm args s m fun e he => h e (by simp [he])
theorem set_vg {l : List Int} (h : asc l) : VG 4 ⟨4,0,l,[],[]⟩ := ⟨rfl,fun _ => ⟨rfl,rfl,rfl,h⟩,fun h => (by cases h)⟩
theorem sortC_45 {op s : Int} (h : sortC op s = 4 ∨ sortC op s = 5) : op = 1 ∨ op = 3 ∨ op = 9 ∨ op = 10 ∨ op = 11 ∨ op = 12 ∨ op = 13 ∨ op = 15 := by
 unfold sortC at h
 by_cases h1 : op = 1; · exact .inl h1
 by_cases h3 : op = 3; · exact .inr (.inl h3)
 by_cases h9 : op = 9; · exact .inr (.inr (.inl h9))
 by_cases h10 : op = 10; · exact .inr (.inr (.inr (.inl h10)))
 by_cases h11 : op = 11; · exact .inr (.inr (.inr (.inr (.inl h11))))
 by_cases h12 : op = 12; · exact .inr (.inr (.inr (.inr (.inr (.inl h12)))))
 by_cases h13 : op = 13; · exact .inr (.inr (.inr (.inr (.inr (.inr (.inl h13))))))
 by_cases h15 : op = 15; · exact .inr (.inr (.inr (.inr (.inr (.inr (.inr h15))))))
 rw [if_neg h1,if_neg h3,if_neg h9,if_neg h10,if_neg h11,if_neg h12,if_neg h13,if_neg h15] at h
 exfalso
 have key : ∀ c (d : Decidable c) (x y : Int),(x ≠ 4 ∧ x ≠ 5) → (y ≠ 4 ∧ y ≠ 5) → (@ite _ c d x y ≠ 4 ∧ @ite _ c d x y ≠ 5) := by
   intro c d x y hx hy
   split
   · exact hx
   · exact hy
 have c1 : (1 : Int) ≠ 4 ∧ (1 : Int) ≠ 5 := by decide
 have c2 : (2 : Int) ≠ 4 ∧ (2 : Int) ≠ 5 := by decide
 have c0 : (0 : Int) ≠ 4 ∧ (0 : Int) ≠ 5 := by decide
 have := key (op = 2) inferInstance _ _ c1 (key (op = 4) inferInstance _ _ c1 (key (op = 5) inferInstance _ _ c1 (key (op = 6) inferInstance _ _ c1 (key (op = 7) inferInstance _ _ c1 (key (op = 14) inferInstance _ _ c1 (key (op = 16) inferInstance _ _ c1 (key (op ≥ 30) inferInstance _ _ (key (op ≤ 42) inferInstance _ _ c2 c0) c0)))))))
 rcases h with h | h
 · exact this.1 h
 · exact this.2 h
theorem ev_ok {m : List Entry} (hm : MOk m) {n : Node} (hb : n.size ≤ 1048576) (hs : sortedR n = true) (h : (evalR m n).2 = true) : VOk (evalR m n).1 :=
 (eval127 m hm (1048601 + n.size) n (by omega) hb (fine_all n hs)).2 h
theorem eval_vg (m : List Entry) (hm : MOk m) (hv : ∀ e ∈ m,VG e.entryVal.valSort e.entryVal) : ∀ (P : Nat) (n : Node),n.size < P → n.size ≤ 1048576 → sortedR n = true → (evalR m n).2 = true → sortS n = 4 ∨ sortS n = 5 → VG (sortS n) (evalR m n).1
 | 0,_,h,_,_,_,_ => absurd h (Nat.not_lt_zero _)
 | P + 1,n,h,hz,hs,he,h45 => by
   have hk := ev_kids he
   by_cases h8 : n.op = 8
   · obtain ⟨c,a,b,rfl,_,hab,_,_,ha,hb⟩ := formIte hs h8
     simp only [nd_size,List.map_cons,List.map_nil,List.sum_cons,List.sum_nil] at h hz
     have e : (evalR m (nd 8 [c,a,b])).1 = bif (evalR m c).1.valNum == 1 then (evalR m a).1 else (evalR m b).1 := by
       rw [show evalR m (nd 8 [c,a,b]) = _ from ev_nd rfl hk]; rfl
     rw [sortS_ite] at h45 ⊢
     rw [e]
     cases (evalR m c).1.valNum == 1 with
     | true => exact eval_vg m hm hv P a (by omega) (by omega) ha (hk a (by simp [nd_kids])) h45
     | false =>
       rw [cond_false,hab]
       rw [hab] at h45
       exact eval_vg m hm hv P b (by omega) (by omega) hb (hk b (by simp [nd_kids])) h45
   have hsc : sortS n = sortC n.op n.sortf := by rw [sortS_eq,if_neg h8]
   rw [hsc] at h45
   have look : n.op = 1 ∨ n.op = 3 → VG (sortS n) (evalR m n).1 := by
     intro h13
     rw [ev_look (by rcases h13 with h | h <;> rw [h] <;> rfl) hk]
     have : sortS n = n.sortf := by rw [hsc]; rcases h13 with h | h <;> rw [h] <;> rfl
     rw [this]
     exact look_vg _ _ _ m hv
   have two : ∀ (k : Int),(k = 11 ∨ k = 12 ∨ k = 13) → (∃ a b,n = nd k [a,b] ∧ sortS a = 4 ∧ sortS b = 4 ∧ sortedR a = true ∧ sortedR b = true) → VG (sortS n) (evalR m n).1 := by
     intro k hk3 ⟨a,b,e,sa,sb,ha,hb⟩
     subst e
     simp only [nd_size,List.map_cons,List.map_nil,List.sum_cons,List.sum_nil] at h hz
     have va := eval_vg m hm hv P a (by omega) (by omega) ha (hk a (by simp [nd_kids])) (.inl sa)
     rw [sa] at va
     rcases hk3 with rfl | rfl | rfl <;> (rw [show evalR m (nd _ [a,b]) = _ from ev_nd rfl hk]; exact set_vg (combL_asc _ _ (va.2.1 rfl).ord))
   rcases sortC_45 h45 with o | o | o | o | o | o | o | o
   · exact look (.inl o)
   · exact look (.inr o)
   · obtain rfl := fEmpty hs o
     rw [ev_nd rfl (by simp)]; exact set_vg .nil
   · obtain ⟨a,rfl,_⟩ := fSing hs o
     rw [show evalR m (nd 10 [a]) = _ from ev_nd rfl hk]; exact set_vg (List.pairwise_singleton _ _)
   · obtain ⟨a,b,r⟩ := fCup hs o; exact two 11 (.inl rfl) ⟨a,b,r⟩
   · obtain ⟨a,b,r⟩ := fCap hs o; exact two 12 (.inr (.inl rfl)) ⟨a,b,r⟩
   · obtain ⟨a,b,r⟩ := fMinus hs o; exact two 13 (.inr (.inr rfl)) ⟨a,b,r⟩
   · obtain ⟨a,i,x,rfl,sa,_,_,ha,_,hx⟩ := fSto hs o
     simp only [nd_size,List.map_cons,List.map_nil,List.sum_cons,List.sum_nil] at h hz
     have va := eval_vg m hm hv P a (by omega) (by omega) ha (hk a (by simp [nd_kids])) (.inr sa)
     rw [sa] at va
     rw [show evalR m (nd 15 [a,i,x]) = _ from ev_nd rfl hk]
     have ox := ev_ok hm (by omega) hx (hk x (by simp [nd_kids]))
     exact stored_vg (va.2.2 rfl) _ _ (fitsG_iff.2 ox.1)
theorem occ_own {k : ByteArray} {n : Node} (h : occ k n = false) : (k.toList == n.name.toList) = false := by
 unfold occ at h
 rw [nodes_eq,List.any_cons,Bool.or_eq_false_iff] at h
 have := beq_eq_false_iff_ne.1 h.1
 exact beq_eq_false_iff_ne.2 fun e => this e.symm
theorem mem_nodesL {x k : Node} : ∀ {ks : List Node},k ∈ ks → x ∈ nodes k → x ∈ nodesL ks
 | y :: ks,hk,hx => by
   rw [nodesL]
   rcases List.mem_cons.1 hk with rfl | hk
   · exact List.mem_append.2 (.inl hx)
   · exact List.mem_append.2 (.inr (mem_nodesL hk hx))
theorem nodes_sub {n k : Node} (hk : k ∈ n.kids) {x : Node} (hx : x ∈ nodes k) : x ∈ nodes n := by
 rw [nodes_eq]; exact List.mem_cons_of_mem _ (mem_nodesL hk hx)
theorem nodes_self (n : Node) : n ∈ nodes n := by rw [nodes_eq]; simp
theorem occ_kid {k : ByteArray} {n x : Node} (h : occ k n = false) (hx : x ∈ n.kids) : occ k x = false := by
 unfold occ at h ⊢
 rw [List.any_eq_false] at h ⊢
 exact fun y hy => h y (nodes_sub hx hy)
theorem eval_other (m : List Entry) (e : Entry) : ∀ (P : Nat) (n : Node),n.size < P → occ e.entryName n = false → evalR (setM m e) n = evalR m n
 | 0,_,h,_ => absurd h (Nat.not_lt_zero _)
 | P + 1,n,h,ho => by
   have hk : n.kids.map (evalR (setM m e)) = n.kids.map (evalR m) := List.map_congr_left fun x hx => eval_other m e P x (by have := kids_size hx; omega) (occ_kid ho hx)
   rw [evalR_eq,evalR_eq,hk,look_other m e n.name _ n.sortf (occ_own ho)]
end Go.Abs.Try
