import Derived.Test.YtdigpkmbcojpoaaGreatWWt4
set_option linter.unusedSimpArgs false
set_option linter.unusedVariables false
namespace Go.Abs.Try
set_option maxRecDepth 100000
theorem add_s1 (fin : List Int → Option (List Int)) : ∀ (ks : List Int) (M i : Nat) (s : List Int),ks.length < M → s.length + ks.length ≤ 4000000 → foldN F1398_s1 fin M ks i s = fin (s ++ ks)
 | _,0,_,_,h,_ => absurd h (Nat.not_lt_zero _)
 | [],M + 1,i,s,_,_ => by rw [List.append_nil]; rfl
 | x :: xs,M + 1,i,s,h,hl => by
   simp only [List.length_cons] at h hl
   have ih := add_s1 fin xs M (i + 1) (s ++ [x]) (by omega) (by simp; omega)
   rw [List.append_assoc] at ih
   simp only [foldN,F1398_s1,fits8 (show s.length + 1 ≤ 8388608 by omega),iteO_true,bindO_some]
   exact ih
theorem add_s2 (fin : List Int → Option (List Int)) (ks : List Int) (M i : Nat) (s : List Int) (h : ks.length < M) (hl : s.length + ks.length ≤ 4000000) : foldN F1398_s2 fin M ks i s = fin (s ++ ks) := add_s1 fin ks M i s h hl
def Covers (m : List Entry) (n : Node) (r : List Int) : Prop := ∀ k ∈ nodes n,CK k → hol k = false → (evalR m k).2 = true → ∀ x,x ∈ (evalR m k).1.valSet ∨ x ∈ (evalR m k).1.valAt → x ∈ r
def Marks (m : List Entry) (k : Node) (l : List Int) (f : Option (List Int)) : Prop := ∃ r,f = some r ∧ r.length ≤ l.length + 400 * k.size ∧ (∀ x ∈ l,x ∈ r) ∧ Covers m k r
theorem kids_marks (m : List Entry) (self : Node → List Entry → List Int → Option (List Int)) : ∀ (ks : List Node) (M i : Nat) (s : List Int),ks.length < M → (∀ k ∈ ks, ∀ l : List Int,l.length + 400 * k.size ≤ 1000000 → Marks m k l (self k m l)) →
   s.length + 400 * (ks.map Node.size).sum ≤ 1000000 →
   ∃ r,foldN (F1398_s3 self m) F1398_f3 M ks i s = some r ∧ r.length ≤ s.length + 400 * (ks.map Node.size).sum ∧ (∀ x ∈ s,x ∈ r) ∧ ∀ k ∈ ks,Covers m k r
 | _,0,_,_,h,_,_ => absurd h (Nat.not_lt_zero _)
 | [],M + 1,i,s,_,_,_ => ⟨s,rfl,by simp,fun _ h => h,fun _ h => by cases h⟩
 | k :: ks,M + 1,i,s,h,hk,hl => by
   simp only [List.length_cons,List.map_cons,List.sum_cons] at h hl ⊢
   obtain ⟨r,h1,h2,h3,h4⟩ := hk k (by simp) s (by omega)
   obtain ⟨q,g1,g2,g3,g4⟩ := kids_marks m self ks M (i + 1) r (by omega) (fun x hx => hk x (by simp [hx])) (by omega)
   refine ⟨q, ?_,by omega,fun x hx => g3 x (h3 x hx),fun x hx => ?_⟩
   · simp only [foldN,F1398_s3,h1,bindO_some]
     exact g1
   · rcases List.mem_cons.1 hx with rfl | hx
     · exact fun y hy a b c z hz => g3 z (h4 y hy a b c z hz)
     · exact g4 x hx
theorem mem_nodes_cases {n x : Node} (h : x ∈ nodes n) : x = n ∨ ∃ k ∈ n.kids,x ∈ nodes k := by
 rw [nodes_eq] at h
 rcases List.mem_cons.1 h with e | h
 · exact .inl e
 · right
   have : ∀ ks : List Node,x ∈ nodesL ks → ∃ k ∈ ks,x ∈ nodes k := by
     intro ks
     induction ks with
     | nil => intro h; cases h
     | cons a ks ih =>
       intro h
       rw [nodesL] at h
       rcases List.mem_append.1 h with h | h
       · exact ⟨a,by simp,h⟩
       · obtain ⟨k,hk,hx⟩ := ih h
         exact ⟨k,by simp [hk],hx⟩
   exact this _ h
theorem marks_all (m : List Entry) (hm : MSmall m) (hv : ∀ M,loN ≤ M → M ≤ hiN → F126 M m = some true) : ∀ (N : Nat) (n : Node) (l : List Int),loN + n.size < N → N ≤ hiN → n.size ≤ 1000 → l.length + 400 * n.size ≤ 1000000 → Marks m n l (F1398 N n m l)
 | 0,_,_,h,_,_,_ => absurd h (Nat.not_lt_zero _)
 | N + 1,n,l,h,hN,hz,hl => by
   have hlo : loN = 4611686018400000000 := rfl
   have hhi : hiN = 4611686018427387904 := rfl
   have hkl := kids_len n
   have hse := Node.size_eq n
   have hks : ∀ k ∈ n.kids, ∀ l : List Int,l.length + 400 * k.size ≤ 1000000 → Marks m k l (F1398 N k m l) := fun k hk l hl => by
     have := kids_size hk
     exact marks_all m hm hv N k l (by omega) (by omega) (by omega) hl
   obtain ⟨v,c,h30,hc⟩ := value30 N (by omega) n (by omega) m hm
   show Marks m n l (F1398b (F1398 N) N n m l)
   unfold F1398b
   rw [h30,bindO_some]
   show Marks m n l (iteO (c == 0) (foldN (S := List Int) F1398_s1 (F1398_f1 (F1398 N) N (v,c) n m) N v.valSet 0 l) (foldN (S := List Int) (F1398_s4 (F1398 N) m) F1398_f4 N n.kids 0 l))
   have cover : ∀ r : List Int,(c = 0 → ∀ x,x ∈ (evalR m n).1.valSet ∨ x ∈ (evalR m n).1.valAt → x ∈ r) → (∀ k ∈ n.kids,Covers m k r) → Covers m n r := by
     intro r h0 hk x hx ck hh he
     rcases mem_nodes_cases hx with e | ⟨k,hkm,hxk⟩
     · subst e
       obtain ⟨e30,_⟩ := val_30 N (by omega) x m hm ck hh (hv N (by omega) (by omega)) he
       rw [h30] at e30
       injection e30 with e30
       exact h0 (by rw [Prod.mk.injEq] at e30; exact e30.2)
     · exact hk k hkm x hxk ck hh he
   by_cases h0 : c = 0
   · obtain ⟨hs,hmo,ev,he⟩ := hc h0
     have hok := ev_ok hmo (by omega) hs he
     rw [← ev] at hok
     have o1 := hok.2.1
     have o2 := hok.2.2.1
     rw [beq_iff_eq.2 h0,iteO_true,add_s1 _ _ N 0 l (by omega) (by omega)]
     show Marks m n l (foldN (S := List Int) F1398_s2 (F1398_f2 (F1398 N) N n m) N v.valAt 0 (l ++ v.valSet))
     rw [add_s2 _ _ N 0 _ (by omega) (by simp; omega)]
     unfold F1398_f2
     obtain ⟨r,g1,g2,g3,g4⟩ := kids_marks m (F1398 N) n.kids N 0 ((l ++ v.valSet) ++ v.valAt) (by omega) hks (by simp; omega)
     refine ⟨r,g1,by simp at g2; omega,fun x hx => g3 x (by simp [hx]),cover r (fun _ x hx => g3 x ?_) g4⟩
     rw [← ev] at hx
     rcases hx with hx | hx <;> simp [hx]
   · rw [beq_eq_false_iff_ne.2 h0,iteO_false]
     obtain ⟨r,g1,g2,g3,g4⟩ := kids_marks m (F1398 N) n.kids N 0 l (by omega) hks (by omega)
     exact ⟨r,g1,by omega,g3,cover r (fun h => absurd h h0) g4⟩
end Go.Abs.Try
