import Derived.Test.YtdigpkmbcojpoaaGreatWWt6
set_option linter.unusedSimpArgs false
set_option linter.unusedVariables false
namespace Go.Abs.Try
set_option maxRecDepth 100000
theorem parts_w : ∀ (P : Nat) (u : Node),u.size < P → u.size ≤ 1048576 → sortedR u = true → ∃ l,F1386 P u = some l ∧ l.length ≤ u.size ∧ (l.map Node.size).sum ≤ u.size
 | 0,_,h,_,_ => absurd h (Nat.not_lt_zero _)
 | P + 1,u,h,hz,hs => by
   show ∃ l,F1386b (F1386 P) P u = some l ∧ _
   unfold F1386b
   cases h30 : u.op == 30 with
   | true => exact ⟨[],rfl,by simp,by simp⟩
   | false =>
     cases h33 : u.op == 33 with
     | false => exact ⟨[u],rfl,size_pos u,by simp⟩
     | true =>
       obtain ⟨a,b,rfl,_,_,ha,hb⟩ := fAnd hs (beq_iff_eq.1 h33)
       simp only [nd_size,List.map_cons,List.map_nil,List.sum_cons,List.sum_nil] at h hz ⊢
       obtain ⟨l,e1,hl,hm⟩ := parts_w P a (by omega) (by omega) ha
       have hb1 := size_pos b
       refine ⟨l ++ [b], ?_,by simp; omega,by simp; omega⟩
       have hf : fits (l.length + 1) 64 = true := by
         unfold fits
         exact decide_eq_true (by have : roomMax = 140737488355328 := rfl; omega)
       simp only [nd_kids,at2_0,at2_1,bindO_some,e1,hf,iteO_true,iteO_false]
theorem same_fold1 (K : Nat) (b : Node) (hb : b.size < K) : ∀ (ks : List Node) (M i : Nat),ks.length < M → i + ks.length = b.kids.length → (∀ x ∈ ks,x.size < K) →
   ∃ v,foldN (F1245_s1 K b) F1245_f1 M ks i () = some v
 | _,0,_,h,_,_ => absurd h (Nat.not_lt_zero _)
 | [],_ + 1,_,_,_,_ => ⟨true,rfl⟩
 | x :: xs,M + 1,i,h,hi,hx => by
   simp only [List.length_cons] at h hi
   obtain ⟨y,hy⟩ : ∃ y,b.kids[i]? = some y := ⟨_,List.getElem?_eq_getElem (by omega)⟩
   have hyz := kids_size (List.mem_of_getElem? hy)
   show ∃ v,bindO (F1245_s1 K b () i x) _ = some v
   unfold F1245_s1
   simp only [sort36n K x (hx x (by simp)),sort36n K y (by omega),atO_get hy,bindO_some]
   cases sortS x == sortS y with
   | false => exact ⟨false,rfl⟩
   | true => exact same_fold1 K b hb xs M (i + 1) (by omega) (by omega) fun z hz => hx z (by simp [hz])
theorem same_app (K : Nat) (a b : Node) (ha : a.size < K) (hb : b.size < K) : ∃ v,F1245 K a b = some v ∧ (v = true → a.kids.length = b.kids.length) := by
 unfold F1245
 have no : ∀ v : Bool,v = false → (v = true → a.kids.length = b.kids.length) := fun v h h' => by rw [h] at h'; cases h'
 cases a.op == 3 with
 | false => exact ⟨false,rfl,no _ rfl⟩
 | true =>
 cases b.op == 3 with
 | false => exact ⟨false,rfl,no _ rfl⟩
 | true =>
 cases a.name.toList == b.name.toList with
 | false => exact ⟨false,rfl,no _ rfl⟩
 | true =>
 cases a.sortf == b.sortf with
 | false => exact ⟨false,rfl,no _ rfl⟩
 | true =>
 cases hl : (a.kids.length : Int) == (b.kids.length : Int) with
 | false => exact ⟨false,rfl,no _ rfl⟩
 | true =>
   have hl := beq_iff_eq.1 hl
   cases (a.kids.length : Int) == 0 with
   | true => exact ⟨false,rfl,no _ rfl⟩
   | false =>
     have := kids_len a
     obtain ⟨v,e1⟩ := same_fold1 K b hb a.kids K 0 (by omega) (by omega) fun x hx => by have := kids_size hx; omega
     exact ⟨v,e1,fun _ => by omega⟩
section
open Classical
variable (N : Nat) (hN : 4611686018400000000 ≤ N ∧ N ≤ 4611686018427387904)
include hN
theorem tot_w (b : Node) (hb : b.size < 10000) : ∀ (ks r : List Node) (M i : Nat),ks.length < M → i + ks.length = b.kids.length → (∀ x ∈ ks,x.size ≤ 10000) → (∀ x ∈ r,x.size ≤ 10000) →
   ∃ v,foldN (F1228_s2 N b) F1228_f2 M ks i r = some v
 | _,_,0,_,h,_,_,_ => absurd h (Nat.not_lt_zero _)
 | [],r,M + 1,i,_,_,_,_ => ⟨_,rfl⟩
 | k :: ks,r,M + 1,i,h,hi,hx,hr => by
   simp only [List.length_cons] at h hi
   obtain ⟨y,hy⟩ : ∃ y,b.kids[i]? = some y := ⟨_,List.getElem?_eq_getElem (by omega)⟩
   have hyz := kids_size (List.mem_of_getElem? hy)
   have hk := hx k (by simp)
   have IH := fun r hr => tot_w b hb ks r M (i + 1) (by omega) (by omega) (fun z hz => hx z (by simp [hz])) hr
   show ∃ v,bindO (F1228_s2 N b r i k) _ = some v
   unfold F1228_s2
   simp only [atO_get hy,eq1270 N k y (by omega),bindO_some,eq20 N k y (by omega)]
   match r,hr with
   | [],hr =>
     rw [decide_eq_false (show ¬ ((([] : List Node).length : Int) > 0) from by simp),iteO_false]
     cases decide (k = y) with
     | true => exact IH [] hr
     | false => exact ⟨false,rfl⟩
   | a :: r,hr =>
     rw [decide_eq_true (show ((a :: r).length : Int) > 0 from by simp only [List.length_cons]; omega),iteO_true,show atO (a :: r) 0 = some a from atO_lit (i := 0) rfl rfl,bindO_some,
       eq20 N a _ (by have := hr a (by simp); omega),bindO_some,inS_1,cutL_1]
     cases decide (a = eqR k y) with
     | true => exact IH r fun z hz => hr z (by simp [hz])
     | false =>
       cases decide (k = y) with
       | true => exact IH (a :: r) hr
       | false => exact ⟨false,rfl⟩
theorem tot_1228 (n : Node) (hs : sortedR n = true) (hz : n.size ≤ 4000) : ∃ v,F1228 N n = some v := by
 unfold F1228
 cases h35 : n.op == 35 with
 | false => exact ⟨false,rfl⟩
 | true =>
   obtain ⟨p,q,rfl,_,_,hp,hq⟩ := fImp hs (beq_iff_eq.1 h35)
   simp only [nd_size,List.map_cons,List.map_nil,List.sum_cons,List.sum_nil] at hz
   have key : ∀ a b : Node,a.size ≤ 4000 → b.size ≤ 4000 → ∃ v,(bindO (F1245 N a b) fun r21 =>
     iteO r21
     (bindO (F1386 N p) fun r23 =>
       bindO (F52 N r23) fun r24 =>
       bindO (F20 N r24 p) fun r25 =>
       iteO r25
       (foldN (S := List Node) (F1228_s2 N b) (F1228_f2) N a.kids 0 r23)
       (some false))
     (some false)) = some v := by
     intro a b ha hb
     obtain ⟨v,e1,hv⟩ := same_app N a b (by omega) (by omega)
     rw [e1,bindO_some]
     cases v with
     | false => exact ⟨false,rfl⟩
     | true =>
       obtain ⟨l,e3,hl,hm⟩ := parts_w N p (by omega) (by omega) hp
       have hx : ∀ x ∈ l,x.size ≤ 4000 := fun x hx => by
         have : x.size ≤ (l.map Node.size).sum := mem_le_sum l x hx
         omega
       have hcz := conjL_size l
       have hak := kids_len a
       rw [iteO_true,e3,bindO_some,conj52 N l (by omega) (fun x h => by have := hx x h; omega),bindO_some,eq20 N _ _ (by omega),bindO_some]
       obtain ⟨w,e5⟩ := tot_w N hN b (by omega) a.kids l N 0 (by omega) (by have := hv rfl; omega) (fun x h => by have := kids_size h; omega) (fun x h => by have := hx x h; omega)
       rw [e5]
       cases decide (conjL l = p) with
       | false => exact ⟨false,rfl⟩
       | true => exact ⟨w,rfl⟩
   simp only [iteO_true,nd_kids,at2_0,at2_1,bindO_some]
   cases h37 : q.op == 37 with
   | true =>
     obtain ⟨a,b,rfl,_⟩ := formEq hq (beq_iff_eq.1 h37)
     simp only [nd_size,List.map_cons,List.map_nil,List.sum_cons,List.sum_nil] at hz
     simp only [iteO_true,nd_kids,at2_0,at2_1,bindO_some]
     exact key a b (by omega) (by omega)
   | false =>
     cases h36 : q.op == 36 with
     | false => exact ⟨false,rfl⟩
     | true =>
       obtain ⟨a,b,rfl,_⟩ := fIff hq (beq_iff_eq.1 h36)
       simp only [nd_size,List.map_cons,List.map_nil,List.sum_cons,List.sum_nil] at hz
       simp only [iteO_true,iteO_false,nd_kids,at2_0,at2_1,bindO_some]
       exact key a b (by omega) (by omega)
theorem wit_1217 (n : Node) (hz : n.size ≤ 1048576) : ∃ w v,F1217 N n = some (w,v) ∧ (v = true → ∃ a b wn,wn.name = w ∧ WitN n a b wn ∧ wit wn a b ∧ CK n) := by
 have hlo : loN = 4611686018400000000 := rfl
 have hhi : hiN = 4611686018427387904 := rfl
 obtain ⟨r,h14,h15⟩ := check_same N n 2 hN hz
 have no : ∀ w : ByteArray, ∃ w' v',some (w,false) = some (w',v') ∧ (v' = true → ∃ a b wn,wn.name = w' ∧ WitN n a b wn ∧ wit wn a b ∧ CK n) := fun w => ⟨w,false,rfl,fun h => by cases h⟩
 have bad : F1226 N n = some false → ∃ w v,F1217 N n = some (w,v) ∧ (v = true → ∃ a b wn,wn.name = w ∧ WitN n a b wn ∧ wit wn a b ∧ CK n) := by
   intro h26
   have k1 : F1216 N n = some 0 := by
     unfold F1216
     rw [decide_eq_true (by omega : 10 ≤ N),iteO_true,h26,bindO_some,iteO_false]
   unfold F1217
   rw [k1,bindO_some]
   cases n.op == 34 <;> exact no _
 by_cases hr : r = 0
 · subst hr
   have ck := ck_of15 N n 2 (by omega) hz h15
   have hs := ck.ord
   have hz4 := ck.size
   cases hh : hol n with
   | true => exact bad (by unfold F1226; rw [h14,bindO_some,beq_self_eq_true,iteO_true,hol42 n (by omega),hh]; rfl)
   | false =>
     have h26 : F1226 N n = some true := by unfold F1226; rw [h14,bindO_some,beq_self_eq_true,iteO_true,hol42 n (by omega),hh]; rfl
     obtain ⟨v,hv⟩ := tot_1228 N hN n hs hz4
     have k1 : F1216 N n = some (bif v then 1 else codeK n) := by
       unfold F1216
       rw [decide_eq_true (by omega : 10 ≤ N),iteO_true,h26,bindO_some,iteO_true,hv,bindO_some]
       cases v with
       | true => rfl
       | false => rw [iteO_false]; exact chain n N hs (by omega) (by omega)
     cases ho : n.op == 34 with
     | false =>
       unfold F1217
       rw [k1,bindO_some,ho]
       exact no _
     | true =>
       have ho := beq_iff_eq.1 ho
       have vf : v = false := by
         have : F1228 N n = some false := by unfold F1228; rw [show (n.op == 35) = false from by rw [ho]; rfl]; rfl
         rw [hv] at this; injection this
       have n2 : ¬ K2 n := fun k => by rcases K2_op n k with k | k <;> (rw [ho] at k; cases k)
       have n3 : ¬ K3 n := fun k => by have := K3_op n k; rw [ho] at this; cases this
       have n4 : ¬ K4i n := fun k => by have := K4i_op n k; rw [ho] at this; cases this
       have n5 : ¬ K5i n := fun k => by have := K5i_op n k; rw [ho] at this; cases this
       have n7 : ¬ K7i n := fun k => by have := K7i_op n k; rw [ho] at this; cases this
       obtain ⟨M,rfl⟩ : ∃ M,N = M + 3 := ⟨N - 3,by omega⟩
       obtain ⟨p,q,hpq,_,_,hp,hq⟩ := fOr hs ho
       by_cases k4 : K4o n
       · have hk : codeK n = 4 := by unfold codeK; rw [if_neg n2,if_neg n3,if_pos (Or.inr k4)]
         obtain ⟨a,b,wn,e,hw⟩ := k4
         have e1 : F1217 (M + 3) n = some (wn.name,true) := by
           unfold F1217
           rw [k1,vf,hk,bindO_some,show (n.op == 34) = true from beq_iff_eq.2 ho,e]
           show (bindO (atO (part4 a b wn).kids 1) fun x7 => bindO (F1237 (M + 3) x7) fun r8 => some (r8.1.name,true)) = _
           rw [show atO (part4 a b wn).kids 1 = some (nd 33 [nd 40 [wn,a],nd 32 [nd 40 [wn,b]]]) from rfl,bindO_some,first2 (M + 1) 33 wn a _ rfl]; rfl
         have ep : p = nd 41 [a,b] := by rw [e] at hpq; unfold part4 at hpq; have := (nd_inj.1 hpq).2; injection this with h _; exact h.symm
         rw [ep] at hp
         obtain ⟨a',b',eab,s1,s2,_⟩ := fSub hp rfl
         have := (nd_inj.1 eab).2
         injection this with h1 h2
         injection h2 with h2 _
         subst h1; subst h2
         exact ⟨_,_,e1,fun _ => ⟨a,b,wn,rfl,.inl ⟨e,s1,s2⟩,hw,ck⟩⟩
       by_cases k5 : K5o n
       · have hk : codeK n = 5 := by unfold codeK; rw [if_neg n2,if_neg n3,if_neg (fun h : K4i n ∨ K4o n => h.elim n4 k4),if_pos (Or.inr k5)]
         obtain ⟨a,b,wn,e,h4,hw⟩ := k5
         have e1 : F1217 (M + 3) n = some (wn.name,true) := by
           unfold F1217
           rw [k1,vf,hk,bindO_some,show (n.op == 34) = true from beq_iff_eq.2 ho,e]
           show (bindO (atO (part5 a b wn).kids 1) fun x7 => bindO (F1237 (M + 3) x7) fun r8 => some (r8.1.name,true)) = _
           rw [show atO (part5 a b wn).kids 1 = some (nd 32 [nd 36 [nd 40 [wn,a],nd 40 [wn,b]]]) from rfl,bindO_some,first3 M 36 wn a _ rfl]; rfl
         have ep : p = nd 37 [a,b] := by rw [e] at hpq; unfold part5 at hpq; have := (nd_inj.1 hpq).2; injection this with h _; exact h.symm
         rw [ep] at hp
         obtain ⟨a',b',eab,s1,_⟩ := formEq hp rfl
         have := (nd_inj.1 eab).2
         injection this with h1 h2
         injection h2 with h2 _
         subst h1; subst h2
         exact ⟨_,_,e1,fun _ => ⟨a,b,wn,rfl,.inr (.inl ⟨e,h4,by rw [← s1]; exact h4⟩),hw,ck⟩⟩
       by_cases k7 : K7o n
       · have hk : codeK n = 7 := by
           unfold codeK
           rw [if_neg n2,if_neg n3,if_neg (fun h : K4i n ∨ K4o n => h.elim n4 k4),if_neg (fun h : K5i n ∨ K5o n => h.elim n5 k5),if_neg (fun h => x67 n hs h k7),if_pos (Or.inr k7)]
         obtain ⟨a,b,wn,e,h5,hw⟩ := k7
         have e1 : F1217 (M + 3) n = some (wn.name,true) := by
           unfold F1217
           rw [k1,vf,hk,bindO_some,show (n.op == 34) = true from beq_iff_eq.2 ho,e]
           show (bindO (F1236 (diffN a b wn)) fun r6 => some (r6.1.name,true)) = _
           rw [idx_diff]; rfl
         have ep : p = nd 37 [a,b] := by rw [e] at hpq; unfold diffN at hpq; have := (nd_inj.1 hpq).2; injection this with h _; exact h.symm
         rw [ep] at hp
         obtain ⟨a',b',eab,s1,_⟩ := formEq hp rfl
         have := (nd_inj.1 eab).2
         injection this with h1 h2
         injection h2 with h2 _
         subst h1; subst h2
         exact ⟨_,_,e1,fun _ => ⟨a,b,wn,rfl,.inr (.inr ⟨e,h5,by rw [← s1]; exact h5⟩),hw,ck⟩⟩
       · have hk : codeK n = if K6 n then 6 else if K8 n then 8 else 0 := by
           unfold codeK
           rw [if_neg n2,if_neg n3,if_neg (fun h : K4i n ∨ K4o n => h.elim n4 k4),if_neg (fun h : K5i n ∨ K5o n => h.elim n5 k5),if_neg (fun h : K7i n ∨ K7o n => h.elim n7 k7)]
         unfold F1217
         rw [k1,vf,bindO_some,show (n.op == 34) = true from beq_iff_eq.2 ho,cond_false,hk]
         by_cases h6 : K6 n
         · rw [if_pos h6]; exact no _
         · rw [if_neg h6]
           by_cases h8 : K8 n
           · rw [if_pos h8]; exact no _
           · rw [if_neg h8]; exact no _
 · exact bad (by unfold F1226; rw [h14,bindO_some,beq_eq_false_iff_ne.2 hr,iteO_false])
end
end Go.Abs.Try
