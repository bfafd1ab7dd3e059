import Derived.Test.YtdigpkmbcojpoaaGreatWMod1toWP8
set_option linter.unusedSimpArgs false
set_option linter.unusedVariables false
namespace Go.Abs.Try
set_option maxRecDepth 100000
def zV : Val := ⟨0,0,[],[],[]⟩
def gV (v : List Val) (i : Nat) : Val := v.getD i zV
theorem at_gV {v : List Val} {i : Nat} (h : i < v.length) : atO v (i : Int) = some (gV v i) := by
 have : v[i]? = some v[i] := List.getElem?_eq_getElem h
 rw [atO_get this,gV,List.getD_eq_getElem?_getD,this]; rfl
theorem gV_mem {v : List Val} {i : Nat} (h : i < v.length) : gV v i ∈ v := by
 have : v[i]? = some v[i] := List.getElem?_eq_getElem h
 rw [gV,List.getD_eq_getElem?_getD,this]; exact List.getElem_mem h
def truthV (b : Bool) : Val := ⟨2,bif b then 1 else 0,[],[],[]⟩
theorem truth186 (b : Bool) : F186 b = some (truthV b) := by cases b <;> rfl
def decB (op : Int) (v : List Val) : Bool :=
 bif op == 30 then true else
 bif op == 32 then (gV v 0).valNum == 0 else
 bif op == 33 then ((gV v 0).valNum == 1) && ((gV v 1).valNum == 1) else
 bif op == 34 then ((gV v 0).valNum == 1) || ((gV v 1).valNum == 1) else
 bif op == 35 then ((gV v 0).valNum == 0) || ((gV v 1).valNum == 1) else
 bif op == 36 then (gV v 0).valNum == (gV v 1).valNum else
 bif op == 37 then sameV (gV v 0) (gV v 1) else
 bif op == 38 then decide ((gV v 0).valNum ≤ (gV v 1).valNum) else
 bif op == 39 then decide ((gV v 0).valNum < (gV v 1).valNum) else
 bif op == 40 then hasL (gV v 1).valSet (gV v 0).valNum else
 bif op == 41 then (gV v 0).valSet.all (fun x => hasL (gV v 1).valSet x) else false
def arity (op : Int) : Nat :=
 bif (op == 4) || ((op == 5) || ((op == 11) || ((op == 12) || ((op == 13) || ((op == 14) || ((op == 33) || ((op == 34) || ((op == 35) || ((op == 36) || ((op == 37) || ((op == 38) || ((op == 39) || ((op == 40) || (op == 41)))))))))))))) then 2 else
 bif (op == 6) || ((op == 7) || ((op == 10) || ((op == 16) || (op == 32)))) then 1 else
 bif (op == 8) || (op == 15) then 3 else 0
def VOk (v : Val) : Prop := (-1152921504606846976 ≤ v.valNum ∧ v.valNum ≤ 1152921504606846976) ∧ v.valSet.length ≤ 200 ∧ v.valAt.length ≤ 200 ∧ v.valTo.length = v.valAt.length
theorem VOk.small {v : Val} (h : VOk v) : VSmall v := ⟨by have := h.2.1; omega,by have := h.2.2.1; omega,by have := h.2.2.2; have := h.2.2.1; omega⟩
theorem decide178 (N : Nat) (hN : 1048600 < N) (op : Int) (v : List Val) (hv : ∀ x ∈ v,VOk x) (ha : arity op ≤ v.length) : F178 N op v = some (truthV (decB op v)) := by
 have t := truth186 true; have f := truth186 false
 have g0 : 0 < v.length → atO v 0 = some (gV v 0) := fun h => at_gV (i := 0) h
 have g1 : 1 < v.length → atO v 1 = some (gV v 1) := fun h => at_gV (i := 1) h
 simp only [F178,decB]
 by_cases h : op = 30
 · subst h; exact t
 · rw [beq_eq_false_iff_ne.2 h]; simp only [iteO_false,cond_false]
   by_cases h : op = 32
   · subst h; have := g0 (by have : arity 32 = 1 := rfl; omega); simp only [this,truth186,iteO_true,bindO_some,beq_self_eq_true,cond_true]
   · rw [beq_eq_false_iff_ne.2 h]; simp only [iteO_false,cond_false]
     by_cases h : op = 33
     · subst h
       have a2 : arity 33 = 2 := rfl
       have e0 := g0 (by omega); have e1 := g1 (by omega)
       simp only [e0,e1,bindO_some,truth186,beq_self_eq_true,iteO_true,cond_true]
       cases (gV v 0).valNum == 1 <;> rfl
     · rw [beq_eq_false_iff_ne.2 h]; simp only [iteO_false,cond_false]
       by_cases h : op = 34
       · subst h
         have a2 : arity 34 = 2 := rfl
         have e0 := g0 (by omega); have e1 := g1 (by omega)
         simp only [e0,e1,bindO_some,truth186,beq_self_eq_true,iteO_true,cond_true]
         cases (gV v 0).valNum == 1 <;> rfl
       · rw [beq_eq_false_iff_ne.2 h]; simp only [iteO_false,cond_false]
         by_cases h : op = 35
         · subst h
           have a2 : arity 35 = 2 := rfl
           have e0 := g0 (by omega); have e1 := g1 (by omega)
           simp only [e0,e1,bindO_some,truth186,beq_self_eq_true,iteO_true,cond_true]
           cases (gV v 0).valNum == 0 <;> rfl
         · rw [beq_eq_false_iff_ne.2 h]; simp only [iteO_false,cond_false]
           by_cases h : op = 36
           · subst h
             have a2 : arity 36 = 2 := rfl
             have e0 := g0 (by omega); have e1 := g1 (by omega)
             simp only [e0,e1,bindO_some,truth186,beq_self_eq_true,iteO_true,cond_true]
           · rw [beq_eq_false_iff_ne.2 h]; simp only [iteO_false,cond_false]
             by_cases h : op = 37
             · subst h
               have a2 : arity 37 = 2 := rfl
               have e0 := g0 (by omega); have e1 := g1 (by omega)
               have hs := hv _ (gV_mem (v := v) (i := 0) (by omega))
               have hm := hs.small
               simp only [e0,e1,bindO_some,truth186,beq_self_eq_true,iteO_true,cond_true,same183 N (gV v 0) (gV v 1) ⟨by have := hm.1; omega,by have := hm.2.1; omega,by have := hm.2.2; omega⟩]
             · rw [beq_eq_false_iff_ne.2 h]; simp only [iteO_false,cond_false]
               by_cases h : op = 38
               · subst h
                 have a2 : arity 38 = 2 := rfl
                 have e0 := g0 (by omega); have e1 := g1 (by omega)
                 simp only [e0,e1,bindO_some,truth186,beq_self_eq_true,iteO_true,cond_true]
               · rw [beq_eq_false_iff_ne.2 h]; simp only [iteO_false,cond_false]
                 by_cases h : op = 39
                 · subst h
                   have a2 : arity 39 = 2 := rfl
                   have e0 := g0 (by omega); have e1 := g1 (by omega)
                   simp only [e0,e1,bindO_some,truth186,beq_self_eq_true,iteO_true,cond_true]
                 · rw [beq_eq_false_iff_ne.2 h]; simp only [iteO_false,cond_false]
                   by_cases h : op = 40
                   · subst h
                     have a2 : arity 40 = 2 := rfl
                     have e0 := g0 (by omega); have e1 := g1 (by omega)
                     have hs := (hv _ (gV_mem (v := v) (i := 1) (by omega))).small.1
                     simp only [e0,e1,bindO_some,truth186,beq_self_eq_true,iteO_true,cond_true,has184 (gV v 0).valNum (gV v 1).valSet N (by omega)]
                   · rw [beq_eq_false_iff_ne.2 h]; simp only [iteO_false,cond_false]
                     by_cases h : op = 41
                     · subst h
                       have a2 : arity 41 = 2 := rfl
                       have e0 := g0 (by omega); have e1 := g1 (by omega)
                       have hs0 := (hv _ (gV_mem (v := v) (i := 0) (by omega))).small.1
                       have hs := (hv _ (gV_mem (v := v) (i := 1) (by omega))).small.1
                       simp only [e0,bindO_some,beq_self_eq_true,iteO_true,cond_true]
                       rw [foldN_all (step := F178_s1 N v) (fin := F178_f1) (fun x => hasL (gV v 1).valSet x) (truthV false) (gV v 0).valSet N 0 (by omega) fun x hx i => by
                         simp only [F178_s1,e1,bindO_some,has184 x (gV v 1).valSet N (by omega),truth186]
                         cases hasL (gV v 1).valSet x <;> rfl]
                       cases (gV v 0).valSet.all fun x => hasL (gV v 1).valSet x <;> rfl
                     · rw [beq_eq_false_iff_ne.2 h]; simp only [iteO_false,cond_false]; exact f
def numV (x : Int) : Val := ⟨1,x,[],[],[]⟩
theorem num173 (x : Int) : F173 x = some (numV x,fitsG x) := by simp only [F173,fits181,bindO_some]; rfl
def scaledR (c n : Int) : Val × Bool := (F174 c n).getD (zV,false)
theorem scaled174 (c n : Int) (hc : -1000000000000 ≤ c ∧ c ≤ 1000000000000) (hn : -1152921504606846976 ≤ n ∧ n ≤ 1152921504606846976) :
   F174 c n = some (scaledR c n) ∧ (scaledR c n).2 = fitsG (c * n) ∧ ((scaledR c n).2 = true → (scaledR c n).1 = numV (c * n)) := by
 have key : ∃ r,F174 c n = some r ∧ r.2 = fitsG (c * n) ∧ (r.2 = true → r.1 = numV (c * n)) := by
   -- |c| = k > 0: n > G / k,n < -(G / k),or between
   have main : ∀ k m : Int,0 < k → k ≤ 1000000000000 → (-1152921504606846976 ≤ m ∧ m ≤ 1152921504606846976) →
       ∃ r,iteO (decide (k = 0)) none (iteO (decide (m > (IntKind.i64.wrap ((1152921504606846976 : Int).tdiv k)))) (some ((⟨1,0,[],[],[]⟩ : Val),false)) (iteO (decide (m < (IntKind.i64.wrap (0 - (IntKind.i64.wrap ((1152921504606846976 : Int).tdiv k)))))) (some ((⟨1,0,[],[],[]⟩ : Val),false)) (bindO (F173 (IntKind.i64.wrap (k * m))) fun r2 => some (r2.1,r2.2)))) = some r ∧ r.2 = fitsG (k * m) ∧ (r.2 = true → r.1 = numV (k * m)) := by
     intro k m hk hk2 hm
     have hd : (1152921504606846976 : Int).tdiv k = 1152921504606846976 / k := Int.tdiv_eq_ediv_of_nonneg (by omega)
     have hq0 : 0 ≤ 1152921504606846976 / k := Int.ediv_nonneg (by omega) (by omega)
     have hq1 : 1152921504606846976 / k ≤ 1152921504606846976 := Int.ediv_le_self _ (by omega)
     have w1 : IntKind.i64.wrap ((1152921504606846976 : Int).tdiv k) = 1152921504606846976 / k := by rw [hd]; exact wrap_id (by omega)
     have w2 : IntKind.i64.wrap (0 - 1152921504606846976 / k) = -(1152921504606846976 / k) := by rw [wrap_id (by omega)]; omega
     have hkm : 1152921504606846976 / k * k ≤ 1152921504606846976 := Int.ediv_mul_le _ (by omega)
     have hkm2 : 1152921504606846976 < (1152921504606846976 / k + 1) * k := Int.lt_ediv_add_one_mul_self _ hk
     rw [decide_eq_false (by omega : ¬ k = 0),iteO_false,w1,w2]
     by_cases h1 : m > 1152921504606846976 / k
     · have : fitsG (k * m) = false := by
         have : (1152921504606846976 / k + 1) * k ≤ m * k := Int.mul_le_mul_of_nonneg_right (by omega) (by omega)
         have e : k * m = m * k := Int.mul_comm _ _
         simp only [fitsG,Bool.and_eq_false_iff,decide_eq_false_iff_not]; right; omega
       rw [decide_eq_true h1,iteO_true]
       exact ⟨_,rfl,this.symm,fun h => by cases h⟩
     · rw [decide_eq_false h1,iteO_false]
       by_cases h2 : m < -(1152921504606846976 / k)
       · have : fitsG (k * m) = false := by
           have : m * k ≤ -(1152921504606846976 / k + 1) * k := Int.mul_le_mul_of_nonneg_right (by omega) (by omega)
           have e : k * m = m * k := Int.mul_comm _ _
           have e2 : -(1152921504606846976 / k + 1) * k = -((1152921504606846976 / k + 1) * k) := Int.neg_mul _ _
           simp only [fitsG,Bool.and_eq_false_iff,decide_eq_false_iff_not]; left; omega
         rw [decide_eq_true h2,iteO_true]
         exact ⟨_,rfl,this.symm,fun h => by cases h⟩
       · have u1 : m * k ≤ 1152921504606846976 / k * k := Int.mul_le_mul_of_nonneg_right (by omega) (by omega)
         have u2 : -(1152921504606846976 / k) * k ≤ m * k := Int.mul_le_mul_of_nonneg_right (by omega) (by omega)
         have e : k * m = m * k := Int.mul_comm _ _
         have e2 : -(1152921504606846976 / k) * k = -(1152921504606846976 / k * k) := Int.neg_mul _ _
         rw [decide_eq_false h2,iteO_false,wrap_id (by omega),num173,bindO_some]
         exact ⟨_,rfl,rfl,fun _ => rfl⟩
   simp only [F174]
   by_cases h0 : n = 0
   · subst h0
     rw [beq_self_eq_true,iteO_true,Int.mul_zero,wrap_id (by omega),num173,bindO_some]
     exact ⟨_,rfl,rfl,fun _ => rfl⟩
   · rw [beq_eq_false_iff_ne.2 h0,iteO_false]
     by_cases h1 : c = 0
     · subst h1
       rw [beq_self_eq_true,iteO_true,Int.zero_mul,wrap_id (by omega),num173,bindO_some]
       exact ⟨_,rfl,rfl,fun _ => rfl⟩
     · rw [beq_eq_false_iff_ne.2 h1,iteO_false]
       by_cases h2 : c < 0
       · have e1 : IntKind.i64.wrap (0 - c) = -c := by rw [wrap_id (by omega)]; omega
         have e2 : IntKind.i64.wrap (0 - n) = -n := by rw [wrap_id (by omega)]; omega
         rw [decide_eq_true h2,iteO_true,e1,e2]
         have := main (-c) (-n) (by omega) (by omega) (by omega)
         rw [Int.neg_mul_neg] at this ⊢
         exact this
       · rw [decide_eq_false h2,iteO_false]
         exact main c n (by omega) (by omega) hn
 obtain ⟨r,h1,h2,h3⟩ := key
 have : scaledR c n = r := by rw [scaledR,h1]; rfl
 rw [this]; exact ⟨h1,h2,h3⟩
end Go.Abs.Try
namespace Go.Abs.Try
set_option maxRecDepth 100000
def applyR (op num : Int) (v : List Val) : Val × Bool :=
 bif op == 2 then (numV num,fitsG num) else
 bif op == 4 then (numV ((gV v 0).valNum + (gV v 1).valNum),fitsG ((gV v 0).valNum + (gV v 1).valNum)) else
 bif op == 5 then (numV ((gV v 0).valNum - (gV v 1).valNum),fitsG ((gV v 0).valNum - (gV v 1).valNum)) else
 bif op == 6 then (numV (0 - (gV v 0).valNum),fitsG (0 - (gV v 0).valNum)) else
 bif op == 7 then scaledR num (gV v 0).valNum else
 bif op == 8 then (bif (gV v 0).valNum == 1 then gV v 1 else gV v 2,true) else
 bif op == 10 then (⟨4,0,[(gV v 0).valNum],[],[]⟩,true) else
 bif (op == 11) || ((op == 12) || (op == 13)) then (⟨4,0,combL op (gV v 0).valSet (gV v 1).valSet,[],[]⟩,decide (((combL op (gV v 0).valSet (gV v 1).valSet).length : Int) ≤ 200)) else
 bif op == 14 then (numV (atV (gV v 0) (gV v 1).valNum),fitsG (atV (gV v 0) (gV v 1).valNum)) else
 bif op == 15 then (storedV (gV v 0) (gV v 1).valNum (gV v 2).valNum,decide (((storedV (gV v 0) (gV v 1).valNum (gV v 2).valNum).valAt.length : Int) ≤ 200)) else
 bif op == 16 then (numV (gV v 0).valNum,fitsG (gV v 0).valNum) else
 bif op == 9 then (⟨4,0,[],[],[]⟩,true) else (truthV (decB op v),true)
theorem numV_ok {x : Int} (h : fitsG x = true) : VOk (numV x) := ⟨fitsG_iff.1 h,by simp [numV],by simp [numV],by simp [numV]⟩
theorem truthV_ok (b : Bool) : VOk (truthV b) := by cases b <;> exact ⟨by decide,by decide,by decide,rfl⟩
theorem atZ_mem {i : Int} : ∀ {l r : List Int},atZ i l r = 0 ∨ atZ i l r ∈ r
 | [],r => .inl (by cases r <;> rfl)
 | _ :: _,[] => .inl rfl
 | x :: l,y :: r => by
   rw [atZ]
   cases x == i with
   | true => exact .inr (by simp)
   | false =>
     rcases atZ_mem (i := i) (l := l) (r := r) with h | h
     · exact .inl h
     · exact .inr (by simp [h])
theorem apply160 (N : Nat) (hN : 1048600 < N) (n : Node) (v : List Val) (hv : ∀ x ∈ v,VOk x) (ha : arity n.op ≤ v.length) (hnum : n.op = 2 ∨ n.op = 7 → -1000000000000 ≤ n.num ∧ n.num ≤ 1000000000000) :
   F160 N n v = some (applyR n.op n.num v) ∧ ((applyR n.op n.num v).2 = true → VOk (applyR n.op n.num v).1) := by
 have g0 : 0 < v.length → atO v 0 = some (gV v 0) := fun h => at_gV (i := 0) h
 have g1 : 1 < v.length → atO v 1 = some (gV v 1) := fun h => at_gV (i := 1) h
 have g2 : 2 < v.length → atO v 2 = some (gV v 2) := fun h => at_gV (i := 2) h
 have m0 : 0 < v.length → VOk (gV v 0) := fun h => hv _ (gV_mem h)
 have m1 : 1 < v.length → VOk (gV v 1) := fun h => hv _ (gV_mem h)
 have m2 : 2 < v.length → VOk (gV v 2) := fun h => hv _ (gV_mem h)
 obtain ⟨op,srt,nm,num,ks⟩ := n
 simp only at ha hnum ⊢
 simp only [F160,applyR]
 by_cases h : op = 2
 · subst h
   simp only [beq_self_eq_true,iteO_true,cond_true,num173,bindO_some]
   exact ⟨trivial,fun h => numV_ok h⟩
 rw [beq_eq_false_iff_ne.2 h]; simp only [iteO_false,cond_false]
 by_cases h : op = 4
 · subst h
   have a2 : arity 4 = 2 := rfl
   have e0 := g0 (by omega); have e1 := g1 (by omega)
   have k0 := (m0 (by omega)).1; have k1 := (m1 (by omega)).1
   simp only [e0,e1,beq_self_eq_true,iteO_true,cond_true,num173,bindO_some,wrap_id (show -9223372036854775808 ≤ (gV v 0).valNum + (gV v 1).valNum ∧ (gV v 0).valNum + (gV v 1).valNum < 9223372036854775808 by omega)]
   exact ⟨trivial,fun h => numV_ok h⟩
 rw [beq_eq_false_iff_ne.2 h]; simp only [iteO_false,cond_false]
 by_cases h : op = 5
 · subst h
   have a2 : arity 5 = 2 := rfl
   have e0 := g0 (by omega); have e1 := g1 (by omega)
   have k0 := (m0 (by omega)).1; have k1 := (m1 (by omega)).1
   simp only [e0,e1,beq_self_eq_true,iteO_true,cond_true,num173,bindO_some,wrap_id (show -9223372036854775808 ≤ (gV v 0).valNum - (gV v 1).valNum ∧ (gV v 0).valNum - (gV v 1).valNum < 9223372036854775808 by omega)]
   exact ⟨trivial,fun h => numV_ok h⟩
 rw [beq_eq_false_iff_ne.2 h]; simp only [iteO_false,cond_false]
 by_cases h : op = 6
 · subst h
   have a2 : arity 6 = 1 := rfl
   have e0 := g0 (by omega)
   have k0 := (m0 (by omega)).1
   simp only [e0,beq_self_eq_true,iteO_true,cond_true,num173,bindO_some,wrap_id (show -9223372036854775808 ≤ 0 - (gV v 0).valNum ∧ 0 - (gV v 0).valNum < 9223372036854775808 by omega)]
   exact ⟨trivial,fun h => numV_ok h⟩
 rw [beq_eq_false_iff_ne.2 h]; simp only [iteO_false,cond_false]
 by_cases h : op = 7
 · subst h
   have a2 : arity 7 = 1 := rfl
   have e0 := g0 (by omega)
   have k0 := (m0 (by omega)).1
   obtain ⟨s1,s2,s3⟩ := scaled174 num (gV v 0).valNum (hnum (.inr rfl)) k0
   simp only [e0,beq_self_eq_true,iteO_true,cond_true,s1,bindO_some]
   refine ⟨trivial,fun h => ?_⟩
   rw [s3 h]; exact numV_ok (by rw [← s2]; exact h)
 rw [beq_eq_false_iff_ne.2 h]; simp only [iteO_false,cond_false]
 by_cases h : op = 8
 · subst h
   have a2 : arity 8 = 3 := rfl
   have e0 := g0 (by omega); have e1 := g1 (by omega); have e2 := g2 (by omega)
   simp only [e0,e1,e2,beq_self_eq_true,iteO_true,cond_true,bindO_some]
   cases (gV v 0).valNum == 1 with
   | true => exact ⟨rfl,fun _ => m1 (by omega)⟩
   | false => exact ⟨rfl,fun _ => m2 (by omega)⟩
 rw [beq_eq_false_iff_ne.2 h]; simp only [iteO_false,cond_false]
 by_cases h : op = 10
 · subst h
   have a2 : arity 10 = 1 := rfl
   have e0 := g0 (by omega)
   simp only [e0,beq_self_eq_true,iteO_true,cond_true,bindO_some]
   exact ⟨trivial,fun _ => ⟨⟨by simp only; omega,by simp only; omega⟩,by simp,by simp,rfl⟩⟩
 rw [beq_eq_false_iff_ne.2 h]; simp only [iteO_false,cond_false]
 have comb : (op = 11 ∨ op = 12 ∨ op = 13) → F175 N op (gV v 0).valSet (gV v 1).valSet = some (combL op (gV v 0).valSet (gV v 1).valSet) ∧ atO v 0 = some (gV v 0) ∧ atO v 1 = some (gV v 1) := by
   intro h3
   have a2 : arity op = 2 := by rcases h3 with rfl | rfl | rfl <;> rfl
   have k0 := (m0 (by omega)).2.1; have k1 := (m1 (by omega)).2.1
   exact ⟨combine175 N op _ _ (by omega) (by omega),g0 (by omega),g1 (by omega)⟩
 have setOk : ∀ l : List Int,decide ((l.length : Int) ≤ 200) = true → VOk ⟨4,0,l,[],[]⟩ := fun l h => ⟨⟨by simp only; omega,by simp only; omega⟩,by have := of_decide_eq_true h; simp only; omega,by simp,rfl⟩
 by_cases h : op = 11
 · obtain ⟨c1,e0,e1⟩ := comb (.inl h)
   subst h
   simp only [e0,e1,c1,beq_self_eq_true,iteO_true,cond_true,bindO_some,Bool.true_or]
   exact ⟨trivial,setOk _⟩
 by_cases h' : op = 12
 · obtain ⟨c1,e0,e1⟩ := comb (.inr (.inl h'))
   subst h'
   simp only [e0,e1,c1,show ((12 : Int) == 11) = false from rfl,beq_self_eq_true,iteO_true,iteO_false,cond_true,bindO_some,Bool.true_or,Bool.false_or]
   exact ⟨trivial,setOk _⟩
 by_cases h'' : op = 13
 · obtain ⟨c1,e0,e1⟩ := comb (.inr (.inr h''))
   subst h''
   simp only [e0,e1,c1,show ((13 : Int) == 11) = false from rfl,show ((13 : Int) == 12) = false from rfl,beq_self_eq_true,iteO_true,iteO_false,cond_true,bindO_some,Bool.false_or]
   exact ⟨trivial,setOk _⟩
 rw [beq_eq_false_iff_ne.2 h,beq_eq_false_iff_ne.2 h',beq_eq_false_iff_ne.2 h'']; simp only [iteO_false,cond_false,Bool.or_self]
 by_cases h : op = 14
 · subst h
   have a2 : arity 14 = 2 := rfl
   have e0 := g0 (by omega); have e1 := g1 (by omega)
   have k0 := m0 (by omega)
   simp only [e0,e1,at176 N (gV v 0) (gV v 1).valNum (by have := k0.2.2.1; omega) k0.2.2.2,beq_self_eq_true,iteO_true,cond_true,bindO_some,num173]
   exact ⟨trivial,fun h => numV_ok h⟩
 rw [beq_eq_false_iff_ne.2 h]; simp only [iteO_false,cond_false]
 by_cases h : op = 15
 · subst h
   have a2 : arity 15 = 3 := rfl
   have e0 := g0 (by omega); have e1 := g1 (by omega); have e2 := g2 (by omega)
   have k0 := m0 (by omega)
   simp only [e0,e1,e2,stored177 N (gV v 0) (gV v 1).valNum (gV v 2).valNum (by have := k0.2.2.1; omega) (by have := k0.2.2.1; omega) k0.2.2.2,beq_self_eq_true,iteO_true,cond_true,bindO_some]
   refine ⟨trivial,fun h => ⟨k0.1,by simp [storedV],by have := of_decide_eq_true h; omega, ?_⟩⟩
   exact (storeL_len _ _ _ _).2
 rw [beq_eq_false_iff_ne.2 h]; simp only [iteO_false,cond_false]
 by_cases h : op = 16
 · subst h
   have a2 : arity 16 = 1 := rfl
   have e0 := g0 (by omega)
   simp only [e0,beq_self_eq_true,iteO_true,cond_true,bindO_some,num173]
   exact ⟨trivial,fun h => numV_ok h⟩
 rw [beq_eq_false_iff_ne.2 h]; simp only [iteO_false,cond_false]
 by_cases h : op = 9
 · subst h
   simp only [beq_self_eq_true,iteO_true,cond_true]
   exact ⟨trivial,fun _ => ⟨⟨by simp only; omega,by simp only; omega⟩,by simp,by simp,rfl⟩⟩
 rw [beq_eq_false_iff_ne.2 h]; simp only [iteO_false,cond_false,decide178 N hN op v hv ha,bindO_some]
 exact ⟨trivial,fun _ => truthV_ok _⟩
def lookR (name : ByteArray) (args : List Val) (srt : Int) : List Entry → Val
 | [] => ⟨srt,0,[],[],[]⟩
 | x :: m => bif (x.entryName.toList == name.toList) && ((x.entryVal.valSort == srt) && sameVs x.entryArgs args) then x.entryVal else lookR name args srt m
structure MOk (m : List Entry) : Prop where
 len : m.length ≤ 1048576
 args : ∀ e ∈ m,e.entryArgs.length ≤ 1048576 ∧ (∀ a ∈ e.entryArgs,VOk a) ∧ VOk e.entryVal
theorem look159 (N : Nat) (hN : 1048600 < N) (m : List Entry) (hm : MOk m) (name : ByteArray) (args : List Val) (srt : Int) : F159 N m name args srt = some (lookR name args srt m) := by
 have key : ∀ (l : List Entry) (M i : Nat),l.length < M → (∀ e ∈ l,e ∈ m) → foldN (F159_s1 N args name srt) (F159_f1 srt) M l i () = some (lookR name args srt l) := by
   intro l
   induction l with
   | nil =>
     intro M i hM _
     obtain ⟨K,rfl⟩ : ∃ K,M = K + 1 := ⟨M - 1,by simp at hM; omega⟩
     rfl
   | cons e l ih =>
     intro M i hM he
     obtain ⟨K,rfl⟩ : ∃ K,M = K + 1 := ⟨M - 1,by simp at hM; omega⟩
     have h1 := ih K (i + 1) (by simp at hM; omega) fun k hk => he k (by simp [hk])
     obtain ⟨h2,h3,_⟩ := hm.args e (he e (by simp))
     simp only [foldN,F159_s1,lookR,sameArgs172 N (by omega) e.entryArgs args (by omega) fun a ha => (h3 a ha).small]
     cases e.entryName.toList == name.toList with
     | false => exact h1
     | true =>
       cases e.entryVal.valSort == srt with
       | false => exact h1
       | true =>
         simp only [iteO_true,bindO_some,Bool.true_and]
         cases sameVs e.entryArgs args with
         | true => rfl
         | false => exact h1
 exact key m N 0 (by have := hm.len; omega) fun _ h => h
theorem look_ok {m : List Entry} (hm : ∀ e ∈ m,VOk e.entryVal) (name : ByteArray) (args : List Val) (srt : Int) : VOk (lookR name args srt m) := by
 induction m with
 | nil => exact ⟨by show (-1152921504606846976 : Int) ≤ 0 ∧ (0 : Int) ≤ 1152921504606846976; decide,by simp [lookR],by simp [lookR],rfl⟩
 | cons e m ih =>
   rw [lookR]
   cases (e.entryName.toList == name.toList) && ((e.entryVal.valSort == srt) && sameVs e.entryArgs args) with
   | true => exact hm e (by simp)
   | false => exact ih fun k hk => hm k (by simp [hk])
mutual
def evalR (m : List Entry) : Node → Val × Bool
  | ⟨op,s,nm,num,ks⟩ =>
    bif (evalL m ks).all (·.2) then (bif (op == 1) || (op == 3) then (lookR nm ((evalL m ks).map (·.1)) s m,true) else applyR op num ((evalL m ks).map (·.1)))
    else (⟨sortS ⟨op,s,nm,num,ks⟩,0,[],[],[]⟩,false)
def evalL (m : List Entry) : List Node → List (Val × Bool)
  | [] => []
  | k :: ks => evalR m k :: evalL m ks
end
theorem evalL_eq (m : List Entry) : ∀ ks : List Node,evalL m ks = ks.map (evalR m)
 | [] => by simp only [evalL,List.map_nil]
 | k :: ks => by simp only [evalL,List.map_cons,evalL_eq m ks]
theorem evalR_eq (m : List Entry) (n : Node) : evalR m n = bif (n.kids.map (evalR m)).all (·.2) then (bif (n.op == 1) || (n.op == 3) then (lookR n.name ((n.kids.map (evalR m)).map (·.1)) n.sortf m,true) else applyR n.op n.num ((n.kids.map (evalR m)).map (·.1))) else (⟨sortS n,0,[],[],[]⟩,false) := by
 cases n; simp only [evalR,evalL_eq]
structure Fine (n : Node) : Prop where
 ar : ((n.op == 1) || (n.op == 3)) = false → arity n.op ≤ n.kids.length
 num : n.op = 2 ∨ n.op = 7 → -1000000000000 ≤ n.num ∧ n.num ≤ 1000000000000
theorem fold127 (N : Nat) (self : Node → List Entry → Option (Val × Bool)) (m : List Entry) (fin : List Val × Bool → Option (Val × Bool)) : ∀ (l : List Node) (M i : Nat) (vs : List Val) (ok : Bool),l.length < M → vs.length + l.length ≤ 4194304 → (∀ k ∈ l,self k m = some (evalR m k)) →
   foldN (F127_s1 self m) fin M l i (vs,ok) = fin (vs ++ (l.map (evalR m)).map (·.1),ok && (l.map (evalR m)).all (·.2))
 | [],M,i,vs,ok,hM,_,_ => by
   obtain ⟨K,rfl⟩ : ∃ K,M = K + 1 := ⟨M - 1,by simp at hM; omega⟩
   simp [foldN]
 | k :: l,M,i,vs,ok,hM,hl,hs => by
   obtain ⟨K,rfl⟩ : ∃ K,M = K + 1 := ⟨M - 1,by simp at hM; omega⟩
   simp only [List.length_cons] at hM hl
   have ih := fun b => fold127 N self m fin l K (i + 1) (vs ++ [(evalR m k).1]) b (by omega) (by simp; omega) fun x hx => hs x (by simp [hx])
   simp only [foldN,F127_s1,hs k (by simp),bindO_some,fits88 (show vs.length + 1 ≤ 4194304 by omega),iteO_true,List.map_cons,List.all_cons]
   cases ok with
   | true => exact (ih _).trans (by simp)
   | false => exact (ih _).trans (by simp)
theorem evals_ok {m : List Entry} {ks : List Node} (hall : (ks.map (evalR m)).all (·.2) = true) (h : ∀ k ∈ ks,(evalR m k).2 = true → VOk (evalR m k).1) : ∀ x ∈ (ks.map (evalR m)).map (·.1),VOk x := by
 intro x hx
 obtain ⟨y,hy,rfl⟩ := List.mem_map.1 hx
 obtain ⟨k,hk,rfl⟩ := List.mem_map.1 hy
 exact h k hk (List.all_eq_true.1 hall _ hy)
theorem eval127 (m : List Entry) (hm : MOk m) : ∀ (N : Nat) (n : Node),1048600 + n.size < N → n.size ≤ 1048576 → (∀ x ∈ nodes n,Fine x) → F127 N n m = some (evalR m n) ∧ ((evalR m n).2 = true → VOk (evalR m n).1)
 | 0,n,h,_,_ => absurd h (Nat.not_lt_zero _)
 | N + 1,n,h,hb,hf => by
   have hk : ∀ k ∈ n.kids,F127 N k m = some (evalR m k) ∧ ((evalR m k).2 = true → VOk (evalR m k).1) := fun k hk => by
     have := kids_size hk
     exact eval127 m hm N k (by omega) (by omega) fun x hx => hf x (by
       cases n with
       | mk o s nm nu ks =>
         rw [nodes]
         have : ∀ (l : List Node),k ∈ l → x ∈ nodesL l := by
           intro l
           induction l with
           | nil => intro h; cases h
           | cons y l ih =>
             intro h
             rw [nodesL]
             rcases List.mem_cons.1 h with rfl | h
             · simp [hx]
             · simp [ih h]
         exact List.mem_cons_of_mem _ (this ks hk))
   have hlen := kids_len n
   have hn := hf n (by cases n; rw [nodes]; simp)
   have h1 := fold127 N (F127 N) m (F127_f1 N m n) n.kids N 0 [] true (by omega) (by simp; omega) fun k hk' => (hk k hk').1
   show F127b (F127 N) N n m = _ ∧ _
   rw [F127b,h1,List.nil_append,Bool.true_and,evalR_eq]
   cases hall : (n.kids.map (evalR m)).all (·.2) with
   | false =>
     simp only [F127_f1,iteO_false,cond_false,sort28 N n (by omega),bindO_some]
     exact ⟨trivial,fun h => by cases h⟩
   | true =>
     have hv := evals_ok hall fun k hk' => (hk k hk').2
     have hlk := fun srt => look159 N (by omega) m hm n.name ((n.kids.map (evalR m)).map (·.1)) srt
     simp only [F127_f1,iteO_true,cond_true,hlk,bindO_some]
     cases e1 : n.op == 1 with
     | true => exact ⟨rfl,fun _ => look_ok (fun e he => (hm.args e he).2.2) _ _ _⟩
     | false =>
       cases e3 : n.op == 3 with
       | true => exact ⟨rfl,fun _ => look_ok (fun e he => (hm.args e he).2.2) _ _ _⟩
       | false =>
         have ha := hn.ar (by rw [e1,e3]; rfl)
         obtain ⟨h2,h3⟩ := apply160 N (by omega) n _ hv (by simpa using ha) hn.num
         simp only [iteO_false,Bool.or_self,cond_false,h2,bindO_some]
         exact ⟨trivial,h3⟩
end Go.Abs.Try
