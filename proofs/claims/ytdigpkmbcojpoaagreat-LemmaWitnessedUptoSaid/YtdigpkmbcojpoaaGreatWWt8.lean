import Derived.Test.YtdigpkmbcojpoaaGreatWWt7
set_option linter.unusedSimpArgs false
set_option linter.unusedVariables false
namespace Go.Abs.Try
set_option maxRecDepth 100000
theorem fold_hit {α : Type} {step : Unit → Nat → α → Option (Sum Unit Bool)} {fin : Unit → Option Bool} : ∀ (ks : List α) (M i : Nat),ks.length < M →
   (∀ j,i ≤ j → j < i + ks.length → ∀ x,step () j x = some (.inl ()) ∨ step () j x = some (.inr true)) → (∃ j,i ≤ j ∧ j < i + ks.length ∧ ∀ x,step () j x = some (.inr true)) → foldN step fin M ks i () = some true
 | _,0,_,h,_,_ => absurd h (Nat.not_lt_zero _)
 | [],M + 1,i,_,_,⟨j,h1,h2,_⟩ => by simp at h2; omega
 | x :: xs,M + 1,i,h,hs,⟨j,h1,h2,h3⟩ => by
   simp only [List.length_cons] at h h2 hs
   rcases hs i (by omega) (by omega) x with e | e
   · simp only [foldN,e,bindO_some]
     refine fold_hit xs M (i + 1) (by omega) (fun k a b => hs k (by omega) (by omega)) ⟨j, ?_,by omega,h3⟩
     by_cases hj : j = i
     · subst hj; have := h3 x; rw [e] at this; cases this
     · omega
   · simp only [foldN,e,bindO_some]
def big : Nat := 4611686018427387904
theorem awake1213w (M : Nat) : F1213 (M + 30) = some true := by kernel_rfl
theorem lawLw (n : Node) (m : List Entry) (hb : n.size ≤ 1048576) (hm : MSmall m) : F1211 4611686018427387904 n m = some true := by
 obtain ⟨N,hNe⟩ : ∃ N : Nat,N = 4611686018427387904 := ⟨_,rfl⟩
 have ha : F1213 N = some true := by rw [hNe]; exact awake1213w 4611686018427387874
 have hN : 4611686018400000000 ≤ N ∧ N ≤ 4611686018427387904 := by omega
 have hlo : loN = 4611686018400000000 := rfl
 have hhi : hiN = 4611686018427387904 := rfl
 have hN2 : loN ≤ N ∧ N ≤ hiN := by omega
 rw [← hNe]
 unfold F1211
 obtain ⟨w,v,h17,hw⟩ := wit_1217 N hN n hb
 rw [ha,bindO_some,iteO_true,h17,bindO_some]
 cases v with
 | false => rfl
 | true =>
 obtain ⟨a,b,wn,rfl,hf,hwit,ck⟩ := hw rfl
 show iteO true _ _ = _
 rw [iteO_true,size27 N n (by omega) (by omega),bindO_some]
 by_cases hz : n.size ≤ 120
 · rw [decide_eq_false (by omega : ¬ (n.size : Int) > 120),iteO_false]
   by_cases hl : m.length ≤ 30
   · rw [decide_eq_false (by omega : ¬ (m.length : Int) > 30),iteO_false]
     obtain ⟨t,c,ht,hc⟩ := truth_to N hN2 n m hm hb
     rw [ht,bindO_some]
     by_cases h0 : c = 0
     · obtain ⟨h15,hh,hv,he⟩ := hc h0
       show iteO (c == 0) _ _ = _
       rw [beq_iff_eq.2 h0,iteO_true]
       have hval := valid_down hm hN2 hv
       obtain ⟨l,hm98,hlen,_,hcov⟩ := marks_all m hm hval N n [] (by omega) (by omega) (by omega) (by simp; omega)
       rw [hm98,bindO_some]
       simp only [List.length_nil] at hlen
       rw [fits8 (by omega),iteO_true]
       have vm := (valid_iff N (by omega) m hm).1 hv
       obtain ⟨bb,hbb,hmo⟩ := valid126 N (by omega) m hm
       have hmo := hmo (by rw [hv] at hbb; injection hbb with hbb; exact hbb.symm)
       have hvg : ∀ e ∈ m,VG e.entryVal.valSort e.entryVal := fun e he => vg_of157 N (by omega) e (hm.args e he).2.2 (vm.each e he)
       -- the parts
       have parts : ∃ p,p ∈ n.kids ∧ a ∈ p.kids ∧ b ∈ p.kids := by
         rcases hf with ⟨rfl,_⟩ | ⟨rfl,_⟩ | ⟨rfl,_⟩
         · exact ⟨nd 41 [a,b],by simp [part4,nd_kids],by simp [nd_kids],by simp [nd_kids]⟩
         · exact ⟨nd 37 [a,b],by simp [part5,nd_kids],by simp [nd_kids],by simp [nd_kids]⟩
         · exact ⟨nd 37 [a,b],by simp [diffN,nd_kids],by simp [nd_kids],by simp [nd_kids]⟩
       obtain ⟨p,hp,hpa,hpb⟩ := parts
       have witp : ∃ q,q ∈ n.kids ∧ ∃ q2,q2 ∈ q.kids ∧ ((wn ∈ q2.kids) ∨ ∃ q3,q3 ∈ q2.kids ∧ (wn ∈ q3.kids ∨ ∃ q4,q4 ∈ q3.kids ∧ wn ∈ q4.kids)) := by
         rcases hf with ⟨rfl,_⟩ | ⟨rfl,_⟩ | ⟨rfl,_⟩
         · exact ⟨nd 33 [nd 40 [wn,a],nd 32 [nd 40 [wn,b]]],by simp [part4,nd_kids],nd 40 [wn,a],by simp [nd_kids],.inl (by simp [nd_kids])⟩
         · exact ⟨nd 32 [nd 36 [nd 40 [wn,a],nd 40 [wn,b]]],by simp [part5,nd_kids],nd 36 [nd 40 [wn,a],nd 40 [wn,b]],by simp [nd_kids],.inr ⟨nd 40 [wn,a],by simp [nd_kids],.inl (by simp [nd_kids])⟩⟩
         · exact ⟨nd 34 [nd 32 [nd 37 [nd 16 [a],nd 16 [b]]],nd 32 [nd 37 [nd 14 [a,wn],nd 14 [b,wn]]]],by simp [diffN,nd_kids],nd 32 [nd 37 [nd 14 [a,wn],nd 14 [b,wn]]],by simp [nd_kids],
             .inr ⟨nd 37 [nd 14 [a,wn],nd 14 [b,wn]],by simp [nd_kids],.inr ⟨nd 14 [a,wn],by simp [nd_kids],by simp [nd_kids]⟩⟩⟩
       have hs := ck.ord
       have sw : sortedR wn = true := by
         obtain ⟨q,hq,q2,hq2,h | ⟨q3,hq3,h | ⟨q4,hq4,h⟩⟩⟩ := witp
         · exact sorted_kid (sorted_kid (sorted_kid hs hq) hq2) h
         · exact sorted_kid (sorted_kid (sorted_kid (sorted_kid hs hq) hq2) hq3) h
         · exact sorted_kid (sorted_kid (sorted_kid (sorted_kid (sorted_kid hs hq) hq2) hq3) hq4) h
       have ckp := ck_kid ck hp
       have cka := ck_kid ckp hpa
       have ckb := ck_kid ckp hpb
       have ep := ev_kids he p hp
       have ea := ev_kids ep a hpa
       have eb := ev_kids ep b hpb
       have hop := hol_sub hh hp
       obtain ⟨x,hx,hev⟩ := hit m hmo hvg n a b wn hf hwit cka.size ckb.size cka.ord ckb.ord sw ea eb
       have hmem : x ∈ l ++ [0] := by
         rcases hx with rfl | hx | hx
         · simp
         · exact List.mem_append.2 (.inl (hcov a (nodes_sub hp (nodes_sub hpa (nodes_self a))) cka (hol_sub hop hpa) ea x hx))
         · exact List.mem_append.2 (.inl (hcov b (nodes_sub hp (nodes_sub hpb (nodes_self b))) ckb (hol_sub hop hpb) eb x hx))
       obtain ⟨j,hj,ej⟩ := List.getElem_of_mem hmem
       have hj2 : j < l.length + 1 := by simpa using hj
       -- a round
       have round : ∀ i,i < l.length + 1 → ∀ y : Nat, ∃ z b,(l ++ [0])[i]? = some z ∧ F157 N (wE wn.name z) = some b ∧ F1211_s1 N m n (wn.name,true) l () i y = (bif b then (bindO (F1220 N n (setM m (wE wn.name z))) fun r11 => iteO (r11.2 == 0) (iteO r11.1 (some (.inr true)) (some (.inl ()))) (some (.inl ()))) else some (.inr true)) := by
         intro i hi y
         have hi2 : i < (l ++ [0]).length := by simpa using hi
         have hg := List.getElem?_eq_getElem hi2
         have he1 : (wE wn.name (l ++ [0])[i]).entryArgs.length ≤ 1048576 ∧ (∀ a ∈ (wE wn.name (l ++ [0])[i]).entryArgs,VSmall a) ∧ VSmall (wE wn.name (l ++ [0])[i]).entryVal := ⟨by simp [wE],fun a h => by simp [wE] at h,by simp [wE,VSmall]⟩
         obtain ⟨b,hb,_⟩ := entry157 N (by omega) (wE wn.name (l ++ [0])[i]) he1.1 he1.2.1 he1.2.2
         refine ⟨_,b,hg,hb, ?_⟩
         unfold F1211_s1
         rw [atO_get hg,bindO_some]
         have := set_1222 N (by omega) m hm (wE wn.name (l ++ [0])[i]) b hv hb hl
         unfold wE at this
         rw [this,bindO_some]
         cases b <;> rfl
       have sml : ∀ z,MSmall (setM m (wE wn.name z)) := fun z => small_set m (wE wn.name z) hm hl ⟨by simp [wE],fun a h => by simp [wE] at h,by simp [wE,VSmall]⟩
       refine fold_hit (List.range ((l.length : Int) + 1).toNat) N 0 (by simp; omega) (fun i h1 h2 y => ?_) ⟨j,by omega,by simp; omega,fun y => ?_⟩
       · rw [List.length_range] at h2
         obtain ⟨z,b,_,_,e⟩ := round i (by omega) y
         rw [e]
         cases b with
         | false => exact .inr rfl
         | true =>
           obtain ⟨t2,c2,h2,_⟩ := truth_to N hN2 n _ (sml z) hb
           rw [cond_true,h2,bindO_some]
           show iteO (c2 == 0) _ _ = _ ∨ iteO (c2 == 0) _ _ = _
           cases c2 == 0 with
           | false => exact .inl rfl
           | true => cases t2 with
             | true => exact .inr rfl
             | false => exact .inl rfl
       · obtain ⟨z,b,hg,h57,e⟩ := round j hj2 y
         rw [List.getElem?_eq_getElem hj,ej] at hg
         injection hg with hg
         subst hg
         rw [e]
         cases b with
         | false => rfl
         | true =>
           have vk := (valid_iff N (by omega) _ (sml x)).2 (vmod_set N m _ vm h57 hl)
           rw [cond_true,truth_of N hN2 n _ (sml x) hb h15 hh vk (by rw [hev]),hev,bindO_some]
           rfl
     · show iteO (c == 0) _ _ = _
       rw [beq_eq_false_iff_ne.2 h0]; rfl
   · rw [decide_eq_true (by omega : (m.length : Int) > 30)]; rfl
 · rw [decide_eq_true (by omega : (n.size : Int) > 120)]; rfl
end Go.Abs.Try
