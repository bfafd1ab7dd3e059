import Derived.Test.YthgibjeclmkbpaaGreatCMs3toCWt4
set_option linter.unusedSimpArgs false
set_option linter.unusedVariables false
namespace Go.Abs.Try
set_option maxRecDepth 100000
theorem search23 (self : Node → List ByteArray → List Node → Option Node) (N : Nat) (n : Node) (names : List ByteArray) (ws : List Node) (d : Option Node) (hw : ∀ w ∈ ws,w.size < N ∧ w.size ≤ 1048576) (hl : names.length ≤ 1048576)
   (h3 : foldN (F23_s3 self names ws) (F23_f3 n) N n.kids 0 [] = d) (h4 : foldN (F23_s4 self names ws) (F23_f4 n) N n.kids 0 [] = d) (hd : ∃ v,d = some v) : ∀ (m M i : Nat),i + m = min names.length ws.length → m < M → whileN (F23_s1 self N n names ws) M (i : Int) = orElseO (firstM n.name (names.drop i) (ws.drop i)) d
 | 0,M,i,h,hM => by
   obtain ⟨K,rfl⟩ : ∃ K,M = K + 1 := ⟨M - 1,by omega⟩
   obtain ⟨v,rfl⟩ := hd
   have : firstM n.name (names.drop i) (ws.drop i) = none := by
     by_cases hn : names.length ≤ ws.length
     · rw [List.drop_eq_nil_iff.2 (show names.length ≤ i by omega)]; rfl
     · rw [List.drop_eq_nil_iff.2 (show ws.length ≤ i by omega)]
       cases names.drop i <;> rfl
   rw [this]
   by_cases hn : i < names.length
   · have d1 : decide ((i : Int) < (names.length : Int)) = true := decide_eq_true (by omega)
     have d2 : decide ((i : Int) < (ws.length : Int)) = false := decide_eq_false (by omega)
     simp only [whileN,F23_s1,d1,d2,iteO_true,iteO_false,h3,bindO_some,orElseO]
   · have d1 : decide ((i : Int) < (names.length : Int)) = false := decide_eq_false (by omega)
     simp only [whileN,F23_s1,d1,iteO_false,h4,bindO_some,orElseO]
 | m + 1,M,i,h,hM => by
   obtain ⟨K,rfl⟩ : ∃ K,M = K + 1 := ⟨M - 1,by omega⟩
   have h1 : i < names.length := by omega
   have h2 : i < ws.length := by omega
   have d1 : decide ((i : Int) < (names.length : Int)) = true := decide_eq_true (by omega)
   have d2 : decide ((i : Int) < (ws.length : Int)) = true := decide_eq_true (by omega)
   have a1 : atO names (i : Int) = some names[i] := atO_get (List.getElem?_eq_getElem h1)
   have a2 : atO ws (i : Int) = some ws[i] := atO_get (List.getElem?_eq_getElem h2)
   have hc := same83 N ws[i] (hw _ (List.getElem_mem h2)).1 (hw _ (List.getElem_mem h2)).2
   have hwr : IntKind.i64.wrap ((i : Int) + 1) = ((i + 1 : Nat) : Int) := by rw [wrap_id (by omega)]; omega
   have ih := search23 self N n names ws d hw hl h3 h4 hd m K (i + 1) (by omega) (by omega)
   rw [List.drop_eq_getElem_cons h1,List.drop_eq_getElem_cons h2,firstM]
   simp only [whileN,F23_s1,d1,d2,a1,a2,hc,iteO_true,bindO_some,hwr]
   cases names[i].toList == n.name.toList with
   | true => rfl
   | false => simp only [iteO_false,bindO_some,cond_false]; exact ih
theorem subst23 (names : List ByteArray) (ws : List Node) (hl : names.length ≤ 1048576 ∧ ws.length ≤ 1048576) : ∀ (N : Nat) (n : Node),1048600 + n.size < N → n.size ≤ 1048576 → (∀ w ∈ ws,w.size ≤ 1048576) → F23 N n names ws = some (substR names ws n)
 | 0,n,h,_,_ => absurd h (Nat.not_lt_zero _)
 | N + 1,n,h,hb,hw => by
   have hk := kids_len n
   show F23b (F23 N) N n names ws = _
   rw [substR_eq]
   have ih : ∀ k ∈ n.kids,(fun k => F23 N k names ws) k = some (substR names ws k) := fun k hk => subst23 names ws hl N k (by have := kids_size hk; omega) (by have := kids_size hk; omega) hw
   have f3 := app_fold (fun k => F23 N k names ws) (substR names ws) (F23_s3 (F23 N) names ws) (fun _ _ _ => rfl) (F23_f3 n) n.kids N (by omega) (by omega) ih
   have f4 := app_fold (fun k => F23 N k names ws) (substR names ws) (F23_s4 (F23 N) names ws) (fun _ _ _ => rfl) (F23_f4 n) n.kids N (by omega) (by omega) ih
   have f5 := app_fold (fun k => F23 N k names ws) (substR names ws) (F23_s5 (F23 N) names ws) (fun _ _ _ => rfl) (F23_f5 n) n.kids N (by omega) (by omega) ih
   cases h1 : n.op == 1 with
   | true =>
     have := search23 (F23 N) N n names ws _ (fun w hw' => ⟨by have := hw w hw'; omega,hw w hw'⟩) hl.1 f3 f4 ⟨_,rfl⟩ (min names.length ws.length) N 0 (by simp) (by omega)
     simp only [F23b,h1,iteO_true,cond_true]
     rw [show (0 : Int) = ((0 : Nat) : Int) from rfl,this]
     rfl
   | false =>
     simp only [F23b,h1,iteO_false,cond_false,f5]
     rfl
mutual
theorem subst_size (names : List ByteArray) (ws : List Node) (M : Nat) (hM : 1 ≤ M) (hw : ∀ w ∈ ws,w.size ≤ M) : ∀ n : Node,(substR names ws n).size ≤ n.size * M
  | ⟨op,s,nm,k,ks⟩ => by
    have ih := substL_size names ws M hM hw ks
    simp only [substR]
    cases hf : (bif op == 1 then firstM nm names ws else none) with
    | some w =>
      have : firstM nm names ws = some w := by
        cases h1 : op == 1 with
        | true => rw [h1] at hf; exact hf
        | false => rw [h1] at hf; cases hf
      have h1 := hw w (firstM_mem nm names ws w this)
      have h2 := size_pos (⟨op,s,nm,k,ks⟩ : Node)
      have := Nat.mul_le_mul_right M h2
      simp only
      omega
    | none =>
      simp only
      rw [Node.size_eq,Node.size_eq (⟨op,s,nm,k,ks⟩ : Node)]
      simp only [Nat.add_mul,Nat.one_mul]
      omega
theorem substL_size (names : List ByteArray) (ws : List Node) (M : Nat) (hM : 1 ≤ M) (hw : ∀ w ∈ ws,w.size ≤ M) : ∀ ks : List Node,((substL names ws ks).map Node.size).sum ≤ (ks.map Node.size).sum * M
  | [] => by simp [substL]
  | k :: ks => by
    have h1 := subst_size names ws M hM hw k
    have h2 := substL_size names ws M hM hw ks
    simp only [substL,List.map_cons,List.sum_cons,Nat.add_mul]
    omega
end
end Go.Abs.Try
