import Derived.Test.YtdigpkmbcojpoaaGreatWWt3
import Derived.Test.YtdigpkmbcojpoaaGreatWLm9toWLm12
import Derived.Test.YtdigpkmbcojpoaaGreatWP9toWVal30
set_option linter.unusedSimpArgs false
set_option linter.unusedVariables false
namespace Go.Abs.Try
set_option maxRecDepth 100000
def loN : Nat := 4611686018400000000
def hiN : Nat := 4611686018427387904
structure CK (n : Node) : Prop where
 size : n.size ≤ 4000
 ord : sortedR n = true
 uni : US (nodes n)
 lev : ∃ j : Int,j ≤ 100 ∧ F39 loN n = some j
theorem lev_up (n : Node) (j : Int) (h : F39 loN n = some j) (N : Nat) (hN : loN ≤ N) : F39 N n = some j := mF39 hN n j h
theorem ck_of15 (N : Nat) (n : Node) (s : Int) (hN : loN ≤ N ∧ N ≤ hiN) (hb : n.size ≤ 1048576) (h : F15 N n s = some 0) : CK n := by
 have hlo : loN = 4611686018400000000 := rfl
 have hhi : hiN = 4611686018427387904 := rfl
 obtain ⟨k,hk,_,_⟩ := levels39 loN n (by omega) (by omega)
 have hk2 := lev_up n k hk N hN.1
 have h27 := size27 N n (by omega) (by omega)
 have h72 := sorted72 N n (by omega)
 have h28 := sort28 N n (by omega)
 unfold F15 at h
 cases h0 : decide (s < 0) with
 | true => rw [h0] at h; simp only [iteO_true] at h; injection h with h; omega
 | false =>
 rw [h0] at h; simp only [iteO_false] at h
 cases h5 : decide (s > 5) with
 | true => rw [h5] at h; simp only [iteO_true] at h; injection h with h; omega
 | false =>
 rw [h5] at h; simp only [iteO_false,hk2,h27,h72,h28,bindO_some] at h
 cases hx : decide ((n.size : Int) > 4000) with
 | true => rw [hx] at h; simp only [iteO_true] at h; injection h with h; omega
 | false =>
 have hx := of_decide_eq_false hx
 rw [decide_eq_false hx] at h; simp only [iteO_false] at h
 cases hy : decide (k > 100) with
 | true => rw [hy] at h; simp only [iteO_true] at h; injection h with h; omega
 | false =>
 have hy := of_decide_eq_false hy
 rw [decide_eq_false hy] at h; simp only [iteO_false] at h
 cases hs : sortedR n with
 | false => rw [hs] at h; simp only [iteO_false] at h; injection h with h; omega
 | true =>
 rw [hs] at h; simp only [iteO_true] at h
 have h41 := uni41 N n (by omega) hb
 rw [h41,bindO_some] at h
 cases hu : (adjB (varsR n) && clearB n (varsR n)) with
 | false => rw [hu] at h; simp only [iteO_false] at h; injection h with h; omega
 | true => exact ⟨by omega,hs,(ref_says n (sorted_nodes n hs)).1 hu,k,by omega,hk⟩
theorem ck_to15 (N : Nat) (n : Node) (hN : loN ≤ N ∧ N ≤ hiN) (h : CK n) : F15 N n 0 = some 0 := by
 have hlo : loN = 4611686018400000000 := rfl
 have hhi : hiN = 4611686018427387904 := rfl
 obtain ⟨h1,h2,h3,j,h4,h5⟩ := h
 have hk2 := lev_up n j h5 N hN.1
 have h27 := size27 N n (by omega) (by omega)
 have h72 := sorted72 N n (by omega)
 have h41 := uni41 N n (by omega) (by omega)
 have hu := (ref_says n (sorted_nodes n h2)).2 h3
 unfold F15
 rw [h27,hk2,h72,h41,hu,h2]
 simp only [bindO_some,decide_eq_false (by omega : ¬ (n.size : Int) > 4000),decide_eq_false (by omega : ¬ j > 100)]
 rfl
theorem lev_fold (self : Node → Option Int) : ∀ (ks : List Node) (M i : Nat) (s r : Int),foldN (F39_s1 self) F39_f1 M ks i s = some r → (∀ k ∈ ks, ∃ j : Int,self k = some j ∧ 0 ≤ j ∧ j ≤ 1048576) → 0 ≤ s → s ≤ 1048576 → s < r ∧ ∀ k ∈ ks, ∃ j : Int,self k = some j ∧ j < r
 | _,0,_,_,_,h,_,_,_ => by cases h
 | [],M + 1,i,s,r,h,_,h0,h1 => by
   have h : some (IntKind.i64.wrap (s + 1)) = some r := h
   injection h with h
   rw [wrap_id (by omega)] at h
   exact ⟨by omega,fun _ h => by cases h⟩
 | k :: ks,M + 1,i,s,r,h,hk,h0,h1 => by
   obtain ⟨j,hj,j0,j1⟩ := hk k (by simp)
   have h : bindO (F39_s1 self s i k) _ = some r := h
   unfold F39_s1 at h
   rw [hj] at h
   have h : foldN (F39_s1 self) F39_f1 M ks (i + 1) (max s j) = some r := h
   obtain ⟨g1,g2⟩ := lev_fold self ks M (i + 1) (max s j) r h (fun x hx => hk x (by simp [hx])) (by omega) (by omega)
   refine ⟨by omega,fun x hx => ?_⟩
   rcases List.mem_cons.1 hx with rfl | hx
   · exact ⟨j,hj,by omega⟩
   · exact g2 x hx
theorem ck_kid {n k : Node} (h : CK n) (hk : k ∈ n.kids) : CK k := by
 have hlo : loN = 4611686018400000000 := rfl
 obtain ⟨h1,h2,h3,j,h4,h5⟩ := h
 have hz := kids_size hk
 refine ⟨by omega,sorted_kid h2 hk,fun x hx y hy v w a b c => h3 x (nodes_sub hk hx) y (nodes_sub hk hy) v w a b c, ?_⟩
 have h6 := lev_up n j h5 (loN + 1) (by omega)
 have h6 : foldN (F39_s1 (F39 loN)) F39_f1 loN n.kids 0 0 = some j := h6
 obtain ⟨_,g⟩ := lev_fold (F39 loN) n.kids loN 0 0 j h6 (fun x hx => by
   have := kids_size hx
   obtain ⟨i,hi,i0,i1⟩ := levels39 loN x (by omega) (by omega)
   exact ⟨i,hi,i0,by omega⟩) (by omega) (by omega)
 obtain ⟨i,hi,hij⟩ := g k hk
 exact ⟨i,by omega,hi⟩
theorem mF189 {N M : Nat} (h : N ≤ M) (a b : List Int) : LeO (F189 N a b) (F189 M a b) := by
 unfold F189
 repeat' (first | exact leR _ | exact leF (fun _ _ _ => leR _) (fun _ => leR _) h _ _ _ | (refine leI ?_ ?_) | (refine leB ?_ fun _ => ?_))
theorem mF183 {N M : Nat} (h : N ≤ M) (a b : Val) : LeO (F183 N a b) (F183 M a b) := by
 unfold F183
 repeat' (first | exact leR _ | exact mF189 h _ _ | (refine leI ?_ ?_) | (refine leB ?_ fun _ => ?_))
theorem mF172 {N M : Nat} (h : N ≤ M) (a b : List Val) : LeO (F172 N a b) (F172 M a b) := by
 unfold F172
 refine leI (leF (fun _ _ _ => ?_) (fun _ => leR _) h _ _ _) (leR _)
 unfold F172_s1
 repeat' (first | exact leR _ | exact mF183 h _ _ | (refine leI ?_ ?_) | (refine leB ?_ fun _ => ?_))
theorem mF158 {N M : Nat} (h : N ≤ M) (a b : Entry) : LeO (F158 N a b) (F158 M a b) := by
 unfold F158
 repeat' (first | exact leR _ | exact mF172 h _ _ | (refine leI ?_ ?_) | (refine leB ?_ fun _ => ?_))
theorem mF182 {N M : Nat} (h : N ≤ M) (a : List Int) : LeO (F182 N a) (F182 M a) := leF (fun _ _ _ => leR _) (fun _ => leR _) h _ _ _
theorem mF171 {N M : Nat} (h : N ≤ M) (a : Val) : LeO (F171 N a) (F171 M a) := by
 unfold F171
 repeat' (first | exact leR _ | exact mF182 h _ | exact leF (fun _ _ _ => leR _) (fun _ => leR _) h _ _ _ | (refine leI ?_ ?_) | (refine leB ?_ fun _ => ?_))
theorem mF157 {N M : Nat} (h : N ≤ M) (a : Entry) : LeO (F157 N a) (F157 M a) := by
 have st : ∀ s i x,LeO (F157_s1 N s i x) (F157_s1 M s i x) := fun s i x => by
   unfold F157_s1
   exact leB (mF171 h _) fun _ => leR _
 unfold F157
 repeat' (first | exact leR _ | exact mF17 h _ | exact mF171 h _ | exact leF st (fun _ => leR _) h _ _ _ | (refine leI ?_ ?_) | (refine leB ?_ fun _ => ?_))
theorem mF126 {N M : Nat} (h : N ≤ M) (m : List Entry) : LeO (F126 N m) (F126 M m) := by
 have wh : ∀ i x s,LeO (F126_s2 N i m x s) (F126_s2 M i m x s) := fun i x s => by
   unfold F126_s2
   repeat' (first | exact leR _ | exact mF158 h _ _ | (refine leI ?_ ?_) | (refine leB ?_ fun _ => ?_))
 have st : ∀ s i x,LeO (F126_s1 N m s i x) (F126_s1 M m s i x) := fun s i x => by
   unfold F126_s1
   exact leB (mF157 h _) fun _ => leI (leW (wh i x) h _) (leR _)
 unfold F126
 exact leI (leR _) (leF st (fun _ => leR _) h _ _ _)
theorem valid_down {N : Nat} {m : List Entry} (hm : MSmall m) (hN : loN ≤ N ∧ N ≤ hiN) (h : F126 N m = some true) : ∀ M,loN ≤ M → M ≤ hiN → F126 M m = some true := by
 have hlo : loN = 4611686018400000000 := rfl
 obtain ⟨b,hb,_⟩ := valid126 loN (by omega) m hm
 have e := mF126 hN.1 m b hb
 rw [h] at e
 injection e with e
 subst e
 exact fun M h1 _ => mF126 h1 m true hb
theorem val_30 (N : Nat) (hN : loN ≤ N ∧ N ≤ hiN) (n : Node) (m : List Entry) (hm : MSmall m) (h : CK n) (hh : hol n = false) (hv : F126 N m = some true) (he : (evalR m n).2 = true) : F30 N n m = some ((evalR m n).1,0) ∧ VOk (evalR m n).1 := by
 have hlo : loN = 4611686018400000000 := rfl
 have hhi : hiN = 4611686018427387904 := rfl
 have hz := h.size
 obtain ⟨b,hb,hmo⟩ := valid126 N (by omega) m hm
 have hmo := hmo (by rw [hv] at hb; injection hb with hb; exact hb.symm)
 obtain ⟨e1,e2⟩ := eval127 m hmo N n (by omega) (by omega) (fine_all n h.ord)
 refine ⟨?_,e2 he⟩
 unfold F30 F87
 rw [ck_to15 N n hN h,bindO_some,hol43 N n (by omega),hh,hv,e1]
 simp only [bindO_some,iteO_false,iteO_true,he]
 rfl
theorem truth_to (N : Nat) (hN : loN ≤ N ∧ N ≤ hiN) (n : Node) (m : List Entry) (hm : MSmall m) (hz : n.size ≤ 1048576) :
   ∃ t c,F1220 N n m = some (t,c) ∧ (c = 0 → F15 N n 2 = some 0 ∧ hol n = false ∧ F126 N m = some true ∧ (evalR m n).2 = true) := by
 have hlo : loN = 4611686018400000000 := rfl
 have hhi : hiN = 4611686018427387904 := rfl
 obtain ⟨r,_,h15⟩ := check_same N n 2 (by omega) hz
 obtain ⟨b,hb,hmo⟩ := valid126 N (by omega) m hm
 unfold F1220 F87
 rw [h15,bindO_some,hol43 N n (by omega),bindO_some,hb,bindO_some]
 by_cases h0 : r = 0
 · subst h0
   have hs : sortedR n = true := check_sorted2 N n (by omega) hz h15
   rw [beq_self_eq_true,iteO_true]
   cases hh : hol n with
   | true => exact ⟨_,_,rfl,fun h => by cases h⟩
   | false =>
     cases b with
     | false => exact ⟨_,_,rfl,fun h => by cases h⟩
     | true =>
       rw [(eval127 m (hmo rfl) N n (by omega) (by omega) (fine_all n hs)).1]
       simp only [iteO_false,iteO_true,bindO_some]
       cases he : (evalR m n).2 with
       | false => exact ⟨_,_,rfl,fun h => by cases h⟩
       | true => exact ⟨_,_,rfl,fun _ => by simp⟩
 · rw [beq_eq_false_iff_ne.2 h0,iteO_false,bindO_some]
   rw [beq_eq_false_iff_ne.2 h0,iteO_false]
   exact ⟨_,_,rfl,fun h => absurd h h0⟩
theorem truth_of (N : Nat) (hN : loN ≤ N ∧ N ≤ hiN) (n : Node) (m : List Entry) (hm : MSmall m) (hz : n.size ≤ 1048576) (h15 : F15 N n 2 = some 0) (hh : hol n = false) (hv : F126 N m = some true) (he : (evalR m n).2 = true) :
   F1220 N n m = some ((evalR m n).1.valNum == 1,0) := by
 have hlo : loN = 4611686018400000000 := rfl
 have hhi : hiN = 4611686018427387904 := rfl
 obtain ⟨b,hb,hmo⟩ := valid126 N (by omega) m hm
 have hmo := hmo (by rw [hv] at hb; injection hb with hb; exact hb.symm)
 have hs : sortedR n = true := check_sorted2 N n (by omega) hz h15
 unfold F1220 F87
 rw [h15,bindO_some,hol43 N n (by omega),hh,hv,(eval127 m hmo N n (by omega) (by omega) (fine_all n hs)).1]
 simp only [bindO_some,iteO_false,iteO_true,he]
 rfl
end Go.Abs.Try
