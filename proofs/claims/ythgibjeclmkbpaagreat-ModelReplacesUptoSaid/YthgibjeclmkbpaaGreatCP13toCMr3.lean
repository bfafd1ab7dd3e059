import Derived.Test.YthgibjeclmkbpaaGreatCMod2toCVal30
import Derived.Test.YthgibjeclmkbpaaGreatCD
import Derived.Test.YthgibjeclmkbpaaGreatCMs3toCWt4
import Derived.Test.YthgibjeclmkbpaaGreatCMs8toCMr1
import Derived.Test.YthgibjeclmkbpaaGreatCP11c
set_option linter.unusedSimpArgs false
set_option linter.unusedVariables false
namespace Go.Abs.Try
set_option maxRecDepth 100000
end Go.Abs.Try
namespace Go.Abs.Try
theorem cmp_lt2 {a b c : Node} (h1 : cmpR a b ≤ 0) (h2 : cmpR b c < 0) : cmpR a c < 0 := by
 have h := (cmpR_TT a b c).2 h1 (by omega)
 rcases Int.lt_or_eq_of_le h.1 with h3 | h3
 · exact h3
 · have := (h.2 h3).2; omega
theorem cmp_sym {a b : Node} (h : cmpR a b = 0) : cmpR b a = 0 := by rw [cmpR_neg,h]; rfl
end Go.Abs.Try
namespace Go.Abs
end Go.Abs
namespace Go.Abs.Try
set_option maxRecDepth 100000
end Go.Abs.Try
namespace Go.Abs.Try
set_option maxRecDepth 100000
end Go.Abs.Try
namespace Go.Abs.Try
set_option maxRecDepth 100000
end Go.Abs.Try
namespace Go.Abs.Try
set_option maxRecDepth 100000
end Go.Abs.Try
namespace Go.Abs.Try
set_option maxRecDepth 100000
theorem drop_nil {α : Type} {l : List α} {i : Nat} (hi : i ≤ l.length) (h : l.drop i = []) : i = l.length := by
 have := congrArg List.length h
 simp at this; omega
end Go.Abs.Try
namespace Go.Abs.Try
set_option maxRecDepth 100000
end Go.Abs.Try
namespace Go.Abs.Try
set_option maxRecDepth 100000
end Go.Abs.Try
namespace Go.Abs.Try
set_option maxRecDepth 100000
end Go.Abs.Try
namespace Go.Abs.Try
set_option maxRecDepth 100000
end Go.Abs.Try
namespace Go.Abs.Try
set_option maxRecDepth 100000
end Go.Abs.Try
namespace Go.Abs.Try
set_option maxRecDepth 100000
def SrtN (l : List Node) : Prop := l.Pairwise fun m k => cmpR m k < 0
def putR (n : Node) : List Node → List Node
 | [] => [n]
 | x :: l => if cmpR n x = 0 then x :: l else if cmpR n x < 0 then n :: x :: l else x :: putR n l
theorem putR_mem (n : Node) : ∀ (l : List Node), ∀ x ∈ putR n l,x = n ∨ x ∈ l
 | [],x,h => by simp [putR] at h; exact .inl h
 | y :: l,x,h => by
   rw [putR] at h
   split at h
   · exact .inr h
   · split at h
     · simp only [List.mem_cons] at h ⊢; exact h
     · rcases List.mem_cons.1 h with rfl | h
       · exact .inr (by simp)
       · rcases putR_mem n l x h with h | h
         · exact .inl h
         · exact .inr (by simp [h])
theorem putR_old (n : Node) : ∀ (l : List Node), ∀ x ∈ l,x ∈ putR n l
 | y :: l,x,h => by
   rw [putR]
   split
   · exact h
   · split
     · simp [List.mem_cons.1 h]
     · rcases List.mem_cons.1 h with rfl | h
       · simp
       · simp [putR_old n l x h]
theorem putR_new (n : Node) : ∀ (l : List Node), ∃ x ∈ putR n l,cmpR x n = 0
 | [] => ⟨n,by simp [putR],cmpR_self n⟩
 | y :: l => by
   rw [putR]
   split
   · rename_i h; exact ⟨y,by simp,cmp_sym h⟩
   · split
     · exact ⟨n,by simp,cmpR_self n⟩
     · obtain ⟨x,h1,h2⟩ := putR_new n l
       exact ⟨x,by simp [h1],h2⟩
theorem putR_srt (n : Node) : ∀ (l : List Node),SrtN l → SrtN (putR n l)
 | [],_ => by simp [putR,SrtN]
 | y :: l,h => by
   have hy := (List.pairwise_cons.1 h).1
   have hl := (List.pairwise_cons.1 h).2
   rw [putR]
   split
   · exact h
   · split
     · rename_i h1
       refine List.pairwise_cons.2 ⟨fun x hx => ?_,h⟩
       rcases List.mem_cons.1 hx with rfl | hx
       · exact h1
       · exact cmp_lt2 (by omega) (hy x hx)
     · rename_i h0 h1
       refine List.pairwise_cons.2 ⟨fun x hx => ?_,putR_srt n l hl⟩
       rcases putR_mem n l x hx with rfl | hx
       · rw [cmpR_neg]; omega
       · exact hy x hx
theorem putR_len (n : Node) : ∀ (l : List Node),(putR n l).length ≤ l.length + 1
 | [] => by simp [putR]
 | y :: l => by
   rw [putR]
   split
   · simp
   · split
     · simp
     · have := putR_len n l
       simp; omega
theorem fits64_le {n : Nat} (h : n ≤ 8388608) : fits n 64 = true := by
 simp only [fits,roomMax]; exact decide_eq_true (by omega)
theorem copy143 (N : Nat) (n : Node) (hn : n.size + 1 < N ∧ n.size ≤ 1048576) : ∀ (l : List Node) (M i : Nat) (out : List Node),l.length < M → out.length + l.length ≤ 5000000 → foldN (F143_s1 N n) (F143_f1 n) M l i (out,true) = some (out ++ l)
 | [],M,i,out,hM,_ => by
   obtain ⟨K,rfl⟩ : ∃ K,M = K + 1 := ⟨M - 1,by simp at hM; omega⟩
   simp [foldN,F143_f1,iteO_true]
 | x :: l,M,i,out,hM,ho => by
   obtain ⟨K,rfl⟩ : ∃ K,M = K + 1 := ⟨M - 1,by simp at hM; omega⟩
   simp only [List.length_cons] at hM ho
   have hf : fits (out.length + 1) 64 = true := fits64_le (by omega)
   have ih := copy143 N n hn l K (i + 1) (out ++ [x]) (by omega) (by simp; omega)
   simp only [foldN,F143_s1,cmp19 N n x hn.1 hn.2,hf,bindO_some,iteO_true]
   cases cmpR n x == 0 <;> exact ih.trans (by simp)
theorem fold143 (N : Nat) (n : Node) (hn : n.size + 1 < N ∧ n.size ≤ 1048576) : ∀ (l : List Node) (M i : Nat) (out : List Node),SrtN l → l.length < M → out.length + l.length ≤ 4194304 → foldN (F143_s1 N n) (F143_f1 n) M l i (out,false) = some (out ++ putR n l)
 | [],M,i,out,_,hM,ho => by
   obtain ⟨K,rfl⟩ : ∃ K,M = K + 1 := ⟨M - 1,by simp at hM; omega⟩
   have hf : fits (out.length + 1) 64 = true := fits64_le (by simp at ho; omega)
   simp [foldN,F143_f1,hf,putR,iteO_true,iteO_false]
 | x :: l,M,i,out,hs,hM,ho => by
   obtain ⟨K,rfl⟩ : ∃ K,M = K + 1 := ⟨M - 1,by simp at hM; omega⟩
   simp only [List.length_cons] at hM ho
   have hf : fits (out.length + 1) 64 = true := fits64_le (by omega)
   have hf2 : fits (out.length + 1 + 1) 64 = true := fits64_le (by omega)
   simp only [foldN,F143_s1,cmp19 N n x hn.1 hn.2,hf,hf2,bindO_some,iteO_true,iteO_false,putR]
   by_cases h0 : cmpR n x = 0
   · have e : (cmpR n x == 0) = true := beq_iff_eq.2 h0
     have ih := copy143 N n hn l K (i + 1) (out ++ [x]) (by omega) (by simp; omega)
     rw [e,iteO_true,if_pos h0]
     exact ih.trans (by simp)
   · have e : (cmpR n x == 0) = false := beq_eq_false_iff_ne.2 h0
     rw [e,iteO_false,if_neg h0]
     by_cases h1 : cmpR n x < 0
     · have ih := copy143 N n hn l K (i + 1) ((out ++ [n]) ++ [x]) (by omega) (by simp; omega)
       rw [decide_eq_true h1,iteO_true,if_pos h1]
       exact ih.trans (by simp)
     · have ih := fold143 N n hn l K (i + 1) (out ++ [x]) (List.pairwise_cons.1 hs).2 (by omega) (by simp; omega)
       rw [decide_eq_false h1,iteO_false,if_neg h1]
       exact ih.trans (by simp)
theorem put143 (N : Nat) (l : List Node) (n : Node) (hn : n.size + 1 < N ∧ n.size ≤ 1048576) (hs : SrtN l) (hM : l.length < N) (ho : l.length ≤ 4194304) : F143 N l n = some (putR n l) := by
 have := fold143 N n hn l N 0 [] hs hM (by simpa using ho)
 simpa [F143] using this
end Go.Abs.Try
namespace Go.Abs.Try
set_option maxRecDepth 100000
theorem step182 (l : List Int) (hl : l.length ≤ 1048576) (i : Nat) (x : Int) (hx : l[i]? = some x) : (F182_s1 l () i x = some (.inl ()) ∨ F182_s1 l () i x = some (.inr false)) ∧ (F182_s1 l () i x = some (.inl ()) ↔ fitsG x = true ∧ ∀ k y,i = k + 1 → l[k]? = some y → y < x) := by
 have hi := (List.getElem?_eq_some_iff.1 hx).1
 simp only [F182_s1,fits181,bindO_some]
 cases fitsG x with
 | false => exact ⟨.inr rfl,⟨fun h => by (cases h),fun h => by cases h.1⟩⟩
 | true =>
   by_cases h0 : (i : Int) > 0
   · have hi1 : i - 1 < l.length := by omega
     have ha : atO l (IntKind.i64.wrap ((i : Int) - 1)) = some l[i - 1] := by
       rw [wrap_id (by omega)]
       exact atO_lit (i := i - 1) (by omega) (List.getElem?_eq_getElem hi1)
     rw [decide_eq_true h0]
     simp only [iteO_true,ha,bindO_some]
     by_cases hd : l[i - 1] ≥ x
     · rw [decide_eq_true hd]
       exact ⟨.inr rfl,⟨fun h => by (cases h),fun h => by
         have := h.2 (i - 1) l[i - 1] (by omega) (List.getElem?_eq_getElem hi1)
         omega⟩⟩
     · rw [decide_eq_false hd]
       refine ⟨.inl rfl,⟨fun _ => ⟨by trivial,fun k y hk hy => ?_⟩,fun _ => rfl⟩⟩
       subst hk
       have e : l[k + 1 - 1] = y := (List.getElem?_eq_some_iff.1 hy).2
       rw [e] at hd
       omega
   · rw [decide_eq_false h0]
     exact ⟨.inl rfl,⟨fun _ => ⟨rfl,fun k y hk _ => by omega⟩,fun _ => rfl⟩⟩
theorem iff182 (N : Nat) (l : List Int) (h1 : l.length < N) (hl : l.length ≤ 1048576) : F182 N l = some true ↔ (asc l ∧ (∀ t ∈ l,fitsG t = true) ∧ l.length ≤ 200) := by
 constructor
 · intro h
   have ha := asc_of182 N l h h1 hl
   rcases foldN_either (step := F182_s1 l) (fin := F182_f1 l) false l (fun i x hx => (step182 l hl i x hx).1) l N 0 rfl h1 with ⟨k1,k2⟩ | k1
   · refine ⟨ha,fun t ht => ?_, ?_⟩
     · obtain ⟨i,hi,ei⟩ := List.getElem_of_mem ht
       have hx : l[i]? = some t := by rw [List.getElem?_eq_getElem hi,ei]
       exact ((step182 l hl i t hx).2.1 (k2 i t (Nat.zero_le _) hx)).1
     · unfold F182 at h
       rw [k1] at h
       injection h with h
       have := of_decide_eq_true h
       omega
   · unfold F182 at h; rw [k1] at h; cases h
 · intro ⟨h2,h3,h4⟩
   unfold F182
   rw [foldN_go (step := F182_s1 l) (fin := F182_f1 l) l (fun i x hx => (step182 l hl i x hx).2.2 ⟨h3 x (List.mem_of_getElem? hx),fun k y hk hy => by
     subst hk
     have a1 := (List.getElem?_eq_some_iff.1 hy)
     have a2 := (List.getElem?_eq_some_iff.1 hx)
     obtain ⟨b1,b2⟩ := a1
     obtain ⟨c1,c2⟩ := a2
     rw [← b2, ← c2]
     exact List.pairwise_iff_getElem.1 h2 k (k + 1) b1 c1 (by omega)⟩) l N 0 rfl h1]
   unfold F182_f1
   rw [decide_eq_true (by omega)]
theorem step171 (i : Nat) (x : Int) : (F171_s1 () i x = some (.inl ()) ∨ F171_s1 () i x = some (.inr false)) ∧ (F171_s1 () i x = some (.inl ()) ↔ x ≠ 0 ∧ fitsG x = true) := by
 simp only [F171_s1,fits181,bindO_some]
 cases h0 : x == 0 with
 | true => exact ⟨.inr rfl,⟨fun h => by (cases h),fun h => absurd (beq_iff_eq.1 h0) h.1⟩⟩
 | false =>
   have h0 := beq_eq_false_iff_ne.1 h0
   cases hf : fitsG x with
   | true => exact ⟨.inl rfl,⟨fun _ => ⟨h0,rfl⟩,fun _ => rfl⟩⟩
   | false => exact ⟨.inr rfl,⟨fun h => by (cases h),fun h => by cases h.2⟩⟩
theorem len_zero {α : Type} {l : List α} (h : ((l.length : Int) == 0) = true) : l = [] := List.eq_nil_of_length_eq_zero (by have := beq_iff_eq.1 h; omega)
theorem vv_of171 (N : Nat) (hN : 1048600 < N) (v : Val) (hv : VSmall v) (h : F171 N v = some true) : VV v := by
 unfold F171 at h
 obtain ⟨g1,h⟩ := ite_f h
 obtain ⟨g2,h⟩ := ite_f h
 obtain ⟨b1,gf,h⟩ := bind_t h
 obtain ⟨gb,h⟩ := ite_t h
 obtain ⟨b2,hs,h⟩ := bind_t h
 obtain ⟨e2,h⟩ := ite_t h
 obtain ⟨b3,ha,h⟩ := bind_t h
 obtain ⟨e3,h⟩ := ite_t h
 obtain ⟨hl,h⟩ := ite_t h
 rw [e2] at hs; rw [e3] at ha
 have g1 := of_decide_eq_false g1
 have g2 := of_decide_eq_false g2
 rw [fits181] at gf
 have gn : fitsG v.valNum = true := by rw [gb] at gf; injection gf
 have hl : v.valTo.length = v.valAt.length := by have := beq_iff_eq.1 hl; omega
 have ss := (iff182 N v.valSet (by have := hv.1; omega) hv.1).1 hs
 have aa := (iff182 N v.valAt (by have := hv.2.1; omega) hv.2.1).1 ha
 rcases foldN_either (step := F171_s1) (fin := F171_f1 v) false v.valTo (fun i x hx => (step171 i x).1) v.valTo N 0 rfl (by have := hv.2.2; omega) with ⟨k1,k2⟩ | k1
 · rw [k1] at h
   unfold F171_f1 at h
   have each : ∀ t ∈ v.valTo,t ≠ 0 ∧ fitsG t = true := fun t ht => by
     obtain ⟨i,hi,ei⟩ := List.getElem_of_mem ht
     have hx : v.valTo[i]? = some t := by rw [List.getElem?_eq_getElem hi,ei]
     exact (step171 i t).2.1 (k2 i t (Nat.zero_le _) hx)
   have fin : (v.valSort = 2 → v.valNum = 0 ∨ v.valNum = 1) ∧ (v.valSort = 5 → 0 ≤ v.valNum) ∧ (v.valSort = 4 → v.valNum = 0) ∧ (v.valSort ≠ 4 → v.valSet = []) ∧ (v.valSort ≠ 5 → v.valAt = []) := by
     by_cases q2 : v.valSort = 2
     · rw [q2,show ((2 : Int) == 2) = true from rfl,iteO_true] at h
       cases q0 : v.valNum == 0 with
       | true =>
         rw [q0,iteO_true] at h
         obtain ⟨y1,y2⟩ := ite_t h
         injection y2 with y2
         exact ⟨fun _ => .inl (beq_iff_eq.1 q0),by omega,by omega,fun _ => len_zero y1,fun _ => len_zero y2⟩
       | false =>
         rw [q0,iteO_false] at h
         obtain ⟨q1,h⟩ := ite_t h
         obtain ⟨y1,y2⟩ := ite_t h
         injection y2 with y2
         exact ⟨fun _ => .inr (beq_iff_eq.1 q1),by omega,by omega,fun _ => len_zero y1,fun _ => len_zero y2⟩
     · rw [beq_eq_false_iff_ne.2 q2,iteO_false] at h
       by_cases q5 : v.valSort = 5
       · rw [q5,show ((5 : Int) == 5) = true from rfl,iteO_true] at h
         obtain ⟨y0,y1⟩ := ite_t h
         injection y1 with y1
         exact ⟨by omega,fun _ => of_decide_eq_true y0,by omega,fun _ => len_zero y1,fun h => absurd q5 h⟩
       · rw [beq_eq_false_iff_ne.2 q5,iteO_false] at h
         by_cases q4 : v.valSort = 4
         · rw [q4,show ((4 : Int) == 4) = true from rfl,iteO_true] at h
           obtain ⟨y0,y1⟩ := ite_t h
           injection y1 with y1
           exact ⟨by omega,by omega,fun _ => beq_iff_eq.1 y0,fun h => absurd q4 h,fun _ => len_zero y1⟩
         · rw [beq_eq_false_iff_ne.2 q4,iteO_false] at h
           obtain ⟨y0,y1⟩ := ite_t h
           injection y1 with y1
           exact ⟨by omega,by omega,by omega,fun _ => len_zero y0,fun _ => len_zero y1⟩
   exact ⟨by omega,gn,ss,aa,⟨hl,each⟩,fin.1,fin.2.1,fin.2.2.1,fin.2.2.2.1,fin.2.2.2.2⟩
 · rw [k1] at h; cases h
theorem vv_to171 (N : Nat) (hN : 1048600 < N) {v : Val} (h : VV v) : F171 N v = some true := by
 have hv := h.ok.small
 have hto : v.valTo.length ≤ 200 := by have := h.to.1; have := h.at'.2.2; omega
 unfold F171
 rw [decide_eq_false (by have := h.srt; omega),iteO_false,decide_eq_false (by have := h.srt; omega),iteO_false,fits181,h.num,bindO_some,iteO_true,
   (iff182 N v.valSet (by have := hv.1; omega) hv.1).2 h.set,bindO_some,iteO_true,(iff182 N v.valAt (by have := hv.2.1; omega) hv.2.1).2 h.at',bindO_some,iteO_true,beq_iff_eq.2 (by have := h.to.1; omega),iteO_true,
   foldN_go (step := F171_s1) (fin := F171_f1 v) v.valTo (fun i x hx => (step171 i x).2.2 (h.to.2 x (List.mem_of_getElem? hx))) v.valTo N 0 rfl (by omega)]
 unfold F171_f1
 have z : (([] : List Int).length : Int) = 0 := rfl
 by_cases q2 : v.valSort = 2
 · rw [q2,show ((2 : Int) == 2) = true from rfl,iteO_true,h.ns (by omega),h.na (by omega),z]
   rcases h.bool q2 with e | e <;> rw [e] <;> rfl
 · rw [beq_eq_false_iff_ne.2 q2,iteO_false]
   by_cases q5 : v.valSort = 5
   · rw [q5,show ((5 : Int) == 5) = true from rfl,iteO_true,h.ns (by omega),decide_eq_true (h.arr q5),z]; rfl
   · rw [beq_eq_false_iff_ne.2 q5,iteO_false,h.na q5]
     by_cases q4 : v.valSort = 4
     · rw [q4,h.st q4]; rfl
     · rw [beq_eq_false_iff_ne.2 q4,iteO_false,h.ns q4]; rfl
theorem vv_of126 (N : Nat) (hN : 2097200 < N) (m : List Entry) (hm : MSmall m) (h : F126 N m = some true) : ∀ e ∈ m,VV e.entryVal := fun e he => by
 have h := ((valid_iff N hN m hm).1 h).each e he
 unfold F157 at h
 obtain ⟨_,_,h⟩ := bind_t h
 obtain ⟨_,h⟩ := ite_t h
 obtain ⟨_,h⟩ := ite_f h
 obtain ⟨b,hb,h⟩ := bind_t h
 obtain ⟨e1,h⟩ := ite_t h
 rw [e1] at hb
 exact vv_of171 N (by omega) _ (hm.args e he).2.2 hb
theorem to157 (N : Nat) (hN : 1048600 < N) {x : ByteArray} {v : Val} (hx : F17 N x = some true) (hv : VV v) : F157 N ⟨x,[],v⟩ = some true := by
 obtain ⟨K,rfl⟩ : ∃ K,N = K + 1 := ⟨N - 1,by omega⟩
 unfold F157
 rw [hx,bindO_some,iteO_true,vv_to171 (K + 1) hN hv]
 rfl
theorem eval_subst (m : List Entry) (x : ByteArray) (t : Node) (v : Val) (hv : evalR m t = (v,true)) (hs : v.valSort = sortS t) : ∀ (P : Nat) (n : Node),n.size < P → sortedR n = true → (∀ y ∈ nodes n,y.op = 1 → y.name.toList = x.toList → y.sortf = sortS t) → (∀ y ∈ nodes n,y.op = 3 → (x.toList == y.name.toList) = false) →
   (evalR m (substR [x] [t] n)).2 = true → evalR (setM m ⟨x,[],v⟩) n = evalR m (substR [x] [t] n)
 | 0,_,h,_,_,_,_ => absurd h (Nat.not_lt_zero _)
 | P + 1,n,h,hz,h1,h3,he => by
   have hsub := substR_eq [x] [t] n
   by_cases o1 : n.op = 1
   · have hk := var_kids2 hz o1
     have e1 : evalR (setM m ⟨x,[],v⟩) n = (lookR n.name [] n.sortf (setM m ⟨x,[],v⟩),true) := by
       rw [ev_look (by rw [o1]; rfl) (by rw [hk]; simp),hk]; rfl
     rw [e1]
     rw [o1,show ((1 : Int) == 1) = true from rfl,cond_true] at hsub
     cases hc : x.toList == n.name.toList with
     | true =>
       have hn : n.name = x := (ba_inj (beq_iff_eq.1 hc)).symm
       have e2 : substR [x] [t] n = t := by
         rw [show firstM n.name [x] [t] = some t from by simp only [firstM,hc,cond_true]] at hsub
         injection hsub
       rw [e2,hv,hn,h1 n (nodes_self n) o1 (beq_iff_eq.1 hc).symm, ← hs]
       exact Prod.ext (look_self m ⟨x,[],v⟩) rfl
     | false =>
       have e2 : substR [x] [t] n = n := by
         rw [show firstM n.name [x] [t] = none from by simp only [firstM,hc,cond_false]] at hsub
         have hsub : some (substR [x] [t] n) = some _ := hsub
         injection hsub with hsub
         rw [hsub,hk]
         clear hsub e1 hc he h3 h1 hz h
         cases n
         simp only at o1 hk
         subst o1 hk
         rfl
       rw [e2,ev_look (by rw [o1]; rfl) (by rw [hk]; simp),hk]
       exact Prod.ext (look_other m ⟨x,[],v⟩ n.name [] n.sortf hc) rfl
   · have e2 : substR [x] [t] n = ⟨n.op,n.sortf,n.name,n.num,n.kids.map (substR [x] [t])⟩ := by
       rw [beq_eq_false_iff_ne.2 o1,cond_false] at hsub
       have hsub : some (substR [x] [t] n) = some _ := hsub
       injection hsub
     rw [e2] at he ⊢
     have hk := ev_kids he
     simp only at hk
     have ih : ∀ k ∈ n.kids,evalR (setM m ⟨x,[],v⟩) k = evalR m (substR [x] [t] k) := fun k hk' =>
       eval_subst m x t v hv hs P k (by have := kids_size hk'; omega) (sorted_kid hz hk') (fun y hy => h1 y (nodes_sub hk' hy)) (fun y hy => h3 y (nodes_sub hk' hy)) (hk _ (List.mem_map.2 ⟨k,hk',rfl⟩))
     have em : n.kids.map (evalR (setM m ⟨x,[],v⟩)) = (n.kids.map (substR [x] [t])).map (evalR m) := by
       rw [List.map_map]
       exact List.map_congr_left ih
     rw [evalR_eq (setM m ⟨x,[],v⟩) n,evalR_eq m,em,ev_all hk,cond_true,cond_true]
     by_cases o3 : n.op = 3
     · simp only [o3]
       rw [show (((3 : Int) == 1) || ((3 : Int) == 3)) = true from rfl,cond_true,cond_true]
       exact Prod.ext (look_other m ⟨x,[],v⟩ n.name _ n.sortf (h3 n (nodes_self n) o3)) rfl
     · simp only [beq_eq_false_iff_ne.2 o1,beq_eq_false_iff_ne.2 o3,Bool.or_self,cond_false]
structure Gath (l r : List Node) (xs : List Node) : Prop where
 srt : SrtN r
 len : r.length ≤ l.length + xs.length
 old : ∀ y ∈ l,y ∈ r
 new : ∀ y ∈ xs,y.op = 3 → ∃ z ∈ r,cmpR z y = 0
theorem gath_kids (self : List Node → Node → Option (List Node)) (step : List Node → Nat → Node → Option (Sum (List Node) (List Node))) (hstep : ∀ s i x,step s i x = bindO (self s x) fun r => some (.inl r)) (fin : List Node → Option (List Node)) (hf : ∀ s,fin s = some s) :
   ∀ (ks : List Node) (M i : Nat) (l : List Node),ks.length < M → SrtN l → l.length + (nodesL ks).length ≤ 3000000 → (∀ k ∈ ks, ∀ l,SrtN l → l.length + (nodes k).length ≤ 3000000 → ∃ r,self l k = some r ∧ Gath l r (nodes k)) → ∃ r,foldN step fin M ks i l = some r ∧ Gath l r (nodesL ks)
 | [],M,i,l,hM,hl,hb,_ => by
   obtain ⟨K,rfl⟩ : ∃ K,M = K + 1 := ⟨M - 1,by simp at hM; omega⟩
   exact ⟨l,hf l,hl,by simp,fun y hy => hy,fun y hy => by cases hy⟩
 | k :: ks,M,i,l,hM,hl,hb,hs => by
   obtain ⟨K,rfl⟩ : ∃ K,M = K + 1 := ⟨M - 1,by simp at hM; omega⟩
   have en : nodesL (k :: ks) = nodes k ++ nodesL ks := by rw [nodesL]
   rw [en] at hb ⊢
   simp only [List.length_append,List.length_cons] at hb hM
   obtain ⟨r,hr,g⟩ := hs k (by simp) l hl (by omega)
   obtain ⟨q,hq,g2⟩ := gath_kids self step hstep fin hf ks K (i + 1) r (by omega) g.srt (by have := g.len; omega) (fun x hx => hs x (by simp [hx]))
   refine ⟨q, ?_,g2.srt,by have := g.len; have := g2.len; simp only [List.length_append]; omega,fun y hy => g2.old y (g.old y hy),fun y hy h3 => ?_⟩
   · simp only [foldN,hstep,hr,bindO_some]
     exact hq
   · rcases List.mem_append.1 hy with hy | hy
     · obtain ⟨z,hz,hc⟩ := g.new y hy h3
       exact ⟨z,g2.old z hz,hc⟩
     · exact g2.new y hy h3
theorem apps97 : ∀ (N : Nat) (n : Node) (l : List Node),n.size + 3000000 < N → n.size ≤ 1048576 → SrtN l → l.length + (nodes n).length ≤ 3000000 → ∃ r,F97 N l n = some r ∧ Gath l r (nodes n)
 | 0,n,l,h,_,_,_ => absurd h (Nat.not_lt_zero _)
 | N + 1,n,l,h,hz,hl,hb => by
   have hk := kids_len n
   have en := nodes_eq n
   rw [en] at hb ⊢
   simp only [List.length_cons] at hb
   have ih : ∀ k ∈ n.kids, ∀ l,SrtN l → l.length + (nodes k).length ≤ 3000000 → ∃ r,F97 N l k = some r ∧ Gath l r (nodes k) := fun k hk l hl hb => apps97 N k l (by have := kids_size hk; omega) (by have := kids_size hk; omega) hl hb
   show ∃ r,F97b (F97 N) N l n = _ ∧ _
   unfold F97b
   by_cases h3 : n.op = 3
   · rw [beq_iff_eq.2 h3,iteO_true,put143 N l n ⟨by omega,hz⟩ hl (by omega) (by omega),bindO_some]
     have hp := putR_len n l
     obtain ⟨r,hr,g⟩ := gath_kids (F97 N) (F97_s1 (F97 N)) (fun _ _ _ => rfl) F97_f1 (fun _ => rfl) n.kids N 0 (putR n l) (by omega) (putR_srt n l hl) (by omega) ih
     refine ⟨r,hr,g.srt,by have := g.len; simp only [List.length_cons]; omega,fun y hy => g.old y (putR_old n l y hy),fun y hy o3 => ?_⟩
     rcases List.mem_cons.1 hy with rfl | hy
     · obtain ⟨z,hz,hc⟩ := putR_new y l
       exact ⟨z,g.old z hz,hc⟩
     · exact g.new y hy o3
   · rw [beq_eq_false_iff_ne.2 h3,iteO_false]
     obtain ⟨r,hr,g⟩ := gath_kids (F97 N) (F97_s2 (F97 N)) (fun _ _ _ => rfl) F97_f2 (fun _ => rfl) n.kids N 0 l (by omega) hl (by omega) ih
     refine ⟨r,hr,g.srt,by have := g.len; simp only [List.length_cons]; omega,g.old,fun y hy o3 => ?_⟩
     rcases List.mem_cons.1 hy with rfl | hy
     · exact absurd o3 h3
     · exact g.new y hy o3
theorem cmp_name {a b : Node} (h : cmpR a b = 0) : a.name.toList = b.name.toList := by
 have key : ∀ u w : Int,cmb u w = 0 → u = 0 ∧ w = 0 := fun u w hc => by
   unfold cmb at hc
   split at hc
   · rename_i hu; exact ⟨hu,hc⟩
   · rename_i hu; exact absurd hc hu
 rw [cmpR_eq] at h
 exact cB_zero (key _ _ (key _ _ (key _ _ h).2).2).1
end Go.Abs.Try
namespace Go.Abs.Try
set_option maxRecDepth 100000
structure Vld (N : Nat) (m : List Entry) (n : Node) (r : Val × Int) : Prop where
 ck : CK n
 hole : hol n = false
 mod : F126 N m = some true
 ev : evalR m n = (r.1,true)
 vv : VV r.1
 srt : r.1.valSort = sortS n
theorem val29 (N : Nat) (hN : loN ≤ N ∧ N ≤ hiN) (n : Node) (m : List Entry) (hm : MSmall m) (hz : n.size ≤ 1048576) : ∃ r,F1029 N n m = some r ∧ VSmall r.1 ∧ (r.2 = 0 → Vld N m n r) := by
 have hlo : loN = 4611686018400000000 := rfl
 have hhi : hiN = 4611686018427387904 := rfl
 obtain ⟨r,h1,h2,_,h4⟩ := val_1031 N hN n m 0 hm hz
 refine ⟨r,by unfold F1029; rw [h1]; rfl,h2,fun h0 => ?_⟩
 rcases h4 with ⟨g1,g2,g3,g4,g5,_⟩ | ⟨g,_⟩
 · have hck := ck_of15 N n 0 hN hz g1
   have he : evalR m n = (r.1,true) := by rw [g5]; exact Prod.ext rfl g4
   have := eval_vv m (vv_of126 N (by omega) m hm g3) (n.size + 1) n (by omega) hck.ord g4
   rw [he] at this
   exact ⟨hck,g2,g3,he,this.1,this.2⟩
 · exact absurd h0 g
theorem step1300 (N : Nat) (t : Node) (x : ByteArray) (ht : t.size < N) (i : Nat) (d : Decl) : (F1300_s1 N t x () i d = some (.inl ()) ∨ F1300_s1 N t x () i d = some (.inr true)) ∧ (F1300_s1 N t x () i d = some (.inl ()) → d.declName.toList = x.toList → d.declSort = sortS t) := by
 unfold F1300_s1
 cases h : d.declName.toList == x.toList with
 | false => exact ⟨.inl rfl,fun _ e => by rw [e,beq_self_eq_true] at h; cases h⟩
 | true =>
   rw [iteO_true,sort28 N t ht,bindO_some]
   cases h2 : d.declSort == sortS t with
   | true => exact ⟨.inl rfl,fun _ _ => beq_iff_eq.1 h2⟩
   | false => exact ⟨.inr rfl,fun e => by cases e⟩
theorem step1300b (x : ByteArray) (i : Nat) (z : Node) : (F1300_s2 x () i z = some (.inl ()) ∨ F1300_s2 x () i z = some (.inr true)) ∧ (F1300_s2 x () i z = some (.inl ()) → (x.toList == z.name.toList) = false) := by
 unfold F1300_s2
 cases h : z.name.toList == x.toList with
 | false => exact ⟨.inl rfl,fun _ => by rw [← h,Bool.eq_iff_iff,beq_iff_eq,beq_iff_eq]; exact eq_comm⟩
 | true => exact ⟨.inr rfl,fun e => by cases e⟩
theorem lawMr (n : Node) (x : ByteArray) (t : Node) (m : List Entry) (hn : n.size ≤ 1048576) (ht : t.size ≤ 1048576) (hm : MSmall m) : F1300 4611686018427387904 n x t m = some true := by
 obtain ⟨N,hNe⟩ : ∃ N : Nat,N = 4611686018427387904 := ⟨_,rfl⟩
 have ha : F1027 N = some true := by rw [hNe]; exact awake1027 4611686018427387874
 have hlo : loN = 4611686018400000000 := rfl
 have hhi : hiN = 4611686018427387904 := rfl
 have hN : loN ≤ N ∧ N ≤ hiN := by omega
 rw [← hNe]
 unfold F1300
 rw [ha,bindO_some,iteO_true,size27 N n (by omega) (by omega),bindO_some]
 by_cases hn2 : n.size ≤ 200
 case neg => rw [decide_eq_true (by omega),iteO_true]
 rw [decide_eq_false (by omega),iteO_false,size27 N t (by omega) (by omega),bindO_some]
 by_cases ht2 : t.size ≤ 200
 case neg => rw [decide_eq_true (by omega),iteO_true]
 rw [decide_eq_false (by omega),iteO_false]
 obtain ⟨b,hb,hbl⟩ := short_1028 N (by omega) m (fun e h => hm.args e h) hm.len
 rw [hb,bindO_some]
 cases b with
 | false => rfl
 | true =>
 have hml := hbl rfl
 rw [iteO_true]
 obtain ⟨b,_,hx⟩ := name_same N x (by omega)
 rw [hx,bindO_some]
 cases b with
 | false => rfl
 | true =>
 rw [iteO_true,vars47 N n (by omega) hn,bindO_some]
 have hvl : (varsR n).length ≤ 1048576 := by
   have h1 := foldV_len (nodes n) []
   have h2 := nodes_len n
   unfold varsR
   simp only [List.length_nil] at h1
   omega
 rcases foldN_either (step := F1300_s1 N t x) (fin := F1300_f1 N m n t x) true (varsR n) (fun i d _ => (step1300 N t x (by omega) i d).1) (varsR n) N 0 rfl (by omega) with ⟨k1,k2⟩ | k1
 case inr => exact k1
 rw [k1]
 have hvar : ∀ y ∈ nodes n,y.op = 1 → y.name.toList = x.toList → y.sortf = sortS t := fun y hy o1 hnm => by
   have hd : (⟨y.name,y.sortf⟩ : Decl) ∈ varsR n := (foldV_mem _ _ _).2 (.inr ⟨y,hy,o1,rfl⟩)
   obtain ⟨i,hi,ei⟩ := List.getElem_of_mem hd
   have hx : (varsR n)[i]? = some ⟨y.name,y.sortf⟩ := by rw [List.getElem?_eq_getElem hi,ei]
   exact (step1300 N t x (by omega) i ⟨y.name,y.sortf⟩).2 (k2 i _ (Nat.zero_le _) hx) hnm
 unfold F1300_f1
 obtain ⟨r,e1,s1,v1⟩ := val29 N hN t m hm (by omega)
 have hsz := subst_size [x] [t] 200 (by decide) (fun w hw => by rw [List.mem_singleton.1 hw]; exact ht2) n
 have hsz2 : (substR [x] [t] n).size ≤ 40000 := Nat.le_trans hsz (Nat.mul_le_mul_right 200 hn2)
 have e2 : F25 N n x t = some (substR [x] [t] n) := by
   unfold F25
   rw [subst23 [x] [t] ⟨by simp,by simp⟩ N n (by omega) (by omega) (fun w hw => by rw [List.mem_singleton.1 hw]; omega)]; rfl
 obtain ⟨w,e3,s3,v3⟩ := val29 N hN (substR [x] [t] n) m hm (by omega)
 rw [e1,bindO_some,e2,bindO_some,e3,bindO_some]
 by_cases r0 : r.2 = 0
 case neg => rw [beq_eq_false_iff_ne.2 r0,iteO_false]
 by_cases w0 : w.2 = 0
 case neg => rw [beq_iff_eq.2 r0,iteO_true,beq_eq_false_iff_ne.2 w0,iteO_false]
 rw [beq_iff_eq.2 r0,iteO_true,beq_iff_eq.2 w0,iteO_true]
 have v1 := v1 r0
 have v3 := v3 w0
 have hes : ESmall ⟨x,[],r.1⟩ := ⟨by simp,by simp,s1⟩
 obtain ⟨q,q1,q2,_,_⟩ := eq1302 N (by omega) m hm ⟨x,[],r.1⟩ hes hml
 have q3 := set_1222 N (by omega) m hm ⟨x,[],r.1⟩ true v1.mod (to157 N (by omega) hx v1.vv) (by omega)
 rw [cond_true] at q3
 rw [q2] at q3
 injection q3 with q3
 subst q3
 rw [q1,bindO_some]
 obtain ⟨u,e4,s4,v4⟩ := val29 N hN n (setM m ⟨x,[],r.1⟩) (small_set m _ hm (by omega) hes) (by omega)
 have hnl := nodes_len n
 obtain ⟨ap,e5,ga⟩ := apps97 N n [] (by omega) (by omega) .nil (by simp; omega)
 have e6 : F50 N n = some ap := by unfold F50; rw [e5]; rfl
 have gl := ga.len
 simp only [List.length_nil] at gl
 rw [show ((setM m ⟨x,[],r.1⟩,(0 : Int)).2 == 0) = true from rfl,iteO_true,e4,bindO_some,e6,bindO_some]
 rcases foldN_either (step := F1300_s2 x) (fin := F1300_f2 N w u) true ap (fun i z _ => (step1300b x i z).1) ap N 0 rfl (by omega) with ⟨j1,j2⟩ | j1
 case inr => exact j1
 rw [j1]
 have happ : ∀ y ∈ nodes n,y.op = 3 → (x.toList == y.name.toList) = false := fun y hy o3 => by
   obtain ⟨z,hz,hc⟩ := ga.new y hy o3
   obtain ⟨i,hi,ei⟩ := List.getElem_of_mem hz
   have hx : ap[i]? = some z := by rw [List.getElem?_eq_getElem hi,ei]
   rw [← cmp_name hc]
   exact (step1300b x i z).2 (j2 i z (Nat.zero_le _) hx)
 unfold F1300_f2
 by_cases u0 : u.2 = 0
 case neg => rw [beq_eq_false_iff_ne.2 u0,iteO_false]
 have v4 := v4 u0
 have hes := eval_subst m x t r.1 v1.ev v1.srt (n.size + 1) n (by omega) v4.ck.ord hvar happ (by rw [v3.ev])
 rw [v4.ev,v3.ev] at hes
 have huw : u.1 = w.1 := (Prod.mk.inj hes).1
 rw [beq_iff_eq.2 u0,iteO_true,huw,same_self N w.1 (by omega) s3]
 rfl
end Go.Abs.Try
