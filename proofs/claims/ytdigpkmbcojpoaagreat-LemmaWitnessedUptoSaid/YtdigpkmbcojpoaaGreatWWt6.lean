import Derived.Test.YtdigpkmbcojpoaaGreatWWt5
set_option linter.unusedSimpArgs false
set_option linter.unusedVariables false
namespace Go.Abs.Try
set_option maxRecDepth 100000
theorem hol_sub {n k : Node} (h : hol n = false) (hk : k ∈ n.kids) : hol k = false := by
 unfold hol at h ⊢
 rw [List.any_eq_false] at h ⊢
 exact fun x hx => h x (nodes_sub hk hx)
theorem var_kids {w : Node} (h : sortedR w = true) (ho : w.op = 1) : w.kids = [] := by
 obtain ⟨_,h2,_⟩ := sortedR_kids h
 have e153 : F153 1 = some ([],true) := rfl
 rw [ho] at h2
 simp only [shapeB,e153,Option.getD_some,cond_true,beq_iff_eq] at h2
 exact List.map_eq_nil_iff.1 h2
def wE (w : ByteArray) (x : Int) : Entry := ⟨w,[],⟨1,x,[],[],[]⟩⟩
theorem ev_var (m : List Entry) (wn : Node) (x : Int) (h : sortedR wn = true) (ho : wn.op = 1) (hs : wn.sortf = 1) : evalR (setM m (wE wn.name x)) wn = (⟨1,x,[],[],[]⟩,true) := by
 have hk := var_kids h ho
 rw [ev_look (by rw [ho]; rfl) (by rw [hk]; simp),hk,hs]
 have := look_self m (wE wn.name x)
 rw [show lookR wn.name ((([] : List Node).map (evalR (setM m (wE wn.name x)))).map (·.1)) 1 (setM m (wE wn.name x)) = ⟨1,x,[],[],[]⟩ from this]
theorem one_t (b : Bool) : ((truthV b).valNum == 1) = b := by cases b <;> rfl
theorem zero_t (b : Bool) : ((truthV b).valNum == 0) = !b := by cases b <;> rfl
section
variable (k : List Entry)
theorem step1 (op : Int) (p : Node) (P : Val) (ho : ((op == 1) || (op == 3)) = false) (hp : evalR k p = (P,true)) : evalR k (nd op [p]) = applyR op 0 [P] := by
 rw [ev_nd ho (by intro x hx; rw [List.mem_singleton.1 hx,hp]),List.map_cons,List.map_cons,hp]; rfl
theorem step2 (op : Int) (p q : Node) (P Q : Val) (ho : ((op == 1) || (op == 3)) = false) (hp : evalR k p = (P,true)) (hq : evalR k q = (Q,true)) : evalR k (nd op [p,q]) = applyR op 0 [P,Q] := by
 rw [ev_nd ho (by
   intro x hx
   rcases List.mem_cons.1 hx with rfl | hx
   · rw [hp]
   · rw [List.mem_singleton.1 hx,hq]),List.map_cons,List.map_cons,List.map_cons,List.map_cons,hp,hq]; rfl
variable (a b wn : Node) (A B : Val) (x : Int) (ha : evalR k a = (A,true)) (hb : evalR k b = (B,true)) (hw : evalR k wn = (⟨1,x,[],[],[]⟩,true))
include ha hb hw
theorem ev_part4 : evalR k (part4 a b wn) = (truthV (A.valSet.all (fun z => hasL B.valSet z) || (hasL A.valSet x && !hasL B.valSet x)),true) := by
 have e1 : evalR k (nd 41 [a,b]) = (truthV (A.valSet.all fun z => hasL B.valSet z),true) := step2 k 41 a b A B rfl ha hb
 have e2 : evalR k (nd 40 [wn,a]) = (truthV (hasL A.valSet x),true) := step2 k 40 wn a _ A rfl hw ha
 have e3 : evalR k (nd 40 [wn,b]) = (truthV (hasL B.valSet x),true) := step2 k 40 wn b _ B rfl hw hb
 have e4 : evalR k (nd 32 [nd 40 [wn,b]]) = (truthV ((truthV (hasL B.valSet x)).valNum == 0),true) := step1 k 32 _ _ rfl e3
 have e5 : evalR k (nd 33 [nd 40 [wn,a],nd 32 [nd 40 [wn,b]]]) = (truthV (((truthV (hasL A.valSet x)).valNum == 1) && ((truthV ((truthV (hasL B.valSet x)).valNum == 0)).valNum == 1)),true) := step2 k 33 _ _ _ _ rfl e2 e4
 have e6 : evalR k (part4 a b wn) = (truthV (((truthV (A.valSet.all fun z => hasL B.valSet z)).valNum == 1) || ((truthV (((truthV (hasL A.valSet x)).valNum == 1) && ((truthV ((truthV (hasL B.valSet x)).valNum == 0)).valNum == 1))).valNum == 1)),true) := step2 k 34 _ _ _ _ rfl e1 e5
 rw [e6]
 simp only [one_t,zero_t]
theorem ev_part5 : evalR k (part5 a b wn) = (truthV (sameV A B || !((truthV (hasL A.valSet x)).valNum == (truthV (hasL B.valSet x)).valNum)),true) := by
 have e1 : evalR k (nd 37 [a,b]) = (truthV (sameV A B),true) := step2 k 37 a b A B rfl ha hb
 have e2 : evalR k (nd 40 [wn,a]) = (truthV (hasL A.valSet x),true) := step2 k 40 wn a _ A rfl hw ha
 have e3 : evalR k (nd 40 [wn,b]) = (truthV (hasL B.valSet x),true) := step2 k 40 wn b _ B rfl hw hb
 have e4 : evalR k (nd 36 [nd 40 [wn,a],nd 40 [wn,b]]) = (truthV ((truthV (hasL A.valSet x)).valNum == (truthV (hasL B.valSet x)).valNum),true) := step2 k 36 _ _ _ _ rfl e2 e3
 have e5 : evalR k (nd 32 [nd 36 [nd 40 [wn,a],nd 40 [wn,b]]]) = (truthV ((truthV ((truthV (hasL A.valSet x)).valNum == (truthV (hasL B.valSet x)).valNum)).valNum == 0),true) := step1 k 32 _ _ rfl e4
 have e6 : evalR k (part5 a b wn) = (truthV (((truthV (sameV A B)).valNum == 1) || ((truthV ((truthV ((truthV (hasL A.valSet x)).valNum == (truthV (hasL B.valSet x)).valNum)).valNum == 0)).valNum == 1)),true) := step2 k 34 _ _ _ _ rfl e1 e5
 rw [e6]
 simp only [one_t,zero_t]
theorem ev_diff (f1 : fitsG A.valNum = true) (f2 : fitsG B.valNum = true) (f3 : fitsG (atV A x) = true) (f4 : fitsG (atV B x) = true) :
   evalR k (diffN a b wn) = (truthV (sameV A B || (!sameV (numV A.valNum) (numV B.valNum) || !sameV (numV (atV A x)) (numV (atV B x)))),true) := by
 have e1 : evalR k (nd 37 [a,b]) = (truthV (sameV A B),true) := step2 k 37 a b A B rfl ha hb
 have e2 : evalR k (nd 16 [a]) = (numV A.valNum,true) := by rw [← f1]; exact step1 k 16 a A rfl ha
 have e3 : evalR k (nd 16 [b]) = (numV B.valNum,true) := by rw [← f2]; exact step1 k 16 b B rfl hb
 have e4 : evalR k (nd 14 [a,wn]) = (numV (atV A x),true) := by rw [← f3]; exact step2 k 14 a wn A _ rfl ha hw
 have e5 : evalR k (nd 14 [b,wn]) = (numV (atV B x),true) := by rw [← f4]; exact step2 k 14 b wn B _ rfl hb hw
 have e6 : evalR k (nd 37 [nd 16 [a],nd 16 [b]]) = (truthV (sameV (numV A.valNum) (numV B.valNum)),true) := step2 k 37 _ _ _ _ rfl e2 e3
 have e7 : evalR k (nd 37 [nd 14 [a,wn],nd 14 [b,wn]]) = (truthV (sameV (numV (atV A x)) (numV (atV B x))),true) := step2 k 37 _ _ _ _ rfl e4 e5
 have e8 := step1 k 32 _ _ rfl e6
 have e9 := step1 k 32 _ _ rfl e7
 have e8 : evalR k (nd 32 [nd 37 [nd 16 [a],nd 16 [b]]]) = (truthV ((truthV (sameV (numV A.valNum) (numV B.valNum))).valNum == 0),true) := e8
 have e9 : evalR k (nd 32 [nd 37 [nd 14 [a,wn],nd 14 [b,wn]]]) = (truthV ((truthV (sameV (numV (atV A x)) (numV (atV B x)))).valNum == 0),true) := e9
 rw [zero_t] at e8 e9
 have e10 : evalR k (nd 34 [nd 32 [nd 37 [nd 16 [a],nd 16 [b]]],nd 32 [nd 37 [nd 14 [a,wn],nd 14 [b,wn]]]]) = (truthV (((truthV (!sameV (numV A.valNum) (numV B.valNum))).valNum == 1) || ((truthV (!sameV (numV (atV A x)) (numV (atV B x)))).valNum == 1)),true) := step2 k 34 _ _ _ _ rfl e8 e9
 rw [one_t,one_t] at e10
 have e11 : evalR k (diffN a b wn) = (truthV (((truthV (sameV A B)).valNum == 1) || ((truthV (!sameV (numV A.valNum) (numV B.valNum) || !sameV (numV (atV A x)) (numV (atV B x)))).valNum == 1)),true) := step2 k 34 _ _ _ _ rfl e1 e10
 rw [e11,one_t,one_t]
end
def WitN (n a b wn : Node) : Prop := (n = part4 a b wn ∧ sortS a = 4 ∧ sortS b = 4) ∨ (n = part5 a b wn ∧ sortS a = 4 ∧ sortS b = 4) ∨ (n = diffN a b wn ∧ sortS a = 5 ∧ sortS b = 5)
def inAB (A B : Val) (x : Int) : Prop := x = 0 ∨ (x ∈ A.valSet ∨ x ∈ A.valAt) ∨ (x ∈ B.valSet ∨ x ∈ B.valAt)
theorem hit (m : List Entry) (hm : MOk m) (hv : ∀ e ∈ m,VG e.entryVal.valSort e.entryVal) (n a b wn : Node) (hf : WitN n a b wn) (hw : wit wn a b) (za : a.size ≤ 4000) (zb : b.size ≤ 4000)
   (sa : sortedR a = true) (sb : sortedR b = true) (sw : sortedR wn = true) (ea : (evalR m a).2 = true) (eb : (evalR m b).2 = true) :
   ∃ x,inAB (evalR m a).1 (evalR m b).1 x ∧ evalR (setM m (wE wn.name x)) n = (truthV true,true) := by
 obtain ⟨w1,w2,w3,w4⟩ := hw
 have hA : ∀ x,evalR (setM m (wE wn.name x)) a = ((evalR m a).1,true) := fun x => by
   rw [eval_other m (wE wn.name x) (a.size + 1) a (by omega) w3, ← ea]
 have hB : ∀ x,evalR (setM m (wE wn.name x)) b = ((evalR m b).1,true) := fun x => by
   rw [eval_other m (wE wn.name x) (b.size + 1) b (by omega) w4, ← eb]
 have hW := fun x => ev_var m wn x sw w1 w2
 have oa := ev_ok hm (by omega) sa ea
 have ob := ev_ok hm (by omega) sb eb
 have ga := eval_vg m hm hv (a.size + 1) a (by omega) (by omega) sa ea
 have gb := eval_vg m hm hv (b.size + 1) b (by omega) (by omega) sb eb
 generalize (evalR m a).1 = A at *
 generalize (evalR m b).1 = B at *
 rcases hf with ⟨rfl,s1,s2⟩ | ⟨rfl,s1,s2⟩ | ⟨rfl,s1,s2⟩
 · have key := fun x => ev_part4 _ a b wn A B x (hA x) (hB x) (hW x)
   cases hs : A.valSet.all (fun z => hasL B.valSet z) with
   | true => exact ⟨0,.inl rfl,by rw [key 0,hs,Bool.true_or]⟩
   | false =>
     rw [List.all_eq_false] at hs
     obtain ⟨x,hx,hn⟩ := hs
     have hn : hasL B.valSet x = false := by
       cases h : hasL B.valSet x with
       | false => rfl
       | true => exact absurd h hn
     exact ⟨x,.inr (.inl (.inl hx)),by rw [key x,hn,hasL_iff.2 hx]; simp⟩
 · have key := fun x => ev_part5 _ a b wn A B x (hA x) (hB x) (hW x)
   rw [s1] at ga
   rw [s2] at gb
   have ga := ga (.inl rfl)
   have gb := gb (.inl rfl)
   by_cases hs : sameV A B = true
   · exact ⟨0,.inl rfl,by rw [key 0,hs,Bool.true_or]⟩
   · have : ∃ x,(x ∈ A.valSet ∧ x ∉ B.valSet) ∨ (x ∈ B.valSet ∧ x ∉ A.valSet) := by
       apply Classical.byContradiction
       intro hno
       refine hs (sameV_iff.2 (set_same (ga.2.1 rfl) (gb.2.1 rfl) (by rw [ga.1,gb.1]) fun x => ⟨fun h => ?_,fun h => ?_⟩))
       · apply Classical.byContradiction
         intro h2; exact hno ⟨x,.inl ⟨h,h2⟩⟩
       · apply Classical.byContradiction
         intro h2; exact hno ⟨x,.inr ⟨h,h2⟩⟩
     have nh : ∀ {l : List Int} {x : Int},x ∉ l → hasL l x = false := fun {l x} h => by
       cases hh : hasL l x with
       | false => rfl
       | true => exact absurd (hasL_iff.1 hh) h
     obtain ⟨x,⟨h1,h2⟩ | ⟨h1,h2⟩⟩ := this
     · exact ⟨x,.inr (.inl (.inl h1)),by rw [key x,hasL_iff.2 h1,nh h2]; simp [truthV]⟩
     · exact ⟨x,.inr (.inr (.inl h1)),by rw [key x,hasL_iff.2 h1,nh h2]; simp [truthV]⟩
 · rw [s1] at ga
   rw [s2] at gb
   have ga := ga (.inr rfl)
   have gb := gb (.inr rfl)
   have aA := ga.2.2 rfl
   have aB := gb.2.2 rfl
   have key := fun x => ev_diff _ a b wn A B x (hA x) (hB x) (hW x) (fitsG_iff.2 oa.1) (fitsG_iff.2 ob.1) (at_fit aA.fit x) (at_fit aB.fit x)
   by_cases hs : sameV A B = true
   · exact ⟨0,.inl rfl,by rw [key 0,hs,Bool.true_or]⟩
   · have nf : ∀ {p q : Int},p ≠ q → sameV (numV p) (numV q) = false := fun {p q} h => by
       cases hh : sameV (numV p) (numV q) with
       | false => rfl
       | true =>
         have := sameV_iff.1 hh
         exact absurd (by injection this) h
     by_cases hn : A.valNum = B.valNum
     · have : ∃ x,(x ∈ A.valAt ∨ x ∈ B.valAt) ∧ atV A x ≠ atV B x := by
         apply Classical.byContradiction
         intro hno
         refine hs (sameV_iff.2 (arr_same aA aB (by rw [ga.1,gb.1]) hn fun x h => ?_))
         apply Classical.byContradiction
         intro h2; exact hno ⟨x,h,h2⟩
       obtain ⟨x,h1,h2⟩ := this
       refine ⟨x, ?_,by rw [key x,nf h2]; simp⟩
       rcases h1 with h1 | h1
       · exact .inr (.inl (.inr h1))
       · exact .inr (.inr (.inr h1))
     · exact ⟨0,.inl rfl,by rw [key 0,nf hn]; simp⟩
end Go.Abs.Try
