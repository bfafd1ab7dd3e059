import Derived.Test.YtdigpkmbcojpoaaGreatWMod1toWP8
import Derived.Test.YtdigpkmbcojpoaaGreatWD
import Derived.Test.YtdigpkmbcojpoaaGreatWMod2toWMod3
set_option linter.unusedSimpArgs false
set_option linter.unusedVariables false
namespace Go.Abs.Try
set_option maxRecDepth 100000
def cB (x y : List UInt8) : Int := if x < y then -1 else if x = y then 0 else 1
theorem cmpB_eq : ∀ x y : List UInt8,Lib.compareBytes x y = cB x y
 | [],[] => by simp [Lib.compareBytes,cB]
 | [],b :: y => by simp [Lib.compareBytes,cB]
 | a :: x,[] => by simp [Lib.compareBytes,cB]
 | a :: x,b :: y => by
   have ih := cmpB_eq x y
   simp only [cB] at ih
   simp only [Lib.compareBytes,cB,List.cons_lt_cons_iff,List.cons.injEq,ih]
   by_cases h1 : a < b
   · simp [h1]
   · by_cases h2 : b < a
     · have h3 : a ≠ b := fun e => by subst e; exact UInt8.lt_irrefl _ h2
       simp [h1,h2,h3]
     · have h3 : a = b := UInt8.le_antisymm (UInt8.not_lt.1 h2) (UInt8.not_lt.1 h1)
       simp [h3,UInt8.lt_irrefl]
def sg (a b : Int) : Int := if a < b then -1 else if a > b then 1 else 0
theorem sg78 (a b : Int) : F78 a b = some (sg a b) := by
 simp only [F78,sg,iteO_if,decide_eq_true_eq]
 repeat' split
 all_goals rfl
theorem sg80 (a b : Int) : F80 a b = some (sg a b) := by
 simp only [F80,sg,iteO_if,decide_eq_true_eq]
 repeat' split
 all_goals rfl
theorem s79 (a b : ByteArray) : F79 a b = some (cB a.toList b.toList) := by
 rw [F79,cmpS,cmpB_eq,ba_toList,ba_toList]
def cmb (u v : Int) : Int := if u = 0 then v else u
theorem cmb_neg (u v : Int) : cmb (-u) (-v) = -cmb u v := by
 unfold cmb; split <;> split <;> omega
theorem sg_neg (a b : Int) : sg b a = -sg a b := by
 unfold sg
 by_cases h1 : a < b
 · have h2 : ¬ b < a := by omega
   simp [h1,h2]
 · by_cases h2 : b < a
   · simp [h1,h2]
   · simp [h1,h2]
theorem cB_neg (x y : List UInt8) : cB y x = -cB x y := by
 unfold cB
 rcases list_tri x y with h | h | h
 · have h2 : ¬ y < x := fun h' => List.lt_irrefl x (List.lt_trans h h')
   have h3 : y ≠ x := fun e => by subst e; exact List.lt_irrefl _ h
   simp [h,h2,h3]
 · subst h; simp [List.lt_irrefl]
 · have h2 : ¬ x < y := fun h' => List.lt_irrefl x (List.lt_trans h' h)
   have h3 : x ≠ y := fun e => by subst e; exact List.lt_irrefl _ h
   simp [h,h2,h3]
theorem cB_zero {x y : List UInt8} (h : cB x y = 0) : x = y := by
 unfold cB at h
 by_cases h1 : x < y
 · simp [h1] at h
 · by_cases h2 : x = y
   · exact h2
   · simp [h1,h2] at h
mutual
def cmpR : Node → Node → Int
  | ⟨o,s,nm,nu,ks⟩,b => cmb (sg o b.op) (cmb (sg s b.sortf) (cmb (cB nm.toList b.name.toList) (cmb (sg nu b.num) (cmb (sg ks.length b.kids.length) (cmpL ks b.kids)))))
def cmpL : List Node → List Node → Int
  | [],_ => 0
  | x :: xs,l => match l with
    | [] => 0
    | y :: ys => cmb (cmpR x y) (cmpL xs ys)
end
mutual
theorem cmpR_neg : ∀ a b : Node,cmpR b a = -cmpR a b
  | ⟨o,s,nm,nu,ks⟩,⟨o',s',nm',nu',ks'⟩ => by
    simp only [cmpR, ← cmb_neg,sg_neg o o',sg_neg s s',cB_neg nm.toList nm'.toList,sg_neg nu nu',sg_neg (ks.length : Int) ks'.length,cmpL_neg ks ks']
theorem cmpL_neg : ∀ a b : List Node,cmpL b a = -cmpL a b
  | [],[] => by simp [cmpL]
  | [],y :: ys => by simp [cmpL]
  | x :: xs,[] => by simp [cmpL]
  | x :: xs,y :: ys => by simp only [cmpL, ← cmb_neg,cmpR_neg x y,cmpL_neg xs ys]
end
theorem sg_zero {a b : Int} (h : sg a b = 0) : a = b := by
 unfold sg at h
 by_cases h1 : a < b
 · simp [h1] at h
 · by_cases h2 : a > b
   · simp [h1,h2] at h
   · omega
theorem cmpR_self (a : Node) : cmpR a a = 0 := by
 have := cmpR_neg a a
 omega
end Go.Abs.Try
namespace Go.Abs.Try
set_option maxRecDepth 100000
theorem cmpR_eq (a b : Node) : cmpR a b = cmb (sg a.op b.op) (cmb (sg a.sortf b.sortf) (cmb (cB a.name.toList b.name.toList) (cmb (sg a.num b.num) (cmb (sg a.kids.length b.kids.length) (cmpL a.kids b.kids))))) := by
 cases a; simp only [cmpR]
theorem iteO_cmb (u : Int) (x : Option Int) (v : Int) (h : u = 0 → x = some v) : iteO (u == 0) x (some u) = some (cmb u v) := by
 by_cases hu : u = 0
 · have e : (u == 0) = true := beq_iff_eq.2 hu
   rw [e,iteO_true,h hu,cmb,if_pos hu]
 · have e : (u == 0) = false := beq_eq_false_iff_ne.2 hu
   rw [e,iteO_false,cmb,if_neg hu]
theorem kids18 (self : Node → Node → Option Int) (b : Node) : ∀ (ks : List Node) (N i : Nat),(∀ x ∈ ks, ∀ y,self x y = some (cmpR x y)) → ks.length = (b.kids.drop i).length → ks.length < N → foldN (F18_s1 self b) F18_f1 N ks i () = some (cmpL ks (b.kids.drop i))
 | [],N,i,_,_,hN => by
   obtain ⟨M,rfl⟩ : ∃ M,N = M + 1 := ⟨N - 1,by simp at hN; omega⟩
   simp only [foldN,F18_f1,cmpL]
 | x :: xs,N,i,hs,hl,hN => by
   obtain ⟨M,rfl⟩ : ∃ M,N = M + 1 := ⟨N - 1,by simp at hN; omega⟩
   simp only [List.length_cons] at hl hN
   have hi : i < b.kids.length := by simp at hl; omega
   have hd := List.drop_eq_getElem_cons hi
   have ha : atO b.kids (i : Int) = some b.kids[i] := atO_get (List.getElem?_eq_getElem hi)
   have ih := kids18 self b xs M (i + 1) (fun x hx => hs x (by simp [hx])) (by simp at hl ⊢; omega) (by omega)
   rw [hd,cmpL]
   simp only [foldN,F18_s1,ha,bindO_some,hs x (by simp)]
   by_cases hz : cmpR x b.kids[i] = 0
   · have e : (cmpR x b.kids[i] == 0) = true := beq_iff_eq.2 hz
     simp only [e,iteO_true,bindO_some,cmb,hz,if_true]
     exact ih
   · have e : (cmpR x b.kids[i] == 0) = false := beq_eq_false_iff_ne.2 hz
     simp only [e,iteO_false,bindO_some,cmb,hz,if_false]
theorem cmp18 : ∀ (N : Nat) (a b : Node),a.size < N → F18 N a b = some (cmpR a b)
 | 0,a,_,h => absurd h (Nat.not_lt_zero _)
 | N + 1,a,b,h => by
   have hk := kids_len a
   show F18b (F18 N) N a b = _
   rw [cmpR_eq]
   simp only [F18b,sg78,sg80,s79,bindO_some]
   refine iteO_cmb _ _ _ fun _ => iteO_cmb _ _ _ fun _ => iteO_cmb _ _ _ fun _ => iteO_cmb _ _ _ fun _ => iteO_cmb _ _ _ fun hl => ?_
   have hl := sg_zero hl
   have := kids18 (F18 N) b a.kids N 0 (fun x hx y => cmp18 N x y (by have := kids_size hx; omega)) (by simp; omega) (by omega)
   simpa using this
end Go.Abs.Try
namespace Go.Abs.Try
set_option maxRecDepth 100000
theorem fits64_ok {n : Nat} (h : n ≤ 1048577) : fits n 64 = true := by
 simp only [fits,roomMax]; exact decide_eq_true (by omega)
theorem copied82 : ∀ (N : Nat) (n : Node),n.size < N → n.size ≤ 1048576 → F82 N n = some n
 | 0,n,h,_ => absurd h (Nat.not_lt_zero _)
 | N + 1,n,h,hb => by
   have hk := kids_len n
   show F82b (F82 N) N n = _
   have hf : fits n.kids.length 64 = true := fits64_ok (by omega)
   simp only [F82b,hf,iteO_true,Int.toNat_natCast]
   refine foldN_idx (step := F82_s1 (F82 N)) (fin := F82_f1 n) (fun s _ _ => s) (fun i l s => s = n.kids ∧ i + l.length = n.kids.length) (fun r => r = some n) ?_ ?_ (List.range n.kids.length) N 0 n.kids (by simp; omega) ⟨rfl,by simp⟩
   · intro x xs i s ⟨h1,h2⟩
     subst h1
     simp only [List.length_cons] at h2
     have hi : i < n.kids.length := by omega
     have hm := List.getElem_mem hi
     have hs := kids_size hm
     have ha : atO n.kids (i : Int) = some n.kids[i] := atO_get (List.getElem?_eq_getElem hi)
     refine ⟨?_,rfl,by omega⟩
     simp only [F82_s1,ha,bindO_some,copied82 N n.kids[i] (by omega) (by omega),List.set_getElem_self]
   · intro i s ⟨h1,_⟩
     subst h1
     cases n; rfl
end Go.Abs.Try
namespace Go.Abs.Try
set_option maxRecDepth 100000
def LeO {α : Type} (a b : Option α) : Prop := ∀ r,a = some r → b = some r
theorem leR {α : Type} (a : Option α) : LeO a a := fun _ h => h
theorem leN {α : Type} (b : Option α) : LeO none b := fun _ h => by cases h
theorem leB {α β : Type} {a a' : Option α} {f f' : α → Option β} (h : LeO a a') (hf : ∀ x,LeO (f x) (f' x)) : LeO (bindO a f) (bindO a' f') := by
 intro r hr
 obtain ⟨x,hx,hy⟩ := bindO_eq hr
 rw [h x hx]; exact hf x r hy
theorem leI {α : Type} {b : Bool} {x x' y y' : Option α} (h1 : LeO x x') (h2 : LeO y y') : LeO (iteO b x y) (iteO b x' y') := by
 cases b
 · exact h2
 · exact h1
theorem leF {S α β : Type} {st st' : S → Nat → α → Option (Sum S β)} {fin fin' : S → Option β} (h : ∀ s i x,LeO (st s i x) (st' s i x)) (hf : ∀ s,LeO (fin s) (fin' s)) : ∀ {N M : Nat} (_ : N ≤ M) (l : List α) (i : Nat) (s : S),LeO (foldN st fin N l i s) (foldN st' fin' M l i s)
 | 0,_,_,_,_,_ => leN _
 | N + 1,0,hh,_,_,_ => by omega
 | N + 1,M + 1,hh,[],i,s => hf s
 | N + 1,M + 1,hh,x :: xs,i,s => leB (h s i x) fun r => by
   cases r with
   | inl s' => exact leF h hf (by omega) xs (i + 1) s'
   | inr y => exact leR _
theorem leW {S β : Type} {st st' : S → Option (Sum S β)} (h : ∀ s,LeO (st s) (st' s)) : ∀ {N M : Nat} (_ : N ≤ M) (s : S),LeO (whileN st N s) (whileN st' M s)
 | 0,_,_,_ => leN _
 | N + 1,0,hh,_ => by omega
 | N + 1,M + 1,hh,s => leB (h s) fun r => by
   cases r with
   | inl s' => exact leW h (by omega) s'
   | inr y => exact leR _
theorem mF39 : ∀ {N M : Nat} (_ : N ≤ M) (n : Node),LeO (F39 N n) (F39 M n)
 | 0,_,_,_ => leN _
 | N + 1,0,h,_ => by omega
 | N + 1,M + 1,h,n => by
   have h' : N ≤ M := by omega
   simp only [F39,F39b]
   refine leF (fun _ _ x => ?_) (fun _ => leR _) h' _ _ _
   simp only [F39_s1]
   exact leB (mF39 h' x) fun _ => leR _
theorem mF76 {N M : Nat} (h : N ≤ M) (s : ByteArray) : LeO (F76 N s) (F76 M s) := leB (leR _) fun _ => leF (fun _ _ _ => leR _) (fun _ => leR _) h _ _ _
theorem mF17 {N M : Nat} (h : N ≤ M) (s : ByteArray) : LeO (F17 N s) (F17 M s) := by
 simp only [F17]
 exact leI (leR _) (leI (leR _) (leI (leB (leR _) fun _ => leI (leB (mF76 h _) fun _ => leI (leR _) (leW (fun _ => leR _) h _)) (leR _)) (leR _)))
end Go.Abs.Try
namespace Go.Abs.Try
set_option maxRecDepth 100000
theorem check_sorted (N : Nat) (n : Node) (hN : 4611686018400000000 ≤ N ∧ N ≤ 4611686018427387904) (hb : n.size ≤ 1048576) (h : F15 N n 0 = some 0) : sortedR n = true := by
 obtain ⟨k,hk,_,_⟩ := levels39 N n (by omega) (by omega)
 have h27 := size27 N n (by omega) (by omega)
 have h72 := sorted72 N n (by omega)
 have h0 : decide ((0 : Int) < 0) = false := rfl
 have h5 : decide ((0 : Int) > 5) = false := rfl
 simp only [F15,h0,h5,iteO_false,hk,h27,h72,bindO_some] at h
 cases hs : sortedR n with
 | true => rfl
 | false =>
   rw [hs] at h
   cases hx : decide ((n.size : Int) > 4000) with
   | true => rw [hx] at h; simp only [iteO_true] at h; injection h with h; omega
   | false =>
     cases hy : decide (k > 100) with
     | true => rw [hx,hy] at h; simp only [iteO_true,iteO_false] at h; injection h with h; omega
     | false => rw [hx,hy] at h; simp only [iteO_true,iteO_false] at h; injection h with h; omega
end Go.Abs.Try
namespace Go.Abs.Try
set_option maxRecDepth 100000
theorem sorted_kid {n k : Node} (h : sortedR n = true) (hk : k ∈ n.kids) : sortedR k = true := by
 rw [sortedR_eq,Bool.and_eq_true] at h
 exact List.all_eq_true.1 h.2 k hk
theorem own_num (n : Node) (h : ownA n = true) (ho : n.op = 2 ∨ n.op = 7) : -1000000000000 ≤ n.num ∧ n.num ≤ 1000000000000 := by
 have h1 := own118A 30 n (Nat.le_refl _)
 rw [h] at h1
 have e1 : (n.op == 1) = false := beq_eq_false_iff_ne.2 (by omega)
 have e3 : (n.op == 3) = false := beq_eq_false_iff_ne.2 (by omega)
 simp only [F118,e1,e3,iteO_false] at h1
 have key : ∀ z : Option Bool,iteO (n.op == 2) (iteO (decide (n.num ≥ (-1000000000000))) (some (decide (n.num ≤ 1000000000000))) (some false)) (iteO (n.op == 7) (iteO (decide (n.num ≥ (-1000000000000))) (some (decide (n.num ≤ 1000000000000))) (some false)) z) = some true → -1000000000000 ≤ n.num ∧ n.num ≤ 1000000000000 := by
   intro z hz
   have fin : iteO (decide (n.num ≥ (-1000000000000))) (some (decide (n.num ≤ 1000000000000))) (some false) = some true → -1000000000000 ≤ n.num ∧ n.num ≤ 1000000000000 := by
     intro hz
     by_cases hg : n.num ≥ -1000000000000
     · rw [decide_eq_true hg,iteO_true] at hz
       injection hz with hz
       have := of_decide_eq_true hz
       omega
     · rw [decide_eq_false hg] at hz; cases hz
   by_cases h2 : n.op = 2
   · rw [beq_iff_eq.2 h2,iteO_true] at hz; exact fin hz
   · rw [beq_eq_false_iff_ne.2 h2,iteO_false,beq_iff_eq.2 (by omega : n.op = 7),iteO_true] at hz; exact fin hz
 cases hx : n.name.toList == (⟨#[]⟩ : ByteArray).toList with
 | false => rw [hx] at h1; cases h1
 | true =>
   rw [hx,iteO_true] at h1
   cases hy : n.sortf == 0 with
   | false => rw [hy] at h1; cases h1
   | true => rw [hy,iteO_true] at h1; exact key _ h1
theorem shape_len (op : Int) (ss : List Int) (h : shapeB op ss = true) : arity op ≤ ss.length := by
 have two : ∀ w,F153 op = some (w,true) → w.length = arity op → arity op ≤ ss.length := by
   intro w hw hl
   simp only [shapeB,hw,Option.getD_some,cond_true,beq_iff_eq] at h
   rw [h,hl]; exact Nat.le_refl _
 by_cases h8 : op = 8
 · subst h8
   rcases three ss with ⟨a,b,c,rfl⟩ | ⟨_,h3⟩
   · exact Nat.le_refl 3
   · have : shapeB 8 ss = m3 (fun a b c => (a == 2) && ((b == c) && okB b)) false ss := rfl
     rw [this,h3] at h; cases h
 by_cases h37 : op = 37
 · subst h37
   rcases Try.two ss with ⟨a,b,rfl⟩ | ⟨_,h3⟩
   · exact Nat.le_refl 2
   · have : shapeB 37 ss = m2 (fun a b => (a == b) && okB a) false ss := rfl
     rw [this,h3] at h; cases h
 by_cases h4 : op = 4; · subst h4; exact two [1,1] rfl rfl
 by_cases h5 : op = 5; · subst h5; exact two [1,1] rfl rfl
 by_cases h6 : op = 6; · subst h6; exact two [1] rfl rfl
 by_cases h7 : op = 7; · subst h7; exact two [1] rfl rfl
 by_cases h10 : op = 10; · subst h10; exact two [1] rfl rfl
 by_cases h11 : op = 11; · subst h11; exact two [4,4] rfl rfl
 by_cases h12 : op = 12; · subst h12; exact two [4,4] rfl rfl
 by_cases h13 : op = 13; · subst h13; exact two [4,4] rfl rfl
 by_cases h14 : op = 14; · subst h14; exact two [5,1] rfl rfl
 by_cases h15 : op = 15; · subst h15; exact two [5,1,1] rfl rfl
 by_cases h16 : op = 16; · subst h16; exact two [5] rfl rfl
 by_cases h32 : op = 32; · subst h32; exact two [2] rfl rfl
 by_cases h33 : op = 33; · subst h33; exact two [2,2] rfl rfl
 by_cases h34 : op = 34; · subst h34; exact two [2,2] rfl rfl
 by_cases h35 : op = 35; · subst h35; exact two [2,2] rfl rfl
 by_cases h36 : op = 36; · subst h36; exact two [2,2] rfl rfl
 by_cases h38 : op = 38; · subst h38; exact two [1,1] rfl rfl
 by_cases h39 : op = 39; · subst h39; exact two [1,1] rfl rfl
 by_cases h40 : op = 40; · subst h40; exact two [1,4] rfl rfl
 by_cases h41 : op = 41; · subst h41; exact two [4,4] rfl rfl
 have : arity op = 0 := by
   simp only [arity,beq_eq_false_iff_ne.2 h4,beq_eq_false_iff_ne.2 h5,beq_eq_false_iff_ne.2 h6,beq_eq_false_iff_ne.2 h7,beq_eq_false_iff_ne.2 h8,beq_eq_false_iff_ne.2 h10,beq_eq_false_iff_ne.2 h11,beq_eq_false_iff_ne.2 h12,beq_eq_false_iff_ne.2 h13,beq_eq_false_iff_ne.2 h14,beq_eq_false_iff_ne.2 h15,beq_eq_false_iff_ne.2 h16,
     beq_eq_false_iff_ne.2 h32,beq_eq_false_iff_ne.2 h33,beq_eq_false_iff_ne.2 h34,beq_eq_false_iff_ne.2 h35,beq_eq_false_iff_ne.2 h36,beq_eq_false_iff_ne.2 h37,beq_eq_false_iff_ne.2 h38,beq_eq_false_iff_ne.2 h39,beq_eq_false_iff_ne.2 h40,beq_eq_false_iff_ne.2 h41,Bool.or_self,cond_false]
 omega
theorem fine_own {n : Node} (h : sortedR n = true) : Fine n := by
 rw [sortedR_eq,Bool.and_eq_true,nodeB,Bool.and_eq_true] at h
 exact ⟨fun _ => by have := shape_len _ _ h.1.2; simpa using this,own_num n h.1.1⟩
mutual
theorem fine_all : ∀ n : Node,sortedR n = true → ∀ x ∈ nodes n,Fine x
  | ⟨o,s,nm,k,ks⟩,h,x,hx => by
    rw [nodes] at hx
    rcases List.mem_cons.1 hx with rfl | hx
    · exact fine_own h
    · exact fine_allL ks (fun k hk => sorted_kid h hk) x hx
theorem fine_allL : ∀ ks : List Node,(∀ k ∈ ks,sortedR k = true) → ∀ x ∈ nodesL ks,Fine x
  | [],_,x,hx => by cases hx
  | k :: ks,h,x,hx => by
    rw [nodesL] at hx
    rcases List.mem_append.1 hx with hx | hx
    · exact fine_all k (h k (by simp)) x hx
    · exact fine_allL ks (fun y hy => h y (by simp [hy])) x hx
end
theorem foldN_either {α β : Type} {step : Unit → Nat → α → Option (Sum Unit β)} {fin : Unit → Option β} (r : β) (full : List α) (hs : ∀ i x,full[i]? = some x → step () i x = some (.inl ()) ∨ step () i x = some (.inr r)) :
   ∀ (l : List α) (N i : Nat),full.drop i = l → l.length < N → (foldN step fin N l i () = fin () ∧ ∀ j x,i ≤ j → full[j]? = some x → step () j x = some (.inl ())) ∨ foldN step fin N l i () = some r
 | [],N,i,hd,hN => by
   obtain ⟨K,rfl⟩ : ∃ K,N = K + 1 := ⟨N - 1,by simp at hN; omega⟩
   refine .inl ⟨rfl,fun j x hj hx => ?_⟩
   have := (List.getElem?_eq_some_iff.1 hx).1
   have h2 := List.drop_eq_nil_iff.1 hd
   omega
 | x :: l,N,i,hd,hN => by
   obtain ⟨K,rfl⟩ : ∃ K,N = K + 1 := ⟨N - 1,by simp at hN; omega⟩
   obtain ⟨hx,hxs⟩ := drop_cons hd
   have ih := foldN_either (fin := fin) r full hs l K (i + 1) hxs (by simp at hN; omega)
   rcases hs i x hx with h | h
   · simp only [foldN,h,bindO_some]
     rcases ih with ⟨h1,h2⟩ | h1
     · refine .inl ⟨h1,fun j y hj hy => ?_⟩
       by_cases e : j = i
       · subst e; rw [hx] at hy; injection hy with hy; subst hy; exact h
       · exact h2 j y (by omega) hy
     · exact .inr h1
   · simp only [foldN,h,bindO_some]
     exact .inr trivial
theorem asc182 (N : Nat) (l : List Int) (h : l.length < N) (hl : l.length ≤ 1048576) : ∃ b,F182 N l = some b ∧ (b = true → l.length ≤ 200) := by
 have key := foldN_either (step := F182_s1 l) (fin := F182_f1 l) false l (fun i x hx => by
   have hi := (List.getElem?_eq_some_iff.1 hx).1
   simp only [F182_s1,fits181,bindO_some]
   cases fitsG x with
   | false => exact .inr rfl
   | true =>
     by_cases h0 : (i : Int) > 0
     · have hi1 : i - 1 < l.length := by omega
       have ha : atO l (IntKind.i64.wrap ((i : Int) - 1)) = some l[i - 1] := by
         rw [wrap_id (by omega)]
         exact atO_lit (i := i - 1) (by omega) (List.getElem?_eq_getElem hi1)
       rw [decide_eq_true h0]
       simp only [iteO_true,ha,bindO_some]
       cases decide (l[i - 1] ≥ x) with
       | true => exact .inr rfl
       | false => exact .inl rfl
     · rw [decide_eq_false h0]; exact .inl rfl) l N 0 rfl h
 rcases key with ⟨h1,_⟩ | h1
 · exact ⟨_,h1,fun e => by have := of_decide_eq_true e; omega⟩
 · exact ⟨_,h1,fun e => by cases e⟩
theorem val171 (N : Nat) (hN : 1048600 < N) (v : Val) (hv : VSmall v) : ∃ b,F171 N v = some b ∧ (b = true → VOk v) := by
 simp only [F171,fits181,bindO_some]
 obtain ⟨b1,s1,t1⟩ := asc182 N v.valSet (by have := hv.1; omega) hv.1
 obtain ⟨b2,s2,t2⟩ := asc182 N v.valAt (by have := hv.2.1; omega) hv.2.1
 cases decide (v.valSort < 1) with
 | true => exact ⟨_,rfl,fun e => by cases e⟩
 | false =>
   cases decide (v.valSort > 5) with
   | true => exact ⟨_,rfl,fun e => by cases e⟩
   | false =>
     simp only [iteO_false]
     cases hf : fitsG v.valNum with
     | false => exact ⟨_,rfl,fun e => by cases e⟩
     | true =>
       simp only [iteO_true,s1,s2,bindO_some]
       cases b1 with
       | false => exact ⟨_,rfl,fun e => by cases e⟩
       | true =>
         cases b2 with
         | false => exact ⟨_,rfl,fun e => by cases e⟩
         | true =>
           simp only [iteO_true]
           by_cases hl : (v.valTo.length : Int) = (v.valAt.length : Int)
           · rw [beq_iff_eq.2 hl,iteO_true]
             have hok : VOk v := ⟨fitsG_iff.1 hf,t1 rfl,t2 rfl,by omega⟩
             have key := foldN_either (step := F171_s1) (fin := F171_f1 v) false v.valTo (fun i x _ => by
               simp only [F171_s1,fits181,bindO_some]
               cases x == 0 with
               | true => exact .inr rfl
               | false =>
                 cases fitsG x with
                 | true => exact .inl rfl
                 | false => exact .inr rfl) v.valTo N 0 rfl (by have := hv.2.2; omega)
             have hfin : ∃ b,F171_f1 v () = some b := by
               simp only [F171_f1]
               cases v.valSort == 2 <;> cases v.valNum == 0 <;> cases v.valNum == 1 <;> cases (v.valSet.length : Int) == 0 <;> cases v.valSort == 5 <;> cases decide (v.valNum ≥ 0) <;> cases v.valSort == 4 <;> exact ⟨_,rfl⟩
             rcases key with ⟨h1,_⟩ | h1
             · obtain ⟨b,hb⟩ := hfin
               exact ⟨b,h1.trans hb,fun _ => hok⟩
             · exact ⟨_,h1,fun e => by cases e⟩
           · rw [beq_eq_false_iff_ne.2 hl]; exact ⟨_,rfl,fun e => by cases e⟩
structure MSmall (m : List Entry) : Prop where
 len : m.length ≤ 1048576
 args : ∀ e ∈ m,e.entryArgs.length ≤ 1048576 ∧ (∀ a ∈ e.entryArgs,VSmall a) ∧ VSmall e.entryVal
theorem entry157 (N : Nat) (hN : 1048600 < N) (e : Entry) (h1 : e.entryArgs.length ≤ 1048576) (h2 : ∀ a ∈ e.entryArgs,VSmall a) (h3 : VSmall e.entryVal) : ∃ b,F157 N e = some b ∧ (b = true → (∀ a ∈ e.entryArgs,VOk a) ∧ VOk e.entryVal) := by
 obtain ⟨b,_,hb⟩ := name_same N e.entryName (by omega)
 obtain ⟨b2,s2,t2⟩ := val171 N hN e.entryVal h3
 simp only [F157,hb,bindO_some]
 cases b with
 | false => exact ⟨_,rfl,fun e => by cases e⟩
 | true =>
   simp only [iteO_true]
   cases decide ((e.entryArgs.length : Int) > 8) with
   | true => exact ⟨_,rfl,fun e => by cases e⟩
   | false =>
     simp only [iteO_false,s2,bindO_some]
     cases b2 with
     | false => exact ⟨_,rfl,fun e => by cases e⟩
     | true =>
       simp only [iteO_true]
       have key := foldN_either (step := F157_s1 N) (fin := F157_f1) false e.entryArgs (fun i x hx => by
         obtain ⟨b,s,_⟩ := val171 N hN x (h2 x (List.mem_of_getElem? hx))
         simp only [F157_s1,s,bindO_some]
         cases b with
         | true => exact .inl rfl
         | false => exact .inr rfl) e.entryArgs N 0 rfl (by omega)
       rcases key with ⟨k1,k2⟩ | k1
       · refine ⟨_,k1,fun _ => ⟨fun a ha => ?_,t2 rfl⟩⟩
         obtain ⟨i,hi,ei⟩ := List.getElem_of_mem ha
         have hx : e.entryArgs[i]? = some a := by rw [List.getElem?_eq_getElem hi,ei]
         have := k2 i a (Nat.zero_le _) hx
         obtain ⟨b,s,t⟩ := val171 N hN a (h2 a ha)
         simp only [F157_s1,s,bindO_some] at this
         cases b with
         | true => exact t rfl
         | false => cases this
       · exact ⟨_,k1,fun e => by cases e⟩
theorem place158 (N : Nat) (hN : 1048600 < N) (a b : Entry) (h1 : a.entryArgs.length ≤ 1048576) (h2 : ∀ x ∈ a.entryArgs,VSmall x) : ∃ r,F158 N a b = some r := by
 simp only [F158,sameArgs172 N (by omega) a.entryArgs b.entryArgs (by omega) h2,bindO_some]
 cases a.entryName.toList == b.entryName.toList <;> cases a.entryVal.valSort == b.entryVal.valSort <;> exact ⟨_,rfl⟩
theorem inner126 (N : Nat) (hN : 1048600 < N) (m : List Entry) (hm : MSmall m) (i : Nat) (hi : i ≤ m.length) (x : Entry) : ∀ (k M j : Nat),j + k = i → k < M → whileN (F126_s2 N i m x) M (j : Int) = some (.inl ()) ∨ whileN (F126_s2 N i m x) M (j : Int) = some (.inr false)
 | 0,M,j,hj,hM => by
   obtain ⟨K,rfl⟩ : ∃ K,M = K + 1 := ⟨M - 1,by omega⟩
   have : decide ((j : Int) < (i : Int)) = false := decide_eq_false (by omega)
   left
   simp only [whileN,F126_s2,this,iteO_false,bindO_some]
 | k + 1,M,j,hj,hM => by
   obtain ⟨K,rfl⟩ : ∃ K,M = K + 1 := ⟨M - 1,by omega⟩
   have hl := hm.len
   have : decide ((j : Int) < (i : Int)) = true := decide_eq_true (by omega)
   have hjl : j < m.length := by omega
   have e : m[j]? = some m[j] := List.getElem?_eq_getElem hjl
   obtain ⟨a1,a2,_⟩ := hm.args _ (List.getElem_mem hjl)
   obtain ⟨r,hr⟩ := place158 N hN m[j] x a1 a2
   have w : IntKind.i64.wrap ((j : Int) + 1) = ((j + 1 : Nat) : Int) := by rw [wrap_id (by omega)]; rfl
   have ih := inner126 N hN m hm i hi x k K (j + 1) (by omega) (by omega)
   simp only [whileN,F126_s2,this,iteO_true,atO_get e,bindO_some,hr,w]
   cases r with
   | true => right; rfl
   | false => exact ih
theorem valid126 (N : Nat) (hN : 2097200 < N) (m : List Entry) (hm : MSmall m) : ∃ b,F126 N m = some b ∧ (b = true → MOk m) := by
 simp only [F126]
 cases decide ((m.length : Int) > 2000) with
 | true => exact ⟨_,rfl,fun e => by cases e⟩
 | false =>
   simp only [iteO_false]
   have hl := hm.len
   have step : ∀ i x,m[i]? = some x → (F126_s1 N m () i x = some (.inl ()) ∨ F126_s1 N m () i x = some (.inr false)) ∧ (F126_s1 N m () i x = some (.inl ()) → (∀ a ∈ x.entryArgs,VOk a) ∧ VOk x.entryVal) := by
     intro i x hx
     obtain ⟨a1,a2,a3⟩ := hm.args x (List.mem_of_getElem? hx)
     obtain ⟨b,s,t⟩ := entry157 N (by omega) x a1 a2 a3
     have hi := (List.getElem?_eq_some_iff.1 hx).1
     simp only [F126_s1,s,bindO_some]
     cases b with
     | false => exact ⟨.inr rfl,fun h => by cases h⟩
     | true =>
       have h0 : ((0 : Nat) : Int) = 0 := rfl
       have := inner126 N (by omega) m hm i (by omega) x i N 0 (by omega) (by omega)
       simp only [iteO_true]
       exact ⟨this,fun _ => t rfl⟩
   rcases foldN_either (step := F126_s1 N m) (fin := F126_f1) false m (fun i x hx => (step i x hx).1) m N 0 rfl (by omega) with ⟨k1,k2⟩ | k1
   · refine ⟨_,k1,fun _ => ⟨hl,fun e he => ?_⟩⟩
     obtain ⟨i,hi,ei⟩ := List.getElem_of_mem he
     have hx : m[i]? = some e := by rw [List.getElem?_eq_getElem hi,ei]
     have := (step i e hx).2 (k2 i e (Nat.zero_le _) hx)
     exact ⟨(hm.args e he).1,this⟩
   · exact ⟨_,k1,fun e => by cases e⟩
theorem holes43 : ∀ (N : Nat) (n : Node),n.size < N → ∃ b,F43 N n = some b
 | 0,n,h => absurd h (Nat.not_lt_zero _)
 | N + 1,n,h => by
   show ∃ b,F43b (F43 N) N n = some b
   simp only [F43b]
   cases n.op == 42 with
   | true => exact ⟨_,rfl⟩
   | false =>
     simp only [iteO_false]
     have hlen := kids_len n
     rcases foldN_either (step := F43_s1 (F43 N)) (fin := F43_f1) true n.kids (fun i x hx => by
       have hk := List.mem_of_getElem? hx
       have := kids_size hk
       obtain ⟨b,hb⟩ := holes43 N x (by omega)
       simp only [F43_s1,hb,bindO_some]
       cases b with
       | true => exact .inr rfl
       | false => exact .inl rfl) n.kids N 0 rfl (by omega) with ⟨k1,_⟩ | k1
     · exact ⟨_,k1⟩
     · exact ⟨_,k1⟩
theorem value30 (N : Nat) (hN : 4611686018400000000 ≤ N ∧ N ≤ 4611686018427387904) (n : Node) (hb : n.size ≤ 1048576) (m : List Entry) (hm : MSmall m) : ∃ v h,F30 N n m = some (v,h) ∧ (h = 0 → sortedR n = true ∧ MOk m ∧ v = (evalR m n).1 ∧ (evalR m n).2 = true) := by
 obtain ⟨r,_,h15⟩ := check_same N n 0 hN hb
 obtain ⟨b,h43⟩ := holes43 N n (by omega)
 obtain ⟨c,h126,hc⟩ := valid126 N (by omega) m hm
 have h15' := h15
 simp only [F30,F87,h15,h43,h126,bindO_some]
 by_cases hr : r = 0
 · subst hr
   have hs := check_sorted N n hN hb h15'
   simp only [beq_self_eq_true,iteO_true]
   cases b with
   | true => exact ⟨_,_,rfl,fun h => by cases h⟩
   | false =>
     simp only [iteO_false]
     cases c with
     | false => exact ⟨_,_,rfl,fun h => by cases h⟩
     | true =>
       simp only [iteO_true,(eval127 m (hc rfl) N n (by omega) hb (fine_all n hs)).1,bindO_some]
       cases he : (evalR m n).2 with
       | true => exact ⟨_,_,rfl,fun _ => ⟨hs,hc rfl,rfl,rfl⟩⟩
       | false => exact ⟨_,_,rfl,fun h => by cases h⟩
 · rw [beq_eq_false_iff_ne.2 hr]
   exact ⟨_,_,rfl,fun h => absurd h hr⟩
end Go.Abs.Try
