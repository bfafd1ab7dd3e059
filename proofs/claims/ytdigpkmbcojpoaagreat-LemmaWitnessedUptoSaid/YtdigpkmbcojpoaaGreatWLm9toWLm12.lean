import Derived.Test.YtdigpkmbcojpoaaGreatWLm1toWLm8
import Derived.Test.YtdigpkmbcojpoaaGreatWP9toWVal30
set_option linter.unusedSimpArgs false
set_option linter.unusedVariables false
namespace Go.Abs.Try
set_option maxRecDepth 100000
section
open Classical
variable (N : Nat) (n : Node)
theorem K3_op (h : K3 n) : n.op = 35 := by obtain ⟨_,_,_,rfl,_⟩ := h; rfl
theorem K4i_op (h : K4i n) : n.op = 35 := by obtain ⟨_,_,_,rfl⟩ := h; rfl
theorem K5i_op (h : K5i n) : n.op = 35 := by obtain ⟨_,_,_,rfl,_⟩ := h; rfl
theorem K2_op (h : K2 n) : n.op = 32 ∨ n.op = 36 := by obtain ⟨e,s,_,h⟩ := h; exact (memN_some h).1
end
end Go.Abs.Try
namespace Go.Abs.Try
set_option maxRecDepth 100000
section
open Classical
variable (N : Nat) (n : Node)
theorem K7i_op (h : K7i n) : n.op = 35 := by obtain ⟨_,_,_,rfl,_⟩ := h; rfl
theorem K6_34 (h : K6 n) (ho : n.op = 34) : ∃ j a i x,n = sto1 j a i x := by
 rcases h with ⟨_,rfl⟩ | ⟨_,_,_,rfl⟩ | ⟨_,_,_,rfl,_⟩ | ⟨_,_,_,_,rfl⟩ | h
 · cases ho
 · cases ho
 · cases ho
 · cases ho
 · exact h
end
end Go.Abs.Try
namespace Go.Abs.Try
set_option maxRecDepth 100000
end Go.Abs.Try
namespace Go.Abs.Try
set_option maxRecDepth 100000
theorem mem_le_sum : ∀ (l : List Node) (x : Node),x ∈ l → x.size ≤ (l.map Node.size).sum
 | y :: l,x,h => by
   rw [List.map_cons,List.sum_cons]
   rcases List.mem_cons.1 h with rfl | h
   · omega
   · have := mem_le_sum l x h; omega
def conjL : List Node → Node
 | [] => nd 30 []
 | x :: xs => xs.foldl (fun a b => nd 33 [a,b]) x
theorem cutL_1 {α : Type} (x : α) (l : List α) : cutL (x :: l) 1 ((x :: l).length : Int) = l := by
 unfold cutL
 simp only [List.length_cons]
 rw [show (1 : Int).toNat = 1 from rfl,List.drop_one,List.tail_cons,show ((((l.length + 1 : Nat) : Int) - 1).toNat) = l.length from by omega,List.take_length]
theorem inS_1 {α : Type} (x : α) (l : List α) : inS 1 ((x :: l).length : Int) (x :: l).length = true := by
 unfold inS
 exact decide_eq_true (by simp only [List.length_cons]; omega)
theorem conj52_fold (N : Nat) : ∀ (xs : List Node) (a : Node) (M i : Nat),xs.length < M → (∀ x ∈ xs,x.size ≤ 1048576 ∧ x.size < N) →
   foldN (S := Int × Int × ByteArray × Int × (List Node)) (F52_s2 N) F52_f2 M xs i (a.op,a.sortf,a.name,a.num,a.kids) = some (xs.foldl (fun a b => nd 33 [a,b]) a)
 | _,_,0,_,h,_ => absurd h (Nat.not_lt_zero _)
 | [],a,_ + 1,_,_,_ => by cases a; rfl
 | x :: xs,a,M + 1,i,h,hx => by
   show bindO (F52_s2 N (a.op,a.sortf,a.name,a.num,a.kids) i x) _ = _
   unfold F52_s2
   rw [copied82 N x (hx x (by simp)).2 (hx x (by simp)).1]
   have := conj52_fold N xs (nd 33 [a,x]) M (i + 1) (by simp at h; omega) (fun y hy => hx y (by simp [hy]))
   cases a
   exact this
theorem conj52 (N : Nat) (l : List Node) (hl : l.length < N) (hx : ∀ x ∈ l,x.size ≤ 1048576 ∧ x.size < N) : F52 N l = some (conjL l) := by
 match l with
 | [] => rfl
 | x :: xs =>
   unfold F52
   rw [show (((x :: xs).length : Int) == 0) = false from by simp only [List.length_cons]; exact beq_eq_false_iff_ne.2 (by omega),iteO_false,show atO (x :: xs) 0 = some x from atO_lit (i := 0) rfl rfl,bindO_some,
     copied82 N x (hx x (by simp)).2 (hx x (by simp)).1,bindO_some,inS_1,iteO_true,cutL_1]
   exact conj52_fold N xs x N 0 (by simp at hl; omega) fun y hy => hx y (by simp [hy])
theorem conj_size : ∀ (xs : List Node) (a : Node),(xs.foldl (fun a b => nd 33 [a,b]) a).size = a.size + xs.length + (xs.map Node.size).sum
 | [],a => by simp
 | x :: xs,a => by
   rw [List.foldl_cons,conj_size xs]
   simp only [nd_size,List.map_cons,List.map_nil,List.sum_cons,List.sum_nil,List.length_cons]; omega
theorem conjL_size (l : List Node) : (conjL l).size ≤ 1 + l.length + (l.map Node.size).sum := by
 match l with
 | [] => simp [conjL,nd_size]
 | x :: xs =>
   unfold conjL
   rw [conj_size]
   simp only [List.length_cons,List.map_cons,List.sum_cons]; omega
theorem eq1270 (N : Nat) (a b : Node) (h : a.size < N) : F1270 N a b = some (eqR a b) := by
 unfold F1270 eqR
 rw [sort36n N a h,bindO_some]
 cases sortS a == 2 <;> rfl
section
open Classical
end
end Go.Abs.Try
namespace Go.Abs.Try
set_option maxRecDepth 100000
def hol (n : Node) : Bool := (nodes n).any fun x => x.op == 42
theorem hol42 (n : Node) (h : n.size < 4611686018427387904) : F42 n = some (hol n) := by
 unfold F42 hol
 rw [walk_ok n h,bindO_some,foldO_all (fun x : Node => !(x.op == 42)) true (nodes n) fun x _ => ?_]
 · show (bif (nodes n).all (fun x => !(x.op == 42)) then some false else some true) = _
   rw [← List.not_any_eq_all_not]
   cases (nodes n).any fun x => x.op == 42 <;> rfl
 · unfold F42_s1
   cases x.op == 42 <;> rfl
theorem hol43 : ∀ (N : Nat) (n : Node),n.size < N → F43 N n = some (hol n)
 | 0,n,h => absurd h (Nat.not_lt_zero _)
 | N + 1,n,h => by
   have hl := kids_len n
   have hk : ∀ x ∈ n.kids,F43 N x = some (hol x) := fun x hx => hol43 N x (by have := kids_size hx; omega)
   show F43b (F43 N) N n = _
   unfold F43b hol
   rw [nodes_eq,List.any_cons]
   have hL : foldN (F43_s1 (F43 N)) F43_f1 N n.kids 0 () = some (n.kids.any hol) := by
     rw [foldN_all (fun x => !(hol x)) true n.kids N 0 (by omega) fun x hx i => ?_]
     · show (bif n.kids.all (fun x => !hol x) then some false else some true) = _
       rw [← List.not_any_eq_all_not]
       cases n.kids.any hol <;> rfl
     · simp only [F43_s1,hk x hx,bindO_some]
       cases hol x <;> rfl
   have hN : (nodesL n.kids).any (fun x => x.op == 42) = n.kids.any hol := by
     have : ∀ ks : List Node,(nodesL ks).any (fun x => x.op == 42) = ks.any hol := by
       intro ks
       induction ks with
       | nil => rfl
       | cons a ks ih => simp only [nodesL,List.any_append,List.any_cons,ih,hol]
     exact this _
   rw [hL,hN]
   cases n.op == 42 <;> rfl
theorem check_sorted2 (N : Nat) (n : Node) (hN : 4611686018400000000 ≤ N ∧ N ≤ 4611686018427387904) (hb : n.size ≤ 1048576) (h : F15 N n 2 = some 0) : sortedR n = true := by
 obtain ⟨k,hk,_,_⟩ := levels39 N n (by omega) (by omega)
 have h27 := size27 N n (by omega) (by omega)
 have h72 := sorted72 N n (by omega)
 have h0 : decide ((2 : Int) < 0) = false := rfl
 have h5 : decide ((2 : Int) > 5) = false := rfl
 simp only [F15,h0,h5,iteO_false,hk,h27,h72,bindO_some] at h
 cases hs : sortedR n with
 | true => rfl
 | false =>
   rw [hs] at h
   cases hx : decide ((n.size : Int) > 4000) with
   | true => rw [hx] at h; simp only [iteO_true] at h; injection h with h; omega
   | false =>
     cases hy : decide (k > 100) with
     | true => rw [hx,hy] at h; simp only [iteO_true,iteO_false] at h; injection h with h; omega
     | false => rw [hx,hy] at h; simp only [iteO_true,iteO_false] at h; injection h with h; omega
section
open Classical
noncomputable def codeK (n : Node) : Int := if K2 n then 2 else if K3 n then 3 else if K4i n ∨ K4o n then 4 else if K5i n ∨ K5o n then 5 else if K6 n then 6 else if K7i n ∨ K7o n then 7 else if K8 n then 8 else 0
variable (n : Node)
theorem x45 (h : K4o n) : ¬ K5o n := by
 rintro ⟨a,b,w,e,_⟩
 obtain ⟨a',b',w',rfl,_⟩ := h
 simp only [part4,part5,nd_inj,lst2] at e
 exact absurd e.2.1.1 (by decide)
theorem x47 (h : K4o n) : ¬ K7o n := by
 rintro ⟨a,b,w,e,_⟩
 obtain ⟨a',b',w',rfl,_⟩ := h
 simp only [part4,diffN,nd_inj,lst2] at e
 exact absurd e.2.1.1 (by decide)
theorem x67 (hs : sortedR n = true) (h : K6 n) : ¬ K7o n := by
 rintro ⟨a,b,w,e,h5,_⟩
 obtain ⟨j,a',i,x,h⟩ := K6_34 n h (by rw [e]; rfl)
 have hq : sortedR (nd 37 [nd 14 [nd 15 [a',i,x],j],nd 14 [a',j]]) = true := kd (by rw [h] at hs; exact hs) (by simp)
 have hi := (sto_sorts (kd (kd hq (x := nd 14 [nd 15 [a',i,x],j]) (by simp)) (x := nd 15 [a',i,x]) (by simp))).2.1
 rw [h] at e
 simp only [sto1,diffN,nd_inj (k := 34) (k' := 34),nd_inj (k := 37) (k' := 37),lst2] at e
 rw [e.2.1.2.1,h5] at hi
 exact absurd hi (by decide)
variable (N : Nat)
theorem chain (hs : sortedR n = true) (hN : n.size ≤ 1048576) (hB : 100000000 ≤ N) :
   (bindO (F1229 N n) fun r3 =>
       iteO r3
       (some 2)
       (bindO (F1230 N n) fun r4 =>
         iteO r4
         (some 3)
         (bindO (F1231 N n) fun r5 =>
           iteO r5
           (some 4)
           (bindO (F1232 N n) fun r6 =>
             iteO r6
             (some 5)
             (bindO (F1233 N n) fun r7 =>
               iteO r7
               (some 6)
               (bindO (F1234 N n) fun r8 =>
                 iteO r8
                 (some 7)
                 (bindO (F1235 N n) fun r9 =>
                   iteO r9
                   (some 8)
                   (some (0 : Int))))))))) = some (codeK n) := by
 have e4 : F1231 N n = some (decide (K4i n ∨ K4o n)) := by unfold F1231; rw [rel4 N n hs hN hB]; rfl
 have e5 : F1232 N n = some (decide (K5i n ∨ K5o n)) := by unfold F1232; rw [rel5 N n hs hN hB]; rfl
 rw [p1229 N n hs hN hB,p1230 N n hs hN hB,e4,e5,p1233 N n hs hN hB,p1234 N n hs hN hB,p1235 N n hs hN hB]
 simp only [bindO_some]
 unfold codeK
 by_cases h2 : K2 n
 · rw [decide_eq_true h2,if_pos h2]; rfl
 rw [decide_eq_false h2,if_neg h2,iteO_false]
 by_cases h3 : K3 n
 · rw [decide_eq_true h3,if_pos h3]; rfl
 rw [decide_eq_false h3,if_neg h3,iteO_false]
 by_cases h4 : K4i n ∨ K4o n
 · rw [decide_eq_true h4,if_pos h4]; rfl
 rw [decide_eq_false h4,if_neg h4,iteO_false]
 by_cases h5 : K5i n ∨ K5o n
 · rw [decide_eq_true h5,if_pos h5]; rfl
 rw [decide_eq_false h5,if_neg h5,iteO_false]
 by_cases h6 : K6 n
 · rw [decide_eq_true h6,if_pos h6]; rfl
 rw [decide_eq_false h6,if_neg h6,iteO_false]
 by_cases h7 : K7i n ∨ K7o n
 · rw [decide_eq_true h7,if_pos h7]; rfl
 rw [decide_eq_false h7,if_neg h7,iteO_false]
 by_cases h8 : K8 n
 · rw [decide_eq_true h8,if_pos h8]; rfl
 rw [decide_eq_false h8,if_neg h8,iteO_false]
end
end Go.Abs.Try
