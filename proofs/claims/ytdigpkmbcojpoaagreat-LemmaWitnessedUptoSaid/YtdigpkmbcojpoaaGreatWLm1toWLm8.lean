import Derived.Test.YtdigpkmbcojpoaaGreatWMod1toWP8
import Derived.Test.YtdigpkmbcojpoaaGreatWP9toWVal30
set_option linter.unusedSimpArgs false
set_option linter.unusedVariables false
namespace Go.Abs.Try
set_option maxRecDepth 100000
def nd (op : Int) (ks : List Node) : Node := ⟨op,0,⟨#[]⟩,0,ks⟩
def plainOp (op : Int) : Prop := op ≠ 1 ∧ op ≠ 3 ∧ op ≠ 2 ∧ op ≠ 7 ∧ op ≠ 42
theorem own_plain {n : Node} (h : ownA n = true) (hp : plainOp n.op) : n = nd n.op n.kids := by
 have h1 := own118A 30 n (Nat.le_refl _)
 rw [h] at h1
 obtain ⟨p1,p3,p2,p7,p42⟩ := hp
 have e1 : (n.op == 1) = false := beq_eq_false_iff_ne.2 p1
 have e3 : (n.op == 3) = false := beq_eq_false_iff_ne.2 p3
 have e2 : (n.op == 2) = false := beq_eq_false_iff_ne.2 p2
 have e7 : (n.op == 7) = false := beq_eq_false_iff_ne.2 p7
 have e42 : (n.op == 42) = false := beq_eq_false_iff_ne.2 p42
 obtain ⟨o,s,nm,nu,ks⟩ := n
 simp only [F118,e1,e3,e2,e7,e42,iteO_false] at h1
 have hnm : nm.toList = (⟨#[]⟩ : ByteArray).toList := by
   cases hc : nm.toList == (⟨#[]⟩ : ByteArray).toList with
   | true => exact beq_iff_eq.1 hc
   | false => rw [hc] at h1; cases h1
 have hs : s = 0 := by
   rw [hnm,beq_self_eq_true] at h1
   cases hc : s == 0 with
   | true => exact beq_iff_eq.1 hc
   | false => simp only [hc,iteO_true,iteO_false] at h1; cases h1
 have hu : nu = 0 := by
   rw [hnm,beq_self_eq_true,hs] at h1
   cases hc : nu == 0 with
   | true => exact beq_iff_eq.1 hc
   | false => rw [hc] at h1; cases h1
 have := ba_inj hnm
 subst this; subst hs; subst hu
 rfl
theorem sortedR_kids {n : Node} (h : sortedR n = true) : ownA n = true ∧ shapeB n.op (n.kids.map sortS) = true ∧ ∀ k ∈ n.kids,sortedR k = true := by
 rw [sortedR_eq] at h
 simp only [nodeB,Bool.and_eq_true,List.all_eq_true] at h
 exact ⟨h.1.1,h.1.2,h.2⟩
theorem form_list {n : Node} {l : List Int} (h : sortedR n = true) (hp : plainOp n.op) (hf : F153 n.op = some (l,true)) : n = nd n.op n.kids ∧ n.kids.map sortS = l ∧ ∀ k ∈ n.kids,sortedR k = true := by
 obtain ⟨h1,h2,h3⟩ := sortedR_kids h
 refine ⟨own_plain h1 hp, ?_,h3⟩
 simp only [shapeB,hf,Option.getD_some,cond_true,beq_iff_eq] at h2
 exact h2
theorem map2 {α β : Type} {f : α → β} {l : List α} {x y : β} (h : l.map f = [x,y]) : ∃ a b,l = [a,b] ∧ f a = x ∧ f b = y := by
 match l,h with
 | [a,b],h => simp at h; exact ⟨a,b,rfl,h.1,h.2⟩
theorem map1 {α β : Type} {f : α → β} {l : List α} {x : β} (h : l.map f = [x]) : ∃ a,l = [a] ∧ f a = x := by
 match l,h with
 | [a],h => simp at h; exact ⟨a,rfl,h⟩
theorem map3 {α β : Type} {f : α → β} {l : List α} {x y z : β} (h : l.map f = [x,y,z]) : ∃ a b c,l = [a,b,c] ∧ f a = x ∧ f b = y ∧ f c = z := by
 match l,h with
 | [a,b,c],h => simp at h; exact ⟨a,b,c,rfl,h.1,h.2.1,h.2.2⟩
theorem form2 {n : Node} {k x y : Int} (h : sortedR n = true) (ho : n.op = k) (hp : plainOp k) (hf : F153 k = some ([x,y],true)) : ∃ a b,n = nd k [a,b] ∧ sortS a = x ∧ sortS b = y ∧ sortedR a = true ∧ sortedR b = true := by
 obtain ⟨h1,h2,h3⟩ := form_list h (by rw [ho]; exact hp) (by rw [ho]; exact hf)
 obtain ⟨a,b,hk,ha,hb⟩ := map2 h2
 rw [ho,hk] at h1
 rw [hk] at h3
 exact ⟨a,b,h1,ha,hb,h3 a (by simp),h3 b (by simp)⟩
theorem form1 {n : Node} {k x : Int} (h : sortedR n = true) (ho : n.op = k) (hp : plainOp k) (hf : F153 k = some ([x],true)) : ∃ a,n = nd k [a] ∧ sortS a = x ∧ sortedR a = true := by
 obtain ⟨h1,h2,h3⟩ := form_list h (by rw [ho]; exact hp) (by rw [ho]; exact hf)
 obtain ⟨a,hk,ha⟩ := map1 h2
 rw [ho,hk] at h1
 rw [hk] at h3
 exact ⟨a,h1,ha,h3 a (by simp)⟩
theorem form3 {n : Node} {k x y z : Int} (h : sortedR n = true) (ho : n.op = k) (hp : plainOp k) (hf : F153 k = some ([x,y,z],true)) : ∃ a b c,n = nd k [a,b,c] ∧ sortS a = x ∧ sortS b = y ∧ sortS c = z ∧ sortedR a = true ∧ sortedR b = true ∧ sortedR c = true := by
 obtain ⟨h1,h2,h3⟩ := form_list h (by rw [ho]; exact hp) (by rw [ho]; exact hf)
 obtain ⟨a,b,c,hk,ha,hb,hc⟩ := map3 h2
 rw [ho,hk] at h1
 rw [hk] at h3
 exact ⟨a,b,c,h1,ha,hb,hc,h3 a (by simp),h3 b (by simp),h3 c (by simp)⟩
theorem form0 {n : Node} {k : Int} (h : sortedR n = true) (ho : n.op = k) (hp : plainOp k) (hf : F153 k = some ([],true)) : n = nd k [] := by
 obtain ⟨h1,h2,h3⟩ := form_list h (by rw [ho]; exact hp) (by rw [ho]; exact hf)
 rw [ho,List.map_eq_nil_iff.1 h2] at h1
 exact h1
def eqSort (s : Int) : Prop := s = 1 ∨ 3 ≤ s
theorem okB_eq {x : Int} (h : okB x = true) : eqSort x := by
 unfold okB at h
 cases hx : x == 1 with
 | true => exact .inl (beq_iff_eq.1 hx)
 | false => rw [hx] at h; exact .inr (of_decide_eq_true h)
theorem formEq {n : Node} (h : sortedR n = true) (ho : n.op = 37) : ∃ a b,n = nd 37 [a,b] ∧ sortS a = sortS b ∧ eqSort (sortS a) ∧ sortedR a = true ∧ sortedR b = true := by
 obtain ⟨h1,h2,h3⟩ := sortedR_kids h
 have h1 := own_plain h1 (by rw [ho]; refine ⟨?_, ?_, ?_, ?_, ?_⟩ <;> decide)
 have e153 : F153 37 = some ([],false) := rfl
 rw [ho] at h2 h1
 simp only [shapeB,e153,Option.getD_some,cond_false] at h2
 match hk : n.kids,h2,h3 with
 | [a,b],h2,h3 =>
   rw [hk] at h1
   have h2 : ((sortS a == sortS b) && okB (sortS a)) = true := h2
   simp only [Bool.and_eq_true,beq_iff_eq] at h2
   exact ⟨a,b,h1,h2.1,okB_eq h2.2,h3 a (by simp),h3 b (by simp)⟩
 | [],h2,_ => cases h2
 | [_],h2,_ => cases h2
 | _ :: _ :: _ :: _,h2,_ => cases h2
theorem formIte {n : Node} (h : sortedR n = true) (ho : n.op = 8) : ∃ c a b,n = nd 8 [c,a,b] ∧ sortS c = 2 ∧ sortS a = sortS b ∧ eqSort (sortS a) ∧ sortedR c = true ∧ sortedR a = true ∧ sortedR b = true := by
 obtain ⟨h1,h2,h3⟩ := sortedR_kids h
 have h1 := own_plain h1 (by rw [ho]; refine ⟨?_, ?_, ?_, ?_, ?_⟩ <;> decide)
 have e153 : F153 8 = some ([],false) := rfl
 rw [ho] at h2 h1
 simp only [shapeB,e153,Option.getD_some,cond_false] at h2
 match hk : n.kids,h2,h3 with
 | [c,a,b],h2,h3 =>
   rw [hk] at h1
   have h2 : ((sortS c == 2) && ((sortS a == sortS b) && okB (sortS a))) = true := h2
   simp only [Bool.and_eq_true,beq_iff_eq] at h2
   exact ⟨c,a,b,h1,h2.1,h2.2.1,okB_eq (h2.2.1 ▸ h2.2.2),h3 c (by simp),h3 a (by simp),h3 b (by simp)⟩
 | [],h2,_ => cases h2
 | [_],h2,_ => cases h2
 | [_,_],h2,_ => cases h2
 | _ :: _ :: _ :: _ :: _,h2,_ => cases h2
end Go.Abs.Try
namespace Go.Abs.Try
set_option maxRecDepth 100000
theorem cmb_zero {u v : Int} (h : cmb u v = 0) : u = 0 ∧ v = 0 := by
 unfold cmb at h
 split at h
 · exact ⟨by assumption,h⟩
 · exact absurd h (by assumption)
mutual
theorem cmpR_zero : ∀ a b : Node,cmpR a b = 0 → a = b
  | ⟨o,s,nm,k,ks⟩,⟨o',s',nm',k',ks'⟩,h => by
    rw [cmpR_eq] at h
    obtain ⟨h1,h⟩ := cmb_zero h
    obtain ⟨h2,h⟩ := cmb_zero h
    obtain ⟨h3,h⟩ := cmb_zero h
    obtain ⟨h4,h⟩ := cmb_zero h
    obtain ⟨h5,h⟩ := cmb_zero h
    have e1 := sg_zero h1; have e2 := sg_zero h2; have e3 := ba_inj (cB_zero h3); have e4 := sg_zero h4; have e5 := sg_zero h5
    simp only at e1 e2 e3 e4 e5 h
    have e6 := cmpL_zero ks ks' (by omega) h
    subst e1; subst e2; subst e3; subst e4; subst e6; rfl
theorem cmpL_zero : ∀ a b : List Node,a.length = b.length → cmpL a b = 0 → a = b
  | [],[],_,_ => rfl
  | [],_ :: _,h,_ => by simp at h
  | _ :: _,[],h,_ => by simp at h
  | a :: l,b :: r,hl,h => by
    rw [cmpL] at h
    obtain ⟨h1,h2⟩ := cmb_zero h
    rw [cmpR_zero a b h1,cmpL_zero l r (by simpa using hl) h2]
end
end Go.Abs.Try
namespace Go.Abs.Try
set_option maxRecDepth 100000
open Classical in
theorem eq20 (N : Nat) (a b : Node) (h : a.size < N) : F20 N a b = some (decide (a = b)) := by
  unfold F20
  rw [cmp18 N a b h,bindO_some]
  congr 1
  rw [Bool.eq_iff_iff,beq_iff_eq,decide_eq_true_eq]
  exact ⟨cmpR_zero a b,fun e => by rw [e]; exact cmpR_self b⟩
theorem nd_op (k : Int) (ks : List Node) : (nd k ks).op = k := rfl
theorem nd_kids (k : Int) (ks : List Node) : (nd k ks).kids = ks := rfl
theorem nd_num (k : Int) (ks : List Node) : (nd k ks).num = 0 := rfl
theorem nd_name (k : Int) (ks : List Node) : (nd k ks).name = ⟨#[]⟩ := rfl
theorem nd_inj {k k' : Int} {ks ks' : List Node} : nd k ks = nd k' ks' ↔ k = k' ∧ ks = ks' := by
 constructor
 · intro h; simp only [nd,Node.mk.injEq,true_and] at h; exact h
 · rintro ⟨rfl,rfl⟩; rfl
theorem nd_size (k : Int) (ks : List Node) : (nd k ks).size = 1 + (ks.map Node.size).sum := Node.size_eq _
theorem at1_0 (a : Node) : atO [a] 0 = some a := rfl
theorem at2_0 (a b : Node) : atO [a,b] 0 = some a := rfl
theorem at2_1 (a b : Node) : atO [a,b] 1 = some b := rfl
theorem at3_0 (a b c : Node) : atO [a,b,c] 0 = some a := rfl
theorem at3_1 (a b c : Node) : atO [a,b,c] 1 = some b := rfl
theorem at3_2 (a b c : Node) : atO [a,b,c] 2 = some c := rfl
where plainB (k : Int) : Bool := !(k == 1) && !(k == 3) && !(k == 2) && !(k == 7) && !(k == 42)
theorem plain_of (k : Int) (h : (k == 1 || k == 3 || k == 2 || k == 7 || k == 42) = false) : plainOp k := by
 simp only [Bool.or_eq_false_iff,beq_eq_false_iff_ne] at h
 exact ⟨h.1.1.1.1,h.1.1.1.2,h.1.1.2,h.1.2,h.2⟩
theorem fNot {n : Node} (h : sortedR n = true) (ho : n.op = 32) : ∃ a,n = nd 32 [a] ∧ sortS a = 2 ∧ sortedR a = true := form1 h ho (plain_of 32 rfl) rfl
theorem fLen {n : Node} (h : sortedR n = true) (ho : n.op = 16) : ∃ a,n = nd 16 [a] ∧ sortS a = 5 ∧ sortedR a = true := form1 h ho (plain_of 16 rfl) rfl
theorem fSing {n : Node} (h : sortedR n = true) (ho : n.op = 10) : ∃ a,n = nd 10 [a] ∧ sortS a = 1 ∧ sortedR a = true := form1 h ho (plain_of 10 rfl) rfl
theorem fEmpty {n : Node} (h : sortedR n = true) (ho : n.op = 9) : n = nd 9 [] := form0 h ho (plain_of 9 rfl) rfl
theorem fAnd {n : Node} (h : sortedR n = true) (ho : n.op = 33) : ∃ a b,n = nd 33 [a,b] ∧ sortS a = 2 ∧ sortS b = 2 ∧ sortedR a = true ∧ sortedR b = true := form2 h ho (plain_of 33 rfl) rfl
theorem fOr {n : Node} (h : sortedR n = true) (ho : n.op = 34) : ∃ a b,n = nd 34 [a,b] ∧ sortS a = 2 ∧ sortS b = 2 ∧ sortedR a = true ∧ sortedR b = true := form2 h ho (plain_of 34 rfl) rfl
theorem fImp {n : Node} (h : sortedR n = true) (ho : n.op = 35) : ∃ a b,n = nd 35 [a,b] ∧ sortS a = 2 ∧ sortS b = 2 ∧ sortedR a = true ∧ sortedR b = true := form2 h ho (plain_of 35 rfl) rfl
theorem fIff {n : Node} (h : sortedR n = true) (ho : n.op = 36) : ∃ a b,n = nd 36 [a,b] ∧ sortS a = 2 ∧ sortS b = 2 ∧ sortedR a = true ∧ sortedR b = true := form2 h ho (plain_of 36 rfl) rfl
theorem fLe {n : Node} (h : sortedR n = true) (ho : n.op = 38) : ∃ a b,n = nd 38 [a,b] ∧ sortS a = 1 ∧ sortS b = 1 ∧ sortedR a = true ∧ sortedR b = true := form2 h ho (plain_of 38 rfl) rfl
theorem fMem {n : Node} (h : sortedR n = true) (ho : n.op = 40) : ∃ a b,n = nd 40 [a,b] ∧ sortS a = 1 ∧ sortS b = 4 ∧ sortedR a = true ∧ sortedR b = true := form2 h ho (plain_of 40 rfl) rfl
theorem fSub {n : Node} (h : sortedR n = true) (ho : n.op = 41) : ∃ a b,n = nd 41 [a,b] ∧ sortS a = 4 ∧ sortS b = 4 ∧ sortedR a = true ∧ sortedR b = true := form2 h ho (plain_of 41 rfl) rfl
theorem fCup {n : Node} (h : sortedR n = true) (ho : n.op = 11) : ∃ a b,n = nd 11 [a,b] ∧ sortS a = 4 ∧ sortS b = 4 ∧ sortedR a = true ∧ sortedR b = true := form2 h ho (plain_of 11 rfl) rfl
theorem fCap {n : Node} (h : sortedR n = true) (ho : n.op = 12) : ∃ a b,n = nd 12 [a,b] ∧ sortS a = 4 ∧ sortS b = 4 ∧ sortedR a = true ∧ sortedR b = true := form2 h ho (plain_of 12 rfl) rfl
theorem fMinus {n : Node} (h : sortedR n = true) (ho : n.op = 13) : ∃ a b,n = nd 13 [a,b] ∧ sortS a = 4 ∧ sortS b = 4 ∧ sortedR a = true ∧ sortedR b = true := form2 h ho (plain_of 13 rfl) rfl
theorem fSel {n : Node} (h : sortedR n = true) (ho : n.op = 14) : ∃ a b,n = nd 14 [a,b] ∧ sortS a = 5 ∧ sortS b = 1 ∧ sortedR a = true ∧ sortedR b = true := form2 h ho (plain_of 14 rfl) rfl
theorem fSto {n : Node} (h : sortedR n = true) (ho : n.op = 15) : ∃ a i x,n = nd 15 [a,i,x] ∧ sortS a = 5 ∧ sortS i = 1 ∧ sortS x = 1 ∧ sortedR a = true ∧ sortedR i = true ∧ sortedR x = true := form3 h ho (plain_of 15 rfl) rfl
theorem sortS_nd (k : Int) (ks : List Node) (h : k ≠ 8) : sortS (nd k ks) = sortC k 0 := by rw [sortS_eq]; exact if_neg h
theorem two1282 (k : Int) (a b : Node) : F1282 k a b = some (nd k [a,b]) := rfl
def sameN (e f s : Node) : Node := nd 35 [nd 37 [e,f],nd 36 [nd 40 [e,s],nd 40 [f,s]]]
theorem same1248 (e f s : Node) : F1248 e f s = some (sameN e f s) := rfl
def pass4 (a b e : Node) : Node := nd 35 [nd 41 [a,b],nd 35 [nd 40 [e,a],nd 40 [e,b]]]
def pass5 (a b e : Node) : Node := nd 35 [nd 37 [a,b],nd 36 [nd 40 [e,a],nd 40 [e,b]]]
theorem passes4 (a b e : Node) : F1249 4 a b e = some (pass4 a b e) := by cases e; rfl
theorem passes5 (a b e : Node) : F1249 5 a b e = some (pass5 a b e) := by cases e; rfl
def part4 (a b w : Node) : Node := nd 34 [nd 41 [a,b],nd 33 [nd 40 [w,a],nd 32 [nd 40 [w,b]]]]
def part5 (a b w : Node) : Node := nd 34 [nd 37 [a,b],nd 32 [nd 36 [nd 40 [w,a],nd 40 [w,b]]]]
theorem parts4 (a b w : Node) : F1295 4 a b w = some (part4 a b w) := by cases w; rfl
theorem parts5 (a b w : Node) : F1295 5 a b w = some (part5 a b w) := by cases w; rfl
def sto0 (j a i x : Node) : Node := nd 35 [nd 37 [i,j],nd 37 [nd 14 [nd 15 [a,i,x],j],x]]
def sto1 (j a i x : Node) : Node := nd 34 [nd 37 [i,j],nd 37 [nd 14 [nd 15 [a,i,x],j],nd 14 [a,j]]]
def sto2 (a i x : Node) : Node := nd 37 [nd 16 [nd 15 [a,i,x]],nd 16 [a]]
theorem stored1251 (j a i x : Node) : F1251 j (nd 15 [a,i,x]) = some [sto0 j a i x,sto1 j a i x,sto2 a i x] := rfl
def cntN (a : Node) : Node := nd 38 [nd 2 [],nd 16 [a]]
theorem cnt1253 (a : Node) : F1253 a = some (cntN a) := rfl
def readN (i j a : Node) : Node := nd 35 [nd 37 [i,j],nd 37 [nd 14 [a,i],nd 14 [a,j]]]
theorem read1252 (i j a : Node) : F1252 i j a = some (readN i j a) := rfl
def agreeN (a b i : Node) : Node := nd 35 [nd 37 [a,b],nd 33 [nd 37 [nd 16 [a],nd 16 [b]],nd 37 [nd 14 [a,i],nd 14 [b,i]]]]
theorem agree1254 (a b i : Node) : F1254 a b i = some (agreeN a b i) := rfl
def diffN (a b w : Node) : Node := nd 34 [nd 37 [a,b],nd 34 [nd 32 [nd 37 [nd 16 [a],nd 16 [b]]],nd 32 [nd 37 [nd 14 [a,w],nd 14 [b,w]]]]]
theorem diff1274 (a b w : Node) : F1274 a b w = some (diffN a b w) := rfl
def cho0 (c x y : Node) : Node := nd 35 [c,nd 37 [nd 8 [c,x,y],x]]
def cho1 (c x y : Node) : Node := nd 34 [c,nd 37 [nd 8 [c,x,y],y]]
theorem chosen1255 (c x y : Node) : F1255 (nd 8 [c,x,y]) = some [cho0 c x y,cho1 c x y] := rfl
def memN (e s : Node) : Option Node :=
 bif s.op == 9 then some (nd 32 [nd 40 [e,s]]) else
 bif s.op == 10 then (match s.kids with | [x] => some (nd 36 [nd 40 [e,s],nd 37 [e,x]]) | _ => none) else
 bif s.op == 11 then (match s.kids with | [x,y] => some (nd 36 [nd 40 [e,s],nd 34 [nd 40 [e,x],nd 40 [e,y]]]) | _ => none) else
 bif s.op == 12 then (match s.kids with | [x,y] => some (nd 36 [nd 40 [e,s],nd 33 [nd 40 [e,x],nd 40 [e,y]]]) | _ => none) else
 bif s.op == 13 then (match s.kids with | [x,y] => some (nd 36 [nd 40 [e,s],nd 33 [nd 40 [e,x],nd 32 [nd 40 [e,y]]]]) | _ => none) else none
theorem member1247 (e s : Node) (h : sortedR s = true) : F1247 e s = some (match memN e s with | some m => (m,true) | none => (nd 0 [],false)) := by
 cases h9 : s.op == 9 with
 | true => obtain rfl := fEmpty h (beq_iff_eq.1 h9); cases e; rfl
 | false =>
   cases h10 : s.op == 10 with
   | true => obtain ⟨a,rfl,_,_⟩ := fSing h (beq_iff_eq.1 h10); cases e; rfl
   | false =>
     cases h11 : s.op == 11 with
     | true => obtain ⟨a,b,rfl,_⟩ := fCup h (beq_iff_eq.1 h11); cases e; rfl
     | false =>
       cases h12 : s.op == 12 with
       | true => obtain ⟨a,b,rfl,_⟩ := fCap h (beq_iff_eq.1 h12); cases e; rfl
       | false =>
         cases h13 : s.op == 13 with
         | true => obtain ⟨a,b,rfl,_⟩ := fMinus h (beq_iff_eq.1 h13); cases e; rfl
         | false => simp only [F1247,memN,two1282,bindO_some,h9,h10,h11,h12,h13,iteO_false,cond_false]; rfl
end Go.Abs.Try
namespace Go.Abs.Try
set_option maxRecDepth 100000
def occ (k : ByteArray) (n : Node) : Bool := (nodes n).any fun x => x.name.toList == k.toList
def K2 (n : Node) : Prop := ∃ e s,sortedR s = true ∧ memN e s = some n
def K3 (n : Node) : Prop := ∃ e f s,n = sameN e f s ∧ sortS e = 1
def K4i (n : Node) : Prop := ∃ a b e,n = pass4 a b e
def K5i (n : Node) : Prop := ∃ a b e,n = pass5 a b e ∧ sortS a = 4
def wit (w a b : Node) : Prop := w.op = 1 ∧ w.sortf = 1 ∧ occ w.name a = false ∧ occ w.name b = false
def K4o (n : Node) : Prop := ∃ a b w,n = part4 a b w ∧ wit w a b
def K5o (n : Node) : Prop := ∃ a b w,n = part5 a b w ∧ sortS a = 4 ∧ wit w a b
def K6 (n : Node) : Prop := (∃ a,n = cntN a) ∨ (∃ a i x,n = sto2 a i x) ∨ (∃ i j a,n = readN i j a ∧ sortS i = 1) ∨ (∃ j a i x,n = sto0 j a i x) ∨ (∃ j a i x,n = sto1 j a i x)
def K7i (n : Node) : Prop := ∃ a b i,n = agreeN a b i ∧ sortS a = 5
def K7o (n : Node) : Prop := ∃ a b w,n = diffN a b w ∧ sortS a = 5 ∧ wit w a b
def K8 (n : Node) : Prop := ∃ c x y,n = cho0 c x y ∨ n = cho1 c x y
theorem dF {p : Prop} [Decidable p] (h : ¬ p) : (some false : Option Bool) = some (decide p) := by rw [decide_eq_false h]
theorem dT {p : Prop} [Decidable p] (h : p) : (some true : Option Bool) = some (decide p) := by rw [decide_eq_true h]
theorem dI {p q : Prop} [Decidable p] [Decidable q] (h : p ↔ q) : (some (decide p) : Option Bool) = some (decide q) := by
 congr 1; rw [decide_eq_decide]; exact h
theorem lst1 {α : Type} {a b : α} : [a] = [b] ↔ a = b := by simp
theorem lst2 {α : Type} {a b c d : α} : [a,b] = [c,d] ↔ a = c ∧ b = d := by simp
theorem lst3 {α : Type} {a b c d e f : α} : [a,b,c] = [d,e,f] ↔ a = d ∧ b = e ∧ c = f := by simp
theorem occ1296 : ∀ (N : Nat) (k : ByteArray) (n : Node),n.size < N → F1296 N k n = some (occ k n)
 | 0,_,n,h => absurd h (Nat.not_lt_zero _)
 | N + 1,k,n,h => by
   have hl := kids_len n
   have hk : ∀ x ∈ n.kids,F1296 N k x = some (occ k x) := fun x hx => occ1296 N k x (by have := kids_size hx; omega)
   show F1296b (F1296 N) N k n = _
   unfold F1296b occ
   rw [nodes_eq,List.any_cons]
   have hL : foldN (F1296_s1 (F1296 N) k) F1296_f1 N n.kids 0 () = some (n.kids.any (occ k)) := by
     rw [foldN_all (fun x => !(occ k x)) true n.kids N 0 (by omega) fun x hx i => ?_]
     · show (bif n.kids.all (fun x => !occ k x) then some false else some true) = _
       rw [← List.not_any_eq_all_not]
       cases n.kids.any (occ k) <;> rfl
     · simp only [F1296_s1,hk x hx,bindO_some]
       cases occ k x <;> rfl
   have hN : (nodesL n.kids).any (fun x => x.name.toList == k.toList) = n.kids.any (occ k) := by
     have : ∀ ks : List Node,(nodesL ks).any (fun x => x.name.toList == k.toList) = ks.any (occ k) := by
       intro ks
       induction ks with
       | nil => rfl
       | cons a ks ih => simp only [nodesL,List.any_append,List.any_cons,ih,occ]
     exact this _
   rw [hL,hN]
   cases n.name.toList == k.toList <;> rfl
theorem nil_list : (⟨#[]⟩ : ByteArray).toList = [] := by rw [ba_toList]
theorem occ_nd {k : ByteArray} (hk : k.toList ≠ []) (op : Int) (a b : Node) : occ k (nd op [a,b]) = (occ k a || occ k b) := by
 have e : ((⟨#[]⟩ : ByteArray).toList == k.toList) = false := beq_eq_false_iff_ne.2 fun h => hk (by rw [← h,nil_list])
 simp only [occ,nodes_eq (nd op [a,b]),List.any_cons,nd_name,e,nd_kids,nodesL,List.any_append,List.any_nil,Bool.false_or,Bool.or_false]
theorem var_name {w : Node} (h : sortedR w = true) (ho : w.op = 1) : w.name.toList ≠ [] := by
 obtain ⟨h1,_,_⟩ := sortedR_kids h
 have h2 := own118A 30 w (Nat.le_refl _)
 rw [h1] at h2
 intro e
 have he : w.name = ⟨#[]⟩ := ba_inj (by rw [e,nil_list])
 have e17 : F17 30 w.name = some false := by rw [he]; decide +kernel
 have eo : (w.op == 1) = true := beq_iff_eq.2 ho
 simp only [F118,eo,iteO_true,e17,bindO_some,iteO_false] at h2
 cases h2
theorem memN_some {e s m : Node} (h : memN e s = some m) : (m.op = 32 ∨ m.op = 36) ∧ m.kids.head? = some (nd 40 [e,s]) ∧ m.size ≤ 10 + 3 * e.size + 3 * s.size := by
 have hs : ∀ x ∈ s.kids,x.size ≤ s.size := fun x hx => Nat.le_of_lt (kids_size hx)
 unfold memN at h
 cases h9 : s.op == 9 with
 | true =>
   rw [h9] at h; simp only [cond_true] at h; injection h with h; subst h
   exact ⟨.inl rfl,rfl,by simp only [nd_size,List.map_cons,List.map_nil,List.sum_cons,List.sum_nil]; omega⟩
 | false =>
   rw [h9] at h; simp only [cond_false] at h
   cases h10 : s.op == 10 with
   | true =>
     rw [h10] at h; simp only [cond_true] at h
     match hk : s.kids,h with
     | [x],h =>
       injection h with h; subst h
       have := hs x (by rw [hk]; simp)
       exact ⟨.inr rfl,rfl,by simp only [nd_size,List.map_cons,List.map_nil,List.sum_cons,List.sum_nil]; omega⟩
     | [],h => cases h
     | _ :: _ :: _,h => cases h
   | false =>
     rw [h10] at h; simp only [cond_false] at h
     have two : ∀ (f : Node → Node → Node),(match s.kids with | [x,y] => some (f x y) | _ => none) = some m → (∀ x y,(f x y).op = 36 ∧ (f x y).kids.head? = some (nd 40 [e,s]) ∧ (f x y).size ≤ 9 + 3 * e.size + s.size + x.size + y.size) → (m.op = 32 ∨ m.op = 36) ∧ m.kids.head? = some (nd 40 [e,s]) ∧ m.size ≤ 10 + 3 * e.size + 3 * s.size := by
       intro f hf hp
       match hk : s.kids,hf with
       | [x,y],hf =>
         injection hf with hf; subst hf
         have h1 := hs x (by rw [hk]; simp)
         have h2 := hs y (by rw [hk]; simp)
         obtain ⟨p1,p2,p3⟩ := hp x y
         exact ⟨.inr p1,p2,by omega⟩
       | [],hf => cases hf
       | [_],hf => cases hf
       | _ :: _ :: _ :: _,hf => cases hf
     cases h11 : s.op == 11 with
     | true => rw [h11] at h; exact two (fun x y => nd 36 [nd 40 [e,s],nd 34 [nd 40 [e,x],nd 40 [e,y]]]) h fun x y => ⟨rfl,rfl,by simp only [nd_size,List.map_cons,List.map_nil,List.sum_cons,List.sum_nil]; omega⟩
     | false =>
       rw [h11] at h; simp only [cond_false] at h
       cases h12 : s.op == 12 with
       | true => rw [h12] at h; exact two (fun x y => nd 36 [nd 40 [e,s],nd 33 [nd 40 [e,x],nd 40 [e,y]]]) h fun x y => ⟨rfl,rfl,by simp only [nd_size,List.map_cons,List.map_nil,List.sum_cons,List.sum_nil]; omega⟩
       | false =>
         rw [h12] at h; simp only [cond_false] at h
         cases h13 : s.op == 13 with
         | true => rw [h13] at h; exact two (fun x y => nd 36 [nd 40 [e,s],nd 33 [nd 40 [e,x],nd 32 [nd 40 [e,y]]]]) h fun x y => ⟨rfl,rfl,by simp only [nd_size,List.map_cons,List.map_nil,List.sum_cons,List.sum_nil]; omega⟩
         | false => rw [h13] at h; cases h
section
open Classical
variable (N : Nat) (n : Node)
theorem p1230 (hs : sortedR n = true) (hN : n.size ≤ 1048576) (hB : 100000000 ≤ N) : F1230 N n = some (decide (K3 n)) := by
 unfold F1230
 cases h35 : n.op == 35 with
 | false => exact dF (by rintro ⟨e,f,s,rfl,_⟩; cases h35)
 | true =>
   obtain ⟨p,q,rfl,_,_,hp,hq⟩ := fImp hs (beq_iff_eq.1 h35)
   simp only [nd_size,List.map_cons,List.map_nil,List.sum_cons,List.sum_nil] at hN
   simp only [nd_kids,at2_0,at2_1,bindO_some,iteO_true,F1271]
   cases h37 : p.op == 37 with
   | false => exact dF (by rintro ⟨e,f,s,h,_⟩; simp only [sameN,nd_inj,lst2] at h; obtain ⟨_,rfl,_⟩ := h; cases h37)
   | true =>
     obtain ⟨e,f,rfl,hef,_,he,hf⟩ := formEq hp (beq_iff_eq.1 h37)
     simp only [nd_size,List.map_cons,List.map_nil,List.sum_cons,List.sum_nil] at hN
     simp only [nd_kids,at2_0,at2_1,bindO_some,iteO_true,sort36n N e (by omega)]
     cases hse : sortS e == 1 with
     | false => exact dF (by rintro ⟨e',f',s,h,h1⟩; simp only [sameN,nd_inj,lst2] at h; obtain ⟨_,⟨_,rfl,_⟩,_⟩ := h; rw [h1] at hse; cases hse)
     | true =>
       simp only [iteO_true]
       cases h36 : q.op == 36 with
       | false => exact dF (by rintro ⟨e',f',s,h,_⟩; simp only [sameN,nd_inj,lst2] at h; obtain ⟨_,_,rfl⟩ := h; cases h36)
       | true =>
         obtain ⟨x,y,rfl,_,_,hx,hy⟩ := fIff hq (beq_iff_eq.1 h36)
         simp only [nd_kids,at2_0,at2_1,bindO_some,iteO_true]
         cases h40 : x.op == 40 with
         | false => exact dF (by rintro ⟨e',f',s,h,_⟩; simp only [sameN,nd_inj,lst2] at h; obtain ⟨_,_,_,rfl,_⟩ := h; cases h40)
         | true =>
           obtain ⟨c,s,rfl,_,_,_,_⟩ := fMem hx (beq_iff_eq.1 h40)
           simp only [nd_size,List.map_cons,List.map_nil,List.sum_cons,List.sum_nil] at hN
           simp only [nd_kids,at2_0,at2_1,bindO_some,iteO_true,same1248]
           rw [eq20 N _ _ (by simp only [nd_size,List.map_cons,List.map_nil,List.sum_cons,List.sum_nil]; omega)]
           refine dI ⟨fun h => ⟨e,f,s,h,beq_iff_eq.1 hse⟩, ?_⟩
           rintro ⟨e',f',s',h,_⟩
           simp only [sameN,nd_inj,lst2] at h
           obtain ⟨_,⟨_,rfl,rfl⟩,_,⟨_,rfl,rfl⟩,rfl⟩ := h
           rfl
theorem p1229 (hs : sortedR n = true) (hN : n.size ≤ 1048576) (hB : 100000000 ≤ N) : F1229 N n = some (decide (K2 n)) := by
 have key : ∀ (m : Node),sortedR m = true → m.op = 40 → n.kids.head? = some m → m.size ≤ n.size → (bindO (atO m.kids 0) fun x2 => bindO (atO m.kids 1) fun x3 => bindO (F1247 x2 x3) fun r4 => iteO r4.2 (bindO (F20 N r4.1 n) fun r5 => some r5) (some false)) = some (decide (K2 n)) := by
   intro m hm ho hk hmn
   obtain ⟨e,s,rfl,_,_,he,hss⟩ := fMem hm ho
   simp only [nd_size,List.map_cons,List.map_nil,List.sum_cons,List.sum_nil] at hmn
   simp only [nd_kids,at2_0,at2_1,bindO_some,member1247 e s hss]
   have uni : ∀ e' s',memN e' s' = some n → e' = e ∧ s' = s := by
     intro e' s' h'
     have := (memN_some h').2.1
     rw [hk] at this
     injection this with this
     simp only [nd_inj,lst2] at this
     exact ⟨this.2.1.symm,this.2.2.symm⟩
   cases hm' : memN e s with
   | none =>
     refine dF ?_
     rintro ⟨e',s',h1,h2⟩
     obtain ⟨rfl,rfl⟩ := uni e' s' h2
     rw [hm'] at h2; cases h2
   | some m =>
     have hms := (memN_some hm').2.2
     simp only [iteO_true]
     rw [eq20 N m n (by omega)]
     refine dI ⟨fun h => ⟨e,s,hss,by rw [hm',h]⟩, ?_⟩
     rintro ⟨e',s',h1,h2⟩
     obtain ⟨rfl,rfl⟩ := uni e' s' h2
     rw [hm'] at h2; injection h2
 have no : ∀ m,n.kids.head? = some m → (m.op == 40) = false → ¬ K2 n := by
   rintro m hk h40 ⟨e,s,_,h⟩
   have := (memN_some h).2.1
   rw [hk] at this
   injection this with this
   rw [this] at h40; cases h40
 unfold F1229
 cases h32 : n.op == 32 with
 | true =>
   obtain ⟨m,rfl,_,hm⟩ := fNot hs (beq_iff_eq.1 h32)
   simp only [nd_kids,at1_0,bindO_some,iteO_true]
   cases h40 : m.op == 40 with
   | false => exact dF (no m rfl h40)
   | true => exact key m hm (beq_iff_eq.1 h40) rfl (by simp only [nd_size,List.map_cons,List.map_nil,List.sum_cons,List.sum_nil]; omega)
 | false =>
   simp only [iteO_false]
   cases h36 : n.op == 36 with
   | true =>
     obtain ⟨m,q,rfl,_,_,hm,_⟩ := fIff hs (beq_iff_eq.1 h36)
     simp only [nd_kids,at2_0,bindO_some,iteO_true]
     cases h40 : m.op == 40 with
     | false => exact dF (no m rfl h40)
     | true => exact key m hm (beq_iff_eq.1 h40) rfl (by simp only [nd_size,List.map_cons,List.map_nil,List.sum_cons,List.sum_nil]; omega)
   | false =>
     refine dF ?_
     rintro ⟨e,s,_,h⟩
     rcases (memN_some h).1 with h | h
     · rw [h] at h32; cases h32
     · rw [h] at h36; cases h36
end
end Go.Abs.Try
namespace Go.Abs.Try
set_option maxRecDepth 100000
theorem first_some : ∀ (m : Nat) (q : Node) (N : Nat),q.size ≤ m → q.size < N → sortedR q = true → ∃ r : Node × Bool,F1237 N q = some r ∧ (r.2 = true → sortedR r.1 = true)
 | 0,q,_,h,_,_ => absurd (size_pos q) (by omega)
 | m + 1,q,N,h,hN,hs => by
   obtain ⟨M,rfl⟩ : ∃ M,N = M + 1 := ⟨N - 1,by omega⟩
   obtain ⟨o,s,nm,nu,ks⟩ := q
   cases ks with
   | nil =>
     have h40 : (o == 40) = false := beq_eq_false_iff_ne.2 fun e => by
       obtain ⟨a,b,hq,_⟩ := fMem hs e
       simp only [nd,Node.mk.injEq] at hq
       exact absurd hq.2.2.2.2 (by simp)
     refine ⟨(nd 0 [],false), ?_,fun h => by cases h⟩
     show bindO (F1237_s1 (o,s,nm,nu,[])) _ = _
     have : F1237_s1 (o,s,nm,nu,[]) = some (.inr (nd 0 [],false)) := by
       simp only [F1237_s1,List.length_nil,h40,iteO_false]
       rfl
     rw [this]; rfl
   | cons k ks =>
     have hk : sortedR k = true := (sortedR_kids hs).2.2 k (by simp)
     have hks := kids_size (n := ⟨o,s,nm,nu,k :: ks⟩) (k := k) (by simp)
     have hpos : decide (((k :: ks).length : Int) > 0) = true := decide_eq_true (by simp only [List.length_cons]; omega)
     have hat : atO (k :: ks) 0 = some k := atO_lit (i := 0) rfl rfl
     cases h40 : o == 40 with
     | true =>
       refine ⟨(k,true), ?_,fun _ => hk⟩
       show bindO (F1237_s1 (o,s,nm,nu,k :: ks)) _ = _
       have : F1237_s1 (o,s,nm,nu,k :: ks) = some (.inr (k,true)) := by
         simp only [F1237_s1,hpos,h40,iteO_true,hat,bindO_some]
       rw [this]; rfl
     | false =>
       obtain ⟨r,hr,hr2⟩ := first_some m k M (by omega) (by omega) hk
       refine ⟨r, ?_,hr2⟩
       show bindO (F1237_s1 (o,s,nm,nu,k :: ks)) _ = _
       have : F1237_s1 (o,s,nm,nu,k :: ks) = some (.inl (k.op,k.sortf,k.name,k.num,k.kids)) := by
         simp only [F1237_s1,hpos,h40,iteO_true,iteO_false,hat,bindO_some]
       rw [this]; exact hr
theorem first2 (M : Nat) (op : Int) (e s x : Node) (h : (op == 40) = false) : F1237 (M + 2) (nd op [nd 40 [e,s],x]) = some (e,true) := by
 have h1 : F1237_s1 (op,0,⟨#[]⟩,0,[nd 40 [e,s],x]) = some (.inl (40,0,⟨#[]⟩,0,[e,s])) := by
   simp only [F1237_s1,h,at2_0,bindO_some,iteO_false]
   rfl
 show bindO (F1237_s1 (op,0,⟨#[]⟩,0,[nd 40 [e,s],x])) _ = _
 rw [h1]; rfl
theorem first3 (M : Nat) (op : Int) (e s x : Node) (h : (op == 40) = false) : F1237 (M + 3) (nd 32 [nd op [nd 40 [e,s],x]]) = some (e,true) := by
 have h1 : F1237_s1 (32,0,⟨#[]⟩,0,[nd op [nd 40 [e,s],x]]) = some (.inl (op,0,⟨#[]⟩,0,[nd 40 [e,s],x])) := rfl
 have h2 : F1237 (M + 3) (nd 32 [nd op [nd 40 [e,s],x]]) = bindO (F1237_s1 (32,0,⟨#[]⟩,0,[nd op [nd 40 [e,s],x]])) fun r => match r with
   | .inl s' => whileN F1237_s1 (M + 2) s'
   | .inr y => some y := rfl
 rw [h2,h1]
 exact first2 M op e s x h
theorem wit1273 (N : Nat) (w r : Node) (hr : r.size < N) : F1273 N w r = some ((w.op == 1) && ((w.sortf == 1) && !(occ w.name r))) := by
 unfold F1273
 rw [occ1296 N w.name r hr]
 cases w.op == 1 <;> cases w.sortf == 1 <;> rfl
section
open Classical
variable (N : Nat) (n : Node)
theorem rel4 (hs : sortedR n = true) (hN : n.size ≤ 1048576) (hB : 100000000 ≤ N) : F1272 N n 4 = some (decide (K4i n ∨ K4o n)) := by
 obtain ⟨M,rfl⟩ : ∃ M,N = M + 3 := ⟨N - 3,by omega⟩
 have e44 : ((4 : Int) == 4) = true := rfl
 have e45 : ((4 : Int) == 5) = false := rfl
 unfold F1272
 simp only [e44,e45,iteO_true,iteO_false]
 cases h35 : n.op == 35 with
 | true =>
   obtain ⟨r,q,rfl,_,_,hr,hq⟩ := fImp hs (beq_iff_eq.1 h35)
   simp only [nd_size,List.map_cons,List.map_nil,List.sum_cons,List.sum_nil] at hN
   simp only [nd_kids,at2_0,at2_1,bindO_some,iteO_true]
   cases h41 : r.op == 41 with
   | false =>
     refine dF ?_
     rintro (⟨a,b,e,h⟩ | ⟨a,b,w,h,_⟩)
     · simp only [pass4,nd_inj,lst2] at h; obtain ⟨_,rfl,_⟩ := h; cases h41
     · simp only [part4,nd_inj] at h; exact absurd h.1 (by decide)
   | true =>
     obtain ⟨a,b,rfl,_,_,ha,hb⟩ := fSub hr (beq_iff_eq.1 h41)
     simp only [nd_size,List.map_cons,List.map_nil,List.sum_cons,List.sum_nil] at hN
     obtain ⟨⟨e,ok⟩,hf,hok⟩ := first_some q.size q (M + 3) (Nat.le_refl _) (by omega) hq
     simp only [nd_kids,at2_0,at2_1,bindO_some,iteO_true,hf]
     cases ok with
     | false =>
       refine dF ?_
       rintro (⟨a',b',e',h⟩ | ⟨a',b',w,h,_⟩)
       · simp only [pass4,nd_inj,lst2] at h
         obtain ⟨_,_,rfl⟩ := h
         rw [first2 (M + 1) 35 e' a' _ rfl] at hf; cases hf
       · simp only [part4,nd_inj] at h; exact absurd h.1 (by decide)
     | true =>
       simp only [iteO_true,passes4,bindO_some]
       rw [eq20 (M + 3) _ _ (by simp only [nd_size,List.map_cons,List.map_nil,List.sum_cons,List.sum_nil]; omega)]
       refine dI ⟨fun h => .inl ⟨a,b,e,h⟩, ?_⟩
       rintro (⟨a',b',e',h⟩ | ⟨a',b',w,h,_⟩)
       · simp only [pass4,nd_inj,lst2] at h
         obtain ⟨_,⟨_,rfl,rfl⟩,rfl⟩ := h
         rw [first2 (M + 1) 35 e' a _ rfl] at hf
         injection hf with hf
         injection hf with hf _
         subst hf; rfl
       · simp only [part4,nd_inj] at h; exact absurd h.1 (by decide)
 | false =>
   cases h34 : n.op == 34 with
   | false =>
     refine dF ?_
     rintro (⟨a,b,e,rfl⟩ | ⟨a,b,w,rfl,_⟩)
     · cases h35
     · cases h34
   | true =>
     obtain ⟨r,q,rfl,_,_,hr,hq⟩ := fOr hs (beq_iff_eq.1 h34)
     simp only [nd_size,List.map_cons,List.map_nil,List.sum_cons,List.sum_nil] at hN
     simp only [nd_kids,at2_0,at2_1,bindO_some,iteO_true,iteO_false]
     cases h41 : r.op == 41 with
     | false =>
       refine dF ?_
       rintro (⟨a,b,e,h⟩ | ⟨a,b,w,h,_⟩)
       · simp only [pass4,nd_inj] at h; exact absurd h.1 (by decide)
       · simp only [part4,nd_inj,lst2] at h; obtain ⟨_,rfl,_⟩ := h; cases h41
     | true =>
       obtain ⟨a,b,rfl,_,_,ha,hb⟩ := fSub hr (beq_iff_eq.1 h41)
       simp only [nd_size,List.map_cons,List.map_nil,List.sum_cons,List.sum_nil] at hN
       obtain ⟨⟨e,ok⟩,hf,hok⟩ := first_some q.size q (M + 3) (Nat.le_refl _) (by omega) hq
       simp only [nd_kids,at2_0,at2_1,bindO_some,iteO_true,hf]
       have no1 : ¬ K4i (nd 34 [nd 41 [a,b],q]) := by
         rintro ⟨a',b',e',h⟩
         simp only [pass4,nd_inj] at h; exact absurd h.1 (by decide)
       have no2 : ∀ a' b' w,nd 34 [nd 41 [a,b],q] = part4 a' b' w → a' = a ∧ b' = b ∧ e = w ∧ ok = true := by
         intro a' b' w h
         simp only [part4,nd_inj,lst2] at h
         obtain ⟨_,⟨_,rfl,rfl⟩,rfl⟩ := h
         rw [first2 (M + 1) 33 w a _ rfl] at hf
         injection hf with hf
         injection hf with h1 h2
         exact ⟨rfl,rfl,h1.symm,h2.symm⟩
       cases ok with
       | false =>
         refine dF ?_
         rintro (h | ⟨a',b',w,h,_⟩)
         · exact no1 h
         · exact absurd (no2 a' b' w h).2.2.2 (by decide)
       | true =>
         have hes : sortedR e = true := hok rfl
         simp only [iteO_true,wit1273 (M + 3) e (nd 41 [a,b]) (by simp only [nd_size,List.map_cons,List.map_nil,List.sum_cons,List.sum_nil]; omega),bindO_some]
         cases hw : (e.op == 1) && ((e.sortf == 1) && !(occ e.name (nd 41 [a,b]))) with
         | false =>
           refine dF ?_
           rintro (h | ⟨a',b',w,h,h1,h2,h3,h4⟩)
           · exact no1 h
           · obtain ⟨rfl,rfl,rfl,_⟩ := no2 a' b' w h
             rw [occ_nd (var_name hes h1),h1,h2,h3,h4] at hw
             cases hw
         | true =>
           simp only [Bool.and_eq_true,beq_iff_eq,Bool.not_eq_true'] at hw
           obtain ⟨w1,w2,w3⟩ := hw
           rw [occ_nd (var_name hes w1),Bool.or_eq_false_iff] at w3
           simp only [iteO_true,parts4,bindO_some]
           rw [eq20 (M + 3) _ _ (by simp only [nd_size,List.map_cons,List.map_nil,List.sum_cons,List.sum_nil]; omega)]
           refine dI ⟨fun h => .inr ⟨a,b,e,h,w1,w2,w3.1,w3.2⟩, ?_⟩
           rintro (h | ⟨a',b',w,h,_⟩)
           · exact absurd h no1
           · obtain ⟨rfl,rfl,rfl,_⟩ := no2 a' b' w h
             exact h
theorem rel5 (hs : sortedR n = true) (hN : n.size ≤ 1048576) (hB : 100000000 ≤ N) : F1272 N n 5 = some (decide (K5i n ∨ K5o n)) := by
 obtain ⟨M,rfl⟩ : ∃ M,N = M + 3 := ⟨N - 3,by omega⟩
 have e44 : ((5 : Int) == 4) = false := rfl
 have e45 : ((5 : Int) == 5) = true := rfl
 unfold F1272
 simp only [e44,e45,iteO_true,iteO_false]
 cases h35 : n.op == 35 with
 | true =>
   obtain ⟨r,q,rfl,_,_,hr,hq⟩ := fImp hs (beq_iff_eq.1 h35)
   simp only [nd_size,List.map_cons,List.map_nil,List.sum_cons,List.sum_nil] at hN
   simp only [nd_kids,at2_0,at2_1,bindO_some,iteO_true,F1271]
   cases h41 : r.op == 37 with
   | false =>
     refine dF ?_
     rintro (⟨a,b,e,h,_⟩ | ⟨a,b,w,h,_⟩)
     · simp only [pass5,nd_inj,lst2] at h; obtain ⟨_,rfl,_⟩ := h; cases h41
     · simp only [part5,nd_inj] at h; exact absurd h.1 (by decide)
   | true =>
     obtain ⟨a,b,rfl,_,_,ha,hb⟩ := formEq hr (beq_iff_eq.1 h41)
     simp only [nd_size,List.map_cons,List.map_nil,List.sum_cons,List.sum_nil] at hN
     simp only [nd_kids,at2_0,at2_1,bindO_some,iteO_true,sort36n (M + 3) a (by omega)]
     cases hsa : sortS a == 4 with
     | false =>
       refine dF ?_
       rintro (⟨a',b',e,h,h4⟩ | ⟨a',b',w,h,_⟩)
       · simp only [pass5,nd_inj,lst2] at h; obtain ⟨_,⟨_,rfl,_⟩,_⟩ := h; rw [h4] at hsa; cases hsa
       · simp only [part5,nd_inj] at h; exact absurd h.1 (by decide)
     | true =>
       obtain ⟨⟨e,ok⟩,hf,hok⟩ := first_some q.size q (M + 3) (Nat.le_refl _) (by omega) hq
       simp only [nd_kids,at2_0,at2_1,bindO_some,iteO_true,hf]
       cases ok with
       | false =>
         refine dF ?_
         rintro (⟨a',b',e',h,_⟩ | ⟨a',b',w,h,_⟩)
         · simp only [pass5,nd_inj,lst2] at h
           obtain ⟨_,_,rfl⟩ := h
           rw [first2 (M + 1) 36 e' a' _ rfl] at hf; cases hf
         · simp only [part5,nd_inj] at h; exact absurd h.1 (by decide)
       | true =>
         simp only [iteO_true,passes5,bindO_some]
         rw [eq20 (M + 3) _ _ (by simp only [nd_size,List.map_cons,List.map_nil,List.sum_cons,List.sum_nil]; omega)]
         refine dI ⟨fun h => .inl ⟨a,b,e,h,beq_iff_eq.1 hsa⟩, ?_⟩
         rintro (⟨a',b',e',h,_⟩ | ⟨a',b',w,h,_⟩)
         · simp only [pass5,nd_inj,lst2] at h
           obtain ⟨_,⟨_,rfl,rfl⟩,rfl⟩ := h
           rw [first2 (M + 1) 36 e' a _ rfl] at hf
           injection hf with hf
           injection hf with hf _
           subst hf; rfl
         · simp only [part5,nd_inj] at h; exact absurd h.1 (by decide)
 | false =>
   cases h34 : n.op == 34 with
   | false =>
     refine dF ?_
     rintro (⟨a,b,e,rfl,_⟩ | ⟨a,b,w,rfl,_⟩)
     · cases h35
     · cases h34
   | true =>
     obtain ⟨r,q,rfl,_,_,hr,hq⟩ := fOr hs (beq_iff_eq.1 h34)
     simp only [nd_size,List.map_cons,List.map_nil,List.sum_cons,List.sum_nil] at hN
     simp only [nd_kids,at2_0,at2_1,bindO_some,iteO_true,iteO_false,F1271]
     cases h41 : r.op == 37 with
     | false =>
       refine dF ?_
       rintro (⟨a,b,e,h,_⟩ | ⟨a,b,w,h,_⟩)
       · simp only [pass5,nd_inj] at h; exact absurd h.1 (by decide)
       · simp only [part5,nd_inj,lst2] at h; obtain ⟨_,rfl,_⟩ := h; cases h41
     | true =>
       obtain ⟨a,b,rfl,_,_,ha,hb⟩ := formEq hr (beq_iff_eq.1 h41)
       simp only [nd_size,List.map_cons,List.map_nil,List.sum_cons,List.sum_nil] at hN
       simp only [nd_kids,at2_0,at2_1,bindO_some,iteO_true,sort36n (M + 3) a (by omega)]
       have no1 : ¬ K5i (nd 34 [nd 37 [a,b],q]) := by
         rintro ⟨a',b',e',h,_⟩
         simp only [pass5,nd_inj] at h; exact absurd h.1 (by decide)
       cases hsa : sortS a == 4 with
       | false =>
         refine dF ?_
         rintro (h | ⟨a',b',w,h,h4,_⟩)
         · exact no1 h
         · simp only [part5,nd_inj,lst2] at h; obtain ⟨_,⟨_,rfl,_⟩,_⟩ := h; rw [h4] at hsa; cases hsa
       | true =>
         obtain ⟨⟨e,ok⟩,hf,hok⟩ := first_some q.size q (M + 3) (Nat.le_refl _) (by omega) hq
         simp only [nd_kids,at2_0,at2_1,bindO_some,iteO_true,hf]
         have no2 : ∀ a' b' w,nd 34 [nd 37 [a,b],q] = part5 a' b' w → a' = a ∧ b' = b ∧ e = w ∧ ok = true := by
           intro a' b' w h
           simp only [part5,nd_inj,lst2] at h
           obtain ⟨_,⟨_,rfl,rfl⟩,rfl⟩ := h
           rw [first3 M 36 w a _ rfl] at hf
           injection hf with hf
           injection hf with h1 h2
           exact ⟨rfl,rfl,h1.symm,h2.symm⟩
         cases ok with
         | false =>
           refine dF ?_
           rintro (h | ⟨a',b',w,h,_⟩)
           · exact no1 h
           · exact absurd (no2 a' b' w h).2.2.2 (by decide)
         | true =>
           have hes : sortedR e = true := hok rfl
           simp only [iteO_true,wit1273 (M + 3) e (nd 37 [a,b]) (by simp only [nd_size,List.map_cons,List.map_nil,List.sum_cons,List.sum_nil]; omega),bindO_some]
           cases hw : (e.op == 1) && ((e.sortf == 1) && !(occ e.name (nd 37 [a,b]))) with
           | false =>
             refine dF ?_
             rintro (h | ⟨a',b',w,h,_,h1,h2,h3,h4⟩)
             · exact no1 h
             · obtain ⟨rfl,rfl,rfl,_⟩ := no2 a' b' w h
               rw [occ_nd (var_name hes h1),h1,h2,h3,h4] at hw
               cases hw
           | true =>
             simp only [Bool.and_eq_true,beq_iff_eq,Bool.not_eq_true'] at hw
             obtain ⟨w1,w2,w3⟩ := hw
             rw [occ_nd (var_name hes w1),Bool.or_eq_false_iff] at w3
             simp only [iteO_true,parts5,bindO_some]
             rw [eq20 (M + 3) _ _ (by simp only [nd_size,List.map_cons,List.map_nil,List.sum_cons,List.sum_nil]; omega)]
             refine dI ⟨fun h => .inr ⟨a,b,e,h,beq_iff_eq.1 hsa,w1,w2,w3.1,w3.2⟩, ?_⟩
             rintro (h | ⟨a',b',w,h,_⟩)
             · exact absurd h no1
             · obtain ⟨rfl,rfl,rfl,_⟩ := no2 a' b' w h
               exact h
end
end Go.Abs.Try
namespace Go.Abs.Try
set_option maxRecDepth 100000
theorem kd {k : Int} {ks : List Node} (h : sortedR (nd k ks) = true) {x : Node} (hx : x ∈ ks) : sortedR x = true := (sortedR_kids h).2.2 x hx
theorem sto_sorts {a i x : Node} (h : sortedR (nd 15 [a,i,x]) = true) : sortS a = 5 ∧ sortS i = 1 ∧ sortS x = 1 := by
 obtain ⟨a',i',x',e,h1,h2,h3,_⟩ := fSto h rfl
 simp only [nd_inj,lst3] at e
 obtain ⟨_,rfl,rfl,rfl⟩ := e
 exact ⟨h1,h2,h3⟩
section
open Classical
variable (N : Nat) (n : Node)
theorem srt1271 (k : Int) (p : Node) (hp : sortedR p = true) (hN : p.size < N) : (∃ a b,p = nd 37 [a,b] ∧ sortS a = k ∧ sortS a = sortS b ∧ sortedR a = true ∧ sortedR b = true ∧ F1271 N p k = some true) ∨ (F1271 N p k = some false ∧ ∀ a b,p = nd 37 [a,b] → sortS a ≠ k) := by
 unfold F1271
 cases h37 : p.op == 37 with
 | false => exact .inr ⟨rfl,fun a b e => by subst e; cases h37⟩
 | true =>
   obtain ⟨a,b,rfl,hab,_,ha,hb⟩ := formEq hp (beq_iff_eq.1 h37)
   simp only [nd_size,List.map_cons,List.map_nil,List.sum_cons,List.sum_nil] at hN
   simp only [nd_kids,at2_0,bindO_some,iteO_true,sort36n N a (by omega)]
   cases hk : sortS a == k with
   | true => exact .inl ⟨a,b,rfl,beq_iff_eq.1 hk,hab,ha,hb,rfl⟩
   | false =>
     refine .inr ⟨rfl,fun a' b' e h => ?_⟩
     simp only [nd_inj,lst2] at e
     obtain ⟨_,rfl,rfl⟩ := e
     rw [h] at hk; simp at hk
theorem p1233 (hs : sortedR n = true) (hN : n.size ≤ 1048576) (hB : 100000000 ≤ N) : F1233 N n = some (decide (K6 n)) := by
 unfold F1233
 cases h38 : n.op == 38 with
 | true =>
   obtain ⟨p,q,rfl,_,_,hp,hq⟩ := fLe hs (beq_iff_eq.1 h38)
   simp only [nd_size,List.map_cons,List.map_nil,List.sum_cons,List.sum_nil] at hN
   simp only [nd_kids,at2_0,at2_1,bindO_some,iteO_true]
   have hK : ∀ a,(K6 (nd 38 [p,q]) → nd 16 [a] = q → nd 38 [p,q] = cntN a) := by
     rintro a (⟨a',h⟩ | ⟨_,_,_,h⟩ | ⟨_,_,_,h,_⟩ | ⟨_,_,_,_,h⟩ | ⟨_,_,_,_,h⟩) e
     · rw [h]; simp only [cntN,nd_inj,lst2] at h
       obtain ⟨_,_,rfl⟩ := h
       simp only [nd_inj,lst1] at e
       rw [e.2]
     all_goals simp only [sto2,readN,sto0,sto1,nd_inj] at h; exact absurd h.1 (by decide)
   have hK2 : K6 (nd 38 [p,q]) → ∃ a,q = nd 16 [a] := by
     rintro (⟨a',h⟩ | ⟨_,_,_,h⟩ | ⟨_,_,_,h,_⟩ | ⟨_,_,_,_,h⟩ | ⟨_,_,_,_,h⟩)
     · simp only [cntN,nd_inj,lst2] at h; exact ⟨a',h.2.2⟩
     all_goals simp only [sto2,readN,sto0,sto1,nd_inj] at h; exact absurd h.1 (by decide)
   cases h16 : q.op == 16 with
   | false => exact dF fun h => by obtain ⟨a,rfl⟩ := hK2 h; cases h16
   | true =>
     obtain ⟨a,rfl,_,_⟩ := fLen hq (beq_iff_eq.1 h16)
     simp only [nd_kids,at1_0,bindO_some,iteO_true,cnt1253]
     rw [eq20 N _ _ (by simp only [nd_size,List.map_cons,List.map_nil,List.sum_cons,List.sum_nil] at hN ⊢; omega)]
     exact dI ⟨fun h => .inl ⟨a,h⟩,fun h => hK a h rfl⟩
 | false =>
   simp only [iteO_false]
   cases h37 : n.op == 37 with
   | true =>
     obtain ⟨p,q,rfl,_,_,hp,hq⟩ := formEq hs (beq_iff_eq.1 h37)
     simp only [nd_size,List.map_cons,List.map_nil,List.sum_cons,List.sum_nil] at hN
     simp only [nd_kids,at2_0,at2_1,bindO_some,iteO_true]
     have hK : K6 (nd 37 [p,q]) → ∃ a i x,nd 37 [p,q] = sto2 a i x := by
       rintro (⟨a',h⟩ | h | ⟨_,_,_,h,_⟩ | ⟨_,_,_,_,h⟩ | ⟨_,_,_,_,h⟩)
       · simp only [cntN,nd_inj] at h; exact absurd h.1 (by decide)
       · exact h
       all_goals simp only [readN,sto0,sto1,nd_inj] at h; exact absurd h.1 (by decide)
     cases h16 : p.op == 16 with
     | false => exact dF fun h => by obtain ⟨a,i,x,h⟩ := hK h; simp only [sto2,nd_inj,lst2] at h; obtain ⟨_,rfl,_⟩ := h; cases h16
     | true =>
       obtain ⟨s,rfl,_,hss⟩ := fLen hp (beq_iff_eq.1 h16)
       simp only [nd_kids,at1_0,bindO_some,iteO_true]
       cases h15 : s.op == 15 with
       | false => exact dF fun h => by obtain ⟨a,i,x,h⟩ := hK h; simp only [sto2,nd_inj,lst2,lst1] at h; obtain ⟨_,⟨_,rfl⟩,_⟩ := h; cases h15
       | true =>
         obtain ⟨a,i,x,rfl,_⟩ := fSto hss (beq_iff_eq.1 h15)
         simp only [nd_kids,at3_1,at3_2,bindO_some,iteO_true,stored1251]
         rw [eq20 N _ _ (by simp only [nd_size,List.map_cons,List.map_nil,List.sum_cons,List.sum_nil] at hN ⊢; omega)]
         refine dI ⟨fun h => .inr (.inl ⟨a,i,x,h⟩),fun h => ?_⟩
         obtain ⟨a',i',x',h⟩ := hK h
         simp only [sto2,nd_inj,lst2,lst1,lst3] at h
         obtain ⟨_,⟨_,_,rfl,rfl,rfl⟩,rfl⟩ := h
         rfl
   | false =>
     simp only [iteO_false]
     cases h35 : n.op == 35 with
     | true =>
       obtain ⟨p,q,rfl,_,_,hp,hq⟩ := fImp hs (beq_iff_eq.1 h35)
       simp only [nd_size,List.map_cons,List.map_nil,List.sum_cons,List.sum_nil] at hN
       simp only [nd_kids,at2_0,at2_1,bindO_some,iteO_true]
       have hK : K6 (nd 35 [p,q]) → (∃ i j a,p = nd 37 [i,j] ∧ q = nd 37 [nd 14 [a,i],nd 14 [a,j]] ∧ sortS i = 1) ∨ ∃ j a i x,p = nd 37 [i,j] ∧ q = nd 37 [nd 14 [nd 15 [a,i,x],j],x] := by
         rintro (⟨a',h⟩ | ⟨_,_,_,h⟩ | ⟨i,j,a,h,h1⟩ | ⟨j,a,i,x,h⟩ | ⟨_,_,_,_,h⟩)
         · simp only [cntN,nd_inj] at h; exact absurd h.1 (by decide)
         · simp only [sto2,nd_inj] at h; exact absurd h.1 (by decide)
         · simp only [readN,nd_inj (k := 35) (k' := 35),lst2] at h; exact .inl ⟨i,j,a,h.2.1,h.2.2,h1⟩
         · simp only [sto0,nd_inj (k := 35) (k' := 35),lst2] at h; exact .inr ⟨j,a,i,x,h.2.1,h.2.2⟩
         · simp only [sto1,nd_inj] at h; exact absurd h.1 (by decide)
       rcases srt1271 N 1 p hp (by omega) with ⟨i,j,rfl,hi1,_,hi,hj,e1⟩ | ⟨e1,hno⟩
       · rw [e1]
         simp only [bindO_some,iteO_true]
         simp only [nd_size,List.map_cons,List.map_nil,List.sum_cons,List.sum_nil] at hN
         rcases srt1271 N 1 q hq (by omega) with ⟨u,v,rfl,hu1,_,hu,hv,e2⟩ | ⟨e2,hno⟩
         · rw [e2]
           simp only [bindO_some,iteO_true,nd_kids,at2_0,at2_1]
           simp only [nd_size,List.map_cons,List.map_nil,List.sum_cons,List.sum_nil] at hN
           cases h14 : u.op == 14 with
           | false =>
             refine dF fun h => ?_
             rcases hK h with ⟨i',j',a,h1,h2,_⟩ | ⟨j',a,i',x,h1,h2⟩
             · simp only [nd_inj,lst2] at h2; obtain ⟨_,rfl,_⟩ := h2; cases h14
             · simp only [nd_inj,lst2] at h2; obtain ⟨_,rfl,_⟩ := h2; cases h14
           | true =>
             obtain ⟨a,k,rfl,_,_,ha,_⟩ := fSel hu (beq_iff_eq.1 h14)
             simp only [nd_kids,at2_0,at2_1,bindO_some,iteO_true,read1252]
             rw [eq20 N _ _ (by simp only [nd_size,List.map_cons,List.map_nil,List.sum_cons,List.sum_nil] at hN ⊢; omega)]
             by_cases hr : nd 35 [nd 37 [i,j],nd 37 [nd 14 [a,k],v]] = readN i j a
             · rw [decide_eq_true hr,bindO_some,iteO_true]
               exact dT (.inr (.inr (.inl ⟨i,j,a,hr,hi1⟩)))
             · rw [decide_eq_false hr,bindO_some,iteO_false]
               have hK' : K6 (nd 35 [nd 37 [i,j],nd 37 [nd 14 [a,k],v]]) → ∃ a' x,a = nd 15 [a',i,x] ∧ k = j ∧ v = x := by
                 intro h
                 rcases hK h with ⟨i',j',a',h1,h2,_⟩ | ⟨j',a',i',x,h1,h2⟩
                 · simp only [nd_inj,lst2] at h1 h2
                   obtain ⟨_,rfl,rfl⟩ := h1
                   obtain ⟨_,⟨_,rfl,rfl⟩,rfl⟩ := h2
                   exact absurd rfl hr
                 · simp only [nd_inj (k := 37) (k' := 37),nd_inj (k := 14) (k' := 14),lst2] at h1 h2
                   obtain ⟨_,rfl,rfl⟩ := h1
                   obtain ⟨_,⟨_,h3,rfl⟩,rfl⟩ := h2
                   exact ⟨a',v,h3,rfl,rfl⟩
               cases h15 : a.op == 15 with
               | false => exact dF fun h => by obtain ⟨a',x,rfl,_⟩ := hK' h; cases h15
               | true =>
                 obtain ⟨a',i',x,rfl,_⟩ := fSto ha (beq_iff_eq.1 h15)
                 simp only [stored1251,bindO_some,at3_0,at3_1,iteO_true]
                 rw [eq20 N _ _ (by simp only [nd_size,List.map_cons,List.map_nil,List.sum_cons,List.sum_nil] at hN ⊢; omega),bindO_some]
                 by_cases h0 : nd 35 [nd 37 [i,j],nd 37 [nd 14 [nd 15 [a',i',x],k],v]] = sto0 j a' i' x
                 · rw [decide_eq_true h0,iteO_true]
                   exact dT (.inr (.inr (.inr (.inl ⟨j,a',i',x,h0⟩))))
                 · rw [decide_eq_false h0,iteO_false,eq20 N _ _ (by simp only [nd_size,List.map_cons,List.map_nil,List.sum_cons,List.sum_nil] at hN ⊢; omega),bindO_some]
                   have h1 : nd 35 [nd 37 [i,j],nd 37 [nd 14 [nd 15 [a',i',x],k],v]] ≠ sto1 j a' i' x := fun h => by simp only [sto1,nd_inj] at h; exact absurd h.1 (by decide)
                   rw [decide_eq_false h1]
                   refine dF fun h => ?_
                   obtain ⟨a2,x2,h3,rfl,rfl⟩ := hK' h
                   simp only [nd_inj,lst3] at h3
                   obtain ⟨_,rfl,rfl,rfl⟩ := h3
                   exact h0 rfl
         · rw [e2]
           refine dF fun h => ?_
           rcases hK h with ⟨i',j',a,h1,h2,_⟩ | ⟨j',a,i',x,h1,h2⟩
           · exact hno _ _ h2 (sortS_nd 14 _ (by decide))
           · exact hno _ _ h2 (sortS_nd 14 _ (by decide))
       · rw [e1]
         refine dF fun h => ?_
         rcases hK h with ⟨i',j',a,h1,h2,h3⟩ | ⟨j',a,i',x,h1,h2⟩
         · exact hno _ _ h1 h3
         · subst h2
           exact hno _ _ h1 (sto_sorts (kd (kd hq (x := nd 14 [nd 15 [a,i',x],j']) (by simp)) (x := nd 15 [a,i',x]) (by simp))).2.1
     | false =>
       simp only [iteO_false]
       cases h34 : n.op == 34 with
       | false =>
         refine dF ?_
         rintro (⟨a',rfl⟩ | ⟨_,_,_,rfl⟩ | ⟨_,_,_,rfl,_⟩ | ⟨_,_,_,_,rfl⟩ | ⟨_,_,_,_,rfl⟩)
         · cases h38
         · cases h37
         · cases h35
         · cases h35
         · cases h34
       | true =>
         obtain ⟨p,q,rfl,_,_,hp,hq⟩ := fOr hs (beq_iff_eq.1 h34)
         simp only [nd_size,List.map_cons,List.map_nil,List.sum_cons,List.sum_nil] at hN
         simp only [nd_kids,at2_0,at2_1,bindO_some,iteO_true]
         have hK : K6 (nd 34 [p,q]) → ∃ j a i x,p = nd 37 [i,j] ∧ q = nd 37 [nd 14 [nd 15 [a,i,x],j],nd 14 [a,j]] := by
           rintro (⟨a',h⟩ | ⟨_,_,_,h⟩ | ⟨i,j,a,h,h1⟩ | ⟨j,a,i,x,h⟩ | ⟨j,a,i,x,h⟩)
           · simp only [cntN,nd_inj] at h; exact absurd h.1 (by decide)
           · simp only [sto2,nd_inj] at h; exact absurd h.1 (by decide)
           · simp only [readN,nd_inj] at h; exact absurd h.1 (by decide)
           · simp only [sto0,nd_inj] at h; exact absurd h.1 (by decide)
           · simp only [sto1,nd_inj (k := 34) (k' := 34),lst2] at h; exact ⟨j,a,i,x,h.2.1,h.2.2⟩
         rcases srt1271 N 1 p hp (by omega) with ⟨i,j,rfl,hi1,_,hi,hj,e1⟩ | ⟨e1,hno⟩
         · rw [e1]
           simp only [bindO_some,iteO_true]
           simp only [nd_size,List.map_cons,List.map_nil,List.sum_cons,List.sum_nil] at hN
           rcases srt1271 N 1 q hq (by omega) with ⟨u,v,rfl,hu1,_,hu,hv,e2⟩ | ⟨e2,hno⟩
           · rw [e2]
             simp only [bindO_some,iteO_true,nd_kids,at2_0,at2_1]
             simp only [nd_size,List.map_cons,List.map_nil,List.sum_cons,List.sum_nil] at hN
             cases h14 : u.op == 14 with
             | false => exact dF fun h => by obtain ⟨j',a,i',x,h1,h2⟩ := hK h; simp only [nd_inj,lst2] at h2; obtain ⟨_,rfl,_⟩ := h2; cases h14
             | true =>
               obtain ⟨a,k,rfl,_,_,ha,_⟩ := fSel hu (beq_iff_eq.1 h14)
               simp only [nd_kids,at2_0,at2_1,bindO_some,iteO_true]
               have hK' : K6 (nd 34 [nd 37 [i,j],nd 37 [nd 14 [a,k],v]]) → ∃ a' x,a = nd 15 [a',i,x] ∧ k = j ∧ v = nd 14 [a',j] := by
                 intro h
                 obtain ⟨j',a',i',x,h1,h2⟩ := hK h
                 simp only [nd_inj (k := 37) (k' := 37),nd_inj (k := 14) (k' := 14),lst2] at h1 h2
                 obtain ⟨_,rfl,rfl⟩ := h1
                 obtain ⟨_,⟨_,h3,rfl⟩,h4⟩ := h2
                 exact ⟨a',x,h3,rfl,h4⟩
               cases h15 : a.op == 15 with
               | false => exact dF fun h => by obtain ⟨a',x,rfl,_⟩ := hK' h; cases h15
               | true =>
                 obtain ⟨a',i',x,rfl,_⟩ := fSto ha (beq_iff_eq.1 h15)
                 simp only [stored1251,bindO_some,at3_0,at3_1,iteO_true]
                 have h1 : nd 34 [nd 37 [i,j],nd 37 [nd 14 [nd 15 [a',i',x],k],v]] ≠ sto0 j a' i' x := fun h => by simp only [sto0,nd_inj] at h; exact absurd h.1 (by decide)
                 rw [eq20 N _ _ (by simp only [nd_size,List.map_cons,List.map_nil,List.sum_cons,List.sum_nil] at hN ⊢; omega),bindO_some,decide_eq_false h1,iteO_false,
                   eq20 N _ _ (by simp only [nd_size,List.map_cons,List.map_nil,List.sum_cons,List.sum_nil] at hN ⊢; omega),bindO_some]
                 refine dI ⟨fun h => .inr (.inr (.inr (.inr ⟨j,a',i',x,h⟩))),fun h => ?_⟩
                 obtain ⟨a2,x2,h3,rfl,rfl⟩ := hK' h
                 simp only [nd_inj,lst3] at h3
                 obtain ⟨_,rfl,rfl,rfl⟩ := h3
                 rfl
           · rw [e2]
             refine dF fun h => ?_
             obtain ⟨j',a,i',x,h1,h2⟩ := hK h
             exact hno _ _ h2 (sortS_nd 14 _ (by decide))
         · rw [e1]
           refine dF fun h => ?_
           obtain ⟨j',a,i',x,h1,h2⟩ := hK h
           subst h2
           exact hno _ _ h1 (sto_sorts (kd (kd hq (x := nd 14 [nd 15 [a,i',x],j']) (by simp)) (x := nd 15 [a,i',x]) (by simp))).2.1
end
end Go.Abs.Try
namespace Go.Abs.Try
set_option maxRecDepth 100000
section
open Classical
def selI (x : Node) : Option (Node × Bool) :=
 iteO (x.op == 37) (bindO (atO x.kids 0) fun y => iteO (y.op == 14) (bindO (atO y.kids 1) fun z => some (z,true)) (some (nd 0 [],false))) (some (nd 0 [],false))
theorem selI_ok {x : Node} (h : sortedR x = true) : ∃ r : Node × Bool,selI x = some r ∧ (r.2 = true → sortedR r.1 = true ∧ r.1.size ≤ x.size) := by
 unfold selI
 cases h37 : x.op == 37 with
 | false => exact ⟨_,rfl,fun h => by cases h⟩
 | true =>
   obtain ⟨a,b,rfl,_,_,ha,hb⟩ := formEq h (beq_iff_eq.1 h37)
   simp only [nd_kids,at2_0,bindO_some,iteO_true]
   cases h14 : a.op == 14 with
   | false => exact ⟨_,rfl,fun h => by cases h⟩
   | true =>
     obtain ⟨u,i,rfl,_,_,hu,hi⟩ := fSel ha (beq_iff_eq.1 h14)
     refine ⟨(i,true),rfl,fun _ => ⟨hi, ?_⟩⟩
     simp only [nd_size,List.map_cons,List.map_nil,List.sum_cons,List.sum_nil]; omega
theorem selI_not {x : Node} (h : sortedR x = true) (ho : (x.op == 32) = true) : ∃ y,x = nd 32 [y] ∧ sortedR y = true := by
 obtain ⟨a,e,_,ha⟩ := fNot h (beq_iff_eq.1 ho); exact ⟨a,e,ha⟩
def selN (x : Node) : Option (Node × Bool) := iteO (x.op == 32) (bindO (atO x.kids 0) selI) (selI x)
theorem selN_ok {x : Node} (h : sortedR x = true) : ∃ r : Node × Bool,selN x = some r ∧ (r.2 = true → sortedR r.1 = true ∧ r.1.size ≤ x.size) := by
 unfold selN
 cases h32 : x.op == 32 with
 | false => exact selI_ok h
 | true =>
   obtain ⟨y,rfl,hy⟩ := selI_not h h32
   obtain ⟨r,e,hr⟩ := selI_ok hy
   refine ⟨r, ?_,fun h => ⟨(hr h).1,Nat.le_trans (hr h).2 ?_⟩⟩
   · simp only [nd_kids,at1_0,bindO_some,iteO_true,e]
   · simp only [nd_size,List.map_cons,List.map_nil,List.sum_cons,List.sum_nil]; omega
theorem idx1236 (n : Node) : F1236 n = bindO (atO n.kids 1) fun x => iteO (x.op == 33) (bindO (atO x.kids 1) selN) (iteO (x.op == 34) (bindO (atO x.kids 1) selN) (some (nd 0 [],false))) := rfl
theorem idx_ok {p q : Node} (k : Int) (h : sortedR q = true) : ∃ r : Node × Bool,F1236 (nd k [p,q]) = some r ∧ (r.2 = true → sortedR r.1 = true ∧ r.1.size ≤ q.size) := by
 rw [idx1236]
 simp only [nd_kids,at2_1,bindO_some]
 cases h33 : q.op == 33 with
 | true =>
   obtain ⟨a,b,rfl,_,_,ha,hb⟩ := fAnd h (beq_iff_eq.1 h33)
   obtain ⟨r,e,hr⟩ := selN_ok hb
   refine ⟨r, ?_,fun h => ⟨(hr h).1,Nat.le_trans (hr h).2 ?_⟩⟩
   · simp only [nd_kids,at2_1,bindO_some,iteO_true,e]
   · simp only [nd_size,List.map_cons,List.map_nil,List.sum_cons,List.sum_nil]; omega
 | false =>
   cases h34 : q.op == 34 with
   | true =>
     obtain ⟨a,b,rfl,_,_,ha,hb⟩ := fOr h (beq_iff_eq.1 h34)
     obtain ⟨r,e,hr⟩ := selN_ok hb
     refine ⟨r, ?_,fun h => ⟨(hr h).1,Nat.le_trans (hr h).2 ?_⟩⟩
     · simp only [nd_kids,at2_1,bindO_some,iteO_true,iteO_false,e]
     · simp only [nd_size,List.map_cons,List.map_nil,List.sum_cons,List.sum_nil]; omega
   | false => exact ⟨_,rfl,fun h => by cases h⟩
theorem idx_agree (a b i : Node) : F1236 (agreeN a b i) = some (i,true) := rfl
theorem idx_diff (a b w : Node) : F1236 (diffN a b w) = some (w,true) := rfl
variable (N : Nat) (n : Node)
theorem p1234 (hs : sortedR n = true) (hN : n.size ≤ 1048576) (hB : 100000000 ≤ N) : F1234 N n = some (decide (K7i n ∨ K7o n)) := by
 unfold F1234
 cases h35 : n.op == 35 with
 | true =>
   obtain ⟨p,q,rfl,_,_,hp,hq⟩ := fImp hs (beq_iff_eq.1 h35)
   simp only [nd_size,List.map_cons,List.map_nil,List.sum_cons,List.sum_nil] at hN
   simp only [nd_kids,at2_0,at2_1,bindO_some,iteO_true]
   have no : ¬ K7o (nd 35 [p,q]) := by
     rintro ⟨_,_,_,h,_⟩
     simp only [diffN,nd_inj] at h; exact absurd h.1 (by decide)
   rcases srt1271 N 5 p hp (by omega) with ⟨a,b,rfl,h5,_,ha,hb,e1⟩ | ⟨e1,hno⟩
   · rw [e1]
     simp only [nd_size,List.map_cons,List.map_nil,List.sum_cons,List.sum_nil] at hN
     simp only [bindO_some,iteO_true,nd_kids,at2_0,at2_1]
     obtain ⟨⟨i,ok⟩,e2,hr⟩ := idx_ok (p := nd 37 [a,b]) 35 hq
     have un : ∀ a' b' i',nd 35 [nd 37 [a,b],q] = agreeN a' b' i' → a' = a ∧ b' = b ∧ i = i' ∧ ok = true := by
       intro a' b' i' h
       rw [h,idx_agree] at e2
       injection e2 with e2
       injection e2 with e3 e4
       simp only [agreeN,nd_inj,lst2] at h
       exact ⟨h.2.1.2.1.symm,h.2.1.2.2.symm,e3.symm,e4.symm⟩
     rw [e2]
     simp only [bindO_some]
     cases ok with
     | false =>
       refine dF ?_
       rintro (⟨a',b',i',h,_⟩ | h)
       · exact absurd (un a' b' i' h).2.2.2 (by decide)
       · exact no h
     | true =>
       simp only [iteO_true,agree1254,bindO_some]
       rw [eq20 N _ _ (by simp only [nd_size,List.map_cons,List.map_nil,List.sum_cons,List.sum_nil] at hN ⊢; omega)]
       refine dI ⟨fun h => .inl ⟨a,b,i,h,h5⟩, ?_⟩
       rintro (⟨a',b',i',h,_⟩ | h)
       · obtain ⟨rfl,rfl,rfl,_⟩ := un a' b' i' h
         exact h
       · exact absurd h no
   · rw [e1]
     refine dF ?_
     rintro (⟨a,b,i,h,h5⟩ | h)
     · simp only [agreeN,nd_inj (k := 35) (k' := 35),lst2] at h
       exact hno _ _ h.2.1 h5
     · exact no h
 | false =>
   simp only [iteO_false]
   cases h34 : n.op == 34 with
   | false =>
     refine dF ?_
     rintro (⟨a,b,i,rfl,_⟩ | ⟨a,b,w,rfl,_⟩)
     · cases h35
     · cases h34
   | true =>
     obtain ⟨p,q,rfl,_,_,hp,hq⟩ := fOr hs (beq_iff_eq.1 h34)
     simp only [nd_size,List.map_cons,List.map_nil,List.sum_cons,List.sum_nil] at hN
     simp only [nd_kids,at2_0,at2_1,bindO_some,iteO_true]
     have no : ¬ K7i (nd 34 [p,q]) := by
       rintro ⟨_,_,_,h,_⟩
       simp only [agreeN,nd_inj] at h; exact absurd h.1 (by decide)
     rcases srt1271 N 5 p hp (by omega) with ⟨a,b,rfl,h5,_,ha,hb,e1⟩ | ⟨e1,hno⟩
     · rw [e1]
       simp only [nd_size,List.map_cons,List.map_nil,List.sum_cons,List.sum_nil] at hN
       simp only [bindO_some,iteO_true,nd_kids,at2_0,at2_1]
       obtain ⟨⟨i,ok⟩,e2,hr⟩ := idx_ok (p := nd 37 [a,b]) 34 hq
       have un : ∀ a' b' i',nd 34 [nd 37 [a,b],q] = diffN a' b' i' → a' = a ∧ b' = b ∧ i = i' ∧ ok = true := by
         intro a' b' i' h
         rw [h,idx_diff] at e2
         injection e2 with e2
         injection e2 with e3 e4
         simp only [diffN,nd_inj,lst2] at h
         exact ⟨h.2.1.2.1.symm,h.2.1.2.2.symm,e3.symm,e4.symm⟩
       rw [e2]
       simp only [bindO_some]
       cases ok with
       | false =>
         refine dF ?_
         rintro (h | ⟨a',b',i',h,_⟩)
         · exact no h
         · exact absurd (un a' b' i' h).2.2.2 (by decide)
       | true =>
         have his : sortedR i = true := (hr rfl).1
         have hiz : i.size ≤ q.size := (hr rfl).2
         simp only [iteO_true,wit1273 N i (nd 37 [a,b]) (by simp only [nd_size,List.map_cons,List.map_nil,List.sum_cons,List.sum_nil]; omega),bindO_some]
         cases hw : (i.op == 1) && ((i.sortf == 1) && !(occ i.name (nd 37 [a,b]))) with
         | false =>
           refine dF ?_
           rintro (h | ⟨a',b',w,h,_,h1,h2,h3,h4⟩)
           · exact no h
           · obtain ⟨rfl,rfl,rfl,_⟩ := un a' b' w h
             rw [occ_nd (var_name his h1),h1,h2,h3,h4] at hw
             cases hw
         | true =>
           simp only [Bool.and_eq_true,beq_iff_eq,Bool.not_eq_true'] at hw
           obtain ⟨w1,w2,w3⟩ := hw
           rw [occ_nd (var_name his w1),Bool.or_eq_false_iff] at w3
           simp only [iteO_true,diff1274,bindO_some]
           rw [eq20 N _ _ (by simp only [nd_size,List.map_cons,List.map_nil,List.sum_cons,List.sum_nil] at hN ⊢; omega)]
           refine dI ⟨fun h => .inr ⟨a,b,i,h,h5,w1,w2,w3.1,w3.2⟩, ?_⟩
           rintro (h | ⟨a',b',w,h,_⟩)
           · exact absurd h no
           · obtain ⟨rfl,rfl,rfl,_⟩ := un a' b' w h
             exact h
     · rw [e1]
       refine dF ?_
       rintro (h | ⟨a,b,i,h,h5,_⟩)
       · exact no h
       · simp only [diffN,nd_inj (k := 34) (k' := 34),lst2] at h
         exact hno _ _ h.2.1 h5
theorem p1235 (hs : sortedR n = true) (hN : n.size ≤ 1048576) (hB : 100000000 ≤ N) : F1235 N n = some (decide (K8 n)) := by
 unfold F1235
 cases h35 : n.op == 35 with
 | true =>
   obtain ⟨p,q,rfl,_,_,hp,hq⟩ := fImp hs (beq_iff_eq.1 h35)
   simp only [nd_size,List.map_cons,List.map_nil,List.sum_cons,List.sum_nil] at hN
   simp only [nd_kids,at2_0,at2_1,bindO_some,iteO_true]
   have hK : K8 (nd 35 [p,q]) → ∃ c x y,q = nd 37 [nd 8 [c,x,y],x] ∧ p = c := by
     rintro ⟨c,x,y,h | h⟩
     · simp only [cho0,nd_inj (k := 35) (k' := 35),lst2] at h; exact ⟨c,x,y,h.2.2,h.2.1⟩
     · simp only [cho1,nd_inj] at h; exact absurd h.1 (by decide)
   cases h37 : q.op == 37 with
   | false => exact dF fun h => by obtain ⟨c,x,y,rfl,_⟩ := hK h; cases h37
   | true =>
     obtain ⟨u,v,rfl,_,_,hu,hv⟩ := formEq hq (beq_iff_eq.1 h37)
     simp only [nd_kids,at2_0,at2_1,bindO_some,iteO_true]
     cases h8 : u.op == 8 with
     | false => exact dF fun h => by obtain ⟨c,x,y,h,_⟩ := hK h; simp only [nd_inj,lst2] at h; obtain ⟨_,rfl,_⟩ := h; cases h8
     | true =>
       obtain ⟨c,x,y,rfl,_⟩ := formIte hu (beq_iff_eq.1 h8)
       simp only [chosen1255,bindO_some,at2_0,at2_1,iteO_true]
       rw [eq20 N _ _ (by simp only [nd_size,List.map_cons,List.map_nil,List.sum_cons,List.sum_nil] at hN ⊢; omega),bindO_some]
       by_cases h0 : nd 35 [p,nd 37 [nd 8 [c,x,y],v]] = cho0 c x y
       · rw [decide_eq_true h0,iteO_true]
         exact dT ⟨c,x,y,.inl h0⟩
       · rw [decide_eq_false h0,iteO_false,eq20 N _ _ (by simp only [nd_size,List.map_cons,List.map_nil,List.sum_cons,List.sum_nil] at hN ⊢; omega),bindO_some]
         refine dI ⟨fun h => ⟨c,x,y,.inr h⟩,fun h => ?_⟩
         obtain ⟨c',x',y',h1,h2⟩ := hK h
         simp only [nd_inj,lst2,lst3] at h1
         obtain ⟨_,⟨_,rfl,rfl,rfl⟩,rfl⟩ := h1
         subst h2
         exact absurd rfl h0
 | false =>
   simp only [iteO_false]
   cases h34 : n.op == 34 with
   | false =>
     refine dF ?_
     rintro ⟨c,x,y,rfl | rfl⟩
     · cases h35
     · cases h34
   | true =>
     obtain ⟨p,q,rfl,_,_,hp,hq⟩ := fOr hs (beq_iff_eq.1 h34)
     simp only [nd_size,List.map_cons,List.map_nil,List.sum_cons,List.sum_nil] at hN
     simp only [nd_kids,at2_0,at2_1,bindO_some,iteO_true]
     have hK : K8 (nd 34 [p,q]) → ∃ c x y,q = nd 37 [nd 8 [c,x,y],y] ∧ p = c := by
       rintro ⟨c,x,y,h | h⟩
       · simp only [cho0,nd_inj] at h; exact absurd h.1 (by decide)
       · simp only [cho1,nd_inj (k := 34) (k' := 34),lst2] at h; exact ⟨c,x,y,h.2.2,h.2.1⟩
     cases h37 : q.op == 37 with
     | false => exact dF fun h => by obtain ⟨c,x,y,rfl,_⟩ := hK h; cases h37
     | true =>
       obtain ⟨u,v,rfl,_,_,hu,hv⟩ := formEq hq (beq_iff_eq.1 h37)
       simp only [nd_kids,at2_0,at2_1,bindO_some,iteO_true]
       cases h8 : u.op == 8 with
       | false => exact dF fun h => by obtain ⟨c,x,y,h,_⟩ := hK h; simp only [nd_inj,lst2] at h; obtain ⟨_,rfl,_⟩ := h; cases h8
       | true =>
         obtain ⟨c,x,y,rfl,_⟩ := formIte hu (beq_iff_eq.1 h8)
         simp only [chosen1255,bindO_some,at2_0,at2_1,iteO_true]
         have h0 : nd 34 [p,nd 37 [nd 8 [c,x,y],v]] ≠ cho0 c x y := fun h => by simp only [cho0,nd_inj] at h; exact absurd h.1 (by decide)
         rw [eq20 N _ _ (by simp only [nd_size,List.map_cons,List.map_nil,List.sum_cons,List.sum_nil] at hN ⊢; omega),bindO_some,decide_eq_false h0,iteO_false,
           eq20 N _ _ (by simp only [nd_size,List.map_cons,List.map_nil,List.sum_cons,List.sum_nil] at hN ⊢; omega),bindO_some]
         refine dI ⟨fun h => ⟨c,x,y,.inr h⟩,fun h => ?_⟩
         obtain ⟨c',x',y',h1,h2⟩ := hK h
         simp only [nd_inj,lst2,lst3] at h1
         obtain ⟨_,⟨_,rfl,rfl,rfl⟩,rfl⟩ := h1
         subst h2
         rfl
end
end Go.Abs.Try
namespace Go.Abs.Try
set_option maxRecDepth 100000
section
variable (N : Nat) (n : Node)
end
def eqR (a b : Node) : Node := nd (bif sortS a == 2 then 36 else 37) [a,b]
end Go.Abs.Try
namespace Go.Abs.Try
set_option maxRecDepth 100000
section
open Classical
variable (N : Nat) (n : Node)
theorem sortS_ite (c x y : Node) : sortS (nd 8 [c,x,y]) = sortS x := by rw [sortS_eq]; rfl
end
end Go.Abs.Try
