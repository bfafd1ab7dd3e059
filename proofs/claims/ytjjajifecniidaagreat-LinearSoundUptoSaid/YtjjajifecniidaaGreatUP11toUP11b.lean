import Derived.Test.YtjjajifecniidaaGreatUP1toUP10
import Derived.Test.YtjjajifecniidaaGreatUD
set_option linter.unusedSimpArgs false
set_option linter.unusedVariables false
namespace Go.Abs.Try
set_option maxRecDepth 100000
end Go.Abs.Try
namespace Go.Abs.Try
set_option maxRecDepth 100000
def LeO {α : Type} (a b : Option α) : Prop := ∀ r, a = some r → b = some r
theorem leR {α : Type} (a : Option α) : LeO a a := fun _ h => h
theorem leN {α : Type} (b : Option α) : LeO none b := fun _ h => by cases h
theorem leB {α β : Type} {a a' : Option α} {f f' : α → Option β} (h : LeO a a') (hf : ∀ x, LeO (f x) (f' x)) : LeO (bindO a f) (bindO a' f') := by
 intro r hr
 obtain ⟨x, hx, hy⟩ := bindO_eq hr
 rw [h x hx]; exact hf x r hy
theorem leI {α : Type} {b : Bool} {x x' y y' : Option α} (h1 : LeO x x') (h2 : LeO y y') : LeO (iteO b x y) (iteO b x' y') := by
 cases b
 · exact h2
 · exact h1
theorem leF {S α β : Type} {st st' : S → Nat → α → Option (Sum S β)} {fin fin' : S → Option β} (h : ∀ s i x, LeO (st s i x) (st' s i x)) (hf : ∀ s, LeO (fin s) (fin' s)) : ∀ {N M : Nat} (_ : N ≤ M) (l : List α) (i : Nat) (s : S), LeO (foldN st fin N l i s) (foldN st' fin' M l i s)
 | 0, _, _, _, _, _ => leN _
 | N + 1, 0, hh, _, _, _ => by omega
 | N + 1, M + 1, hh, [], i, s => hf s
 | N + 1, M + 1, hh, x :: xs, i, s => leB (h s i x) fun r => by
   cases r with
   | inl s' => exact leF h hf (by omega) xs (i + 1) s'
   | inr y => exact leR _
theorem leW {S β : Type} {st st' : S → Option (Sum S β)} (h : ∀ s, LeO (st s) (st' s)) : ∀ {N M : Nat} (_ : N ≤ M) (s : S), LeO (whileN st N s) (whileN st' M s)
 | 0, _, _, _ => leN _
 | N + 1, 0, hh, _ => by omega
 | N + 1, M + 1, hh, s => leB (h s) fun r => by
   cases r with
   | inl s' => exact leW h (by omega) s'
   | inr y => exact leR _
theorem mF27 : ∀ {N M : Nat} (_ : N ≤ M) (n : Node), LeO (F27 N n) (F27 M n)
 | 0, _, _, _ => leN _
 | N + 1, 0, h, _ => by omega
 | N + 1, M + 1, h, n => by
   have h' : N ≤ M := by omega
   simp only [F27, F27b]
   refine leF (fun _ _ x => ?_) (fun _ => leR _) h' _ _ _
   simp only [F27_s1]
   exact leB (mF27 h' x) fun _ => leR _
theorem mF39 : ∀ {N M : Nat} (_ : N ≤ M) (n : Node), LeO (F39 N n) (F39 M n)
 | 0, _, _, _ => leN _
 | N + 1, 0, h, _ => by omega
 | N + 1, M + 1, h, n => by
   have h' : N ≤ M := by omega
   simp only [F39, F39b]
   refine leF (fun _ _ x => ?_) (fun _ => leR _) h' _ _ _
   simp only [F39_s1]
   exact leB (mF39 h' x) fun _ => leR _
theorem mF28 : ∀ {N M : Nat} (_ : N ≤ M) (n : Node), LeO (F28 N n) (F28 M n)
 | 0, _, _, _ => leN _
 | N + 1, 0, h, _ => by omega
 | N + 1, M + 1, h, n => by
   have h' : N ≤ M := by omega
   have ih : ∀ n, LeO (F28 N n) (F28 M n) := mF28 h'
   simp only [F28, F28b]
   repeat' (first | exact leR _ | exact ih _ | (refine leI ?_ ?_) | (refine leB ?_ fun _ => ?_))
theorem mF140 {N M : Nat} (h : N ≤ M) (l : List Decl) (d : Decl) : LeO (F140 N l d) (F140 M l d) := leF (fun _ _ _ => leR _) (fun _ => leR _) h _ _ _
theorem mF95 : ∀ {N M : Nat} (_ : N ≤ M) (l : List Decl) (n : Node), LeO (F95 N l n) (F95 M l n)
 | 0, _, _, _, _ => leN _
 | N + 1, 0, h, _, _ => by omega
 | N + 1, M + 1, h, l, n => by
   have h' : N ≤ M := by omega
   have ih : ∀ l n, LeO (F95 N l n) (F95 M l n) := mF95 h'
   simp only [F95, F95b]
   refine leI (leB (mF140 h' _ _) fun _ => leF (fun _ _ x => ?_) (fun _ => leR _) h' _ _ _) (leF (fun _ _ x => ?_) (fun _ => leR _) h' _ _ _)
   · exact leB (ih _ _) fun _ => leR _
   · exact leB (ih _ _) fun _ => leR _
theorem mF92 : ∀ {N M : Nat} (_ : N ≤ M) (n : Node) (s : ByteArray), LeO (F92 N n s) (F92 M n s)
 | 0, _, _, _, _ => leN _
 | N + 1, 0, h, _, _ => by omega
 | N + 1, M + 1, h, n, s => by
   have h' : N ≤ M := by omega
   have ih : ∀ n s, LeO (F92 N n s) (F92 M n s) := mF92 h'
   simp only [F92, F92b]
   refine leI (leI (leI (leR _) (leF (fun _ _ x => ?_) (fun _ => leR _) h' _ _ _)) (leF (fun _ _ x => ?_) (fun _ => leR _) h' _ _ _)) (leF (fun _ _ x => ?_) (fun _ => leR _) h' _ _ _)
   all_goals exact leB (ih _ _) fun _ => leR _
theorem mF41 {N M : Nat} (h : N ≤ M) (n : Node) : LeO (F41 N n) (F41 M n) := by
 simp only [F41, F47]
 refine leB (leB (mF95 h _ _) fun _ => leR _) fun r => leW (fun s => ?_) h _
 simp only [F41_s1]
 refine leI (leR _) (leB (leF (fun _ _ x => ?_) (fun _ => leR _) h _ _ _) fun _ => leR _)
 exact leB (mF92 h _ _) fun _ => leR _
theorem mF76 {N M : Nat} (h : N ≤ M) (s : ByteArray) : LeO (F76 N s) (F76 M s) := leB (leR _) fun _ => leF (fun _ _ _ => leR _) (fun _ => leR _) h _ _ _
theorem mF17 {N M : Nat} (h : N ≤ M) (s : ByteArray) : LeO (F17 N s) (F17 M s) := by
 simp only [F17]
 exact leI (leR _) (leI (leR _) (leI (leB (leR _) fun _ => leI (leB (mF76 h _) fun _ => leI (leR _) (leW (fun _ => leR _) h _)) (leR _)) (leR _)))
theorem mF118 {N M : Nat} (h : N ≤ M) (n : Node) : LeO (F118 N n) (F118 M n) := by
 simp only [F118]
 exact leI (leB (mF17 h _) fun _ => leR _) (leI (leB (mF17 h _) fun _ => leR _) (leR _))
theorem mF72 : ∀ {N M : Nat} (_ : N ≤ M) (n : Node), LeO (F72 N n) (F72 M n)
 | 0, _, _, _ => leN _
 | N + 1, 0, h, _ => by omega
 | N + 1, M + 1, h, n => by
   have h' : N ≤ M := by omega
   have ih : ∀ n, LeO (F72 N n) (F72 M n) := mF72 h'
   have h28 : ∀ n, LeO (F28 N n) (F28 M n) := mF28 h'
   simp only [F72, F72b]
   refine leB (mF118 h' _) fun _ => leI (leF (fun _ _ x => leB (ih _) fun _ => leR _) (fun s => ?_) h' _ _ _) (leR _)
   simp only [F72_f1]
   repeat' (first | exact leR _ | exact h28 _ | (refine leI ?_ ?_) | (refine leF (fun _ _ x => leB (leR _) fun _ => leB (h28 _) fun _ => leR _) (fun s => leR _) h' _ _ _) | (refine leB ?_ fun _ => ?_))
theorem mF15 {N M : Nat} (h : N ≤ M) (n : Node) (s : Int) : LeO (F15 N n s) (F15 M n s) := by
 simp only [F15]
 exact leI (leR _) (leI (leR _) (leB (mF27 h _) fun _ => leI (leR _) (leB (mF39 h _) fun _ => leI (leR _) (leB (mF72 h _) fun _ => leI (leB (mF41 h _) fun _ => leI (leI (leR _) (leB (mF28 h _) fun _ => leR _)) (leR _)) (leR _)))))
theorem mF63 {N M : Nat} (h : N ≤ M) (n : Node) : LeO (F63 N n) (F63 M n) := by
 simp only [F63]
 exact leI (leR _) (leI (leR _) (leI (leR _) (leI (leR _) (leI (leR _) (leB (mF28 h _) fun _ => leB (mF15 h _ _) fun _ => leR _)))))
end Go.Abs.Try
namespace Go.Abs.Try
set_option maxRecDepth 100000
theorem check_sorted (N : Nat) (n : Node) (hN : 4611686018400000000 ≤ N ∧ N ≤ 4611686018427387904) (hb : n.size ≤ 1048576) (h : F15 N n 0 = some 0) : sortedR n = true := by
 obtain ⟨k, hk, _, _⟩ := levels39 N n (by omega) (by omega)
 have h27 := size27 N n (by omega) (by omega)
 have h72 := sorted72 N n (by omega)
 have h0 : decide ((0 : Int) < 0) = false := rfl
 have h5 : decide ((0 : Int) > 5) = false := rfl
 simp only [F15, h0, h5, iteO_false, hk, h27, h72, bindO_some] at h
 cases hs : sortedR n with
 | true => rfl
 | false =>
   rw [hs] at h
   cases hx : decide ((n.size : Int) > 4000) with
   | true => rw [hx] at h; simp only [iteO_true] at h; injection h with h; omega
   | false =>
     cases hy : decide (k > 100) with
     | true => rw [hx, hy] at h; simp only [iteO_true, iteO_false] at h; injection h with h; omega
     | false => rw [hx, hy] at h; simp only [iteO_true, iteO_false] at h; injection h with h; omega
def atomB (n : Node) : Bool := (F63 4611686018427387904 n).getD false
theorem atom_same (N : Nat) (n : Node) (hN : 4611686018400000000 ≤ N ∧ N ≤ 4611686018427387904) (hb : n.size ≤ 1048576) : F62 N n = some (atomB n) ∧ F63 N n = some (atomB n) := by
 obtain ⟨r, h14, h15⟩ := check_same N n 0 hN hb
 have h36 := sort36n N n (by omega)
 have h28 := sort28 N n (by omega)
 have key : ∃ b, F62 N n = some b ∧ F63 N n = some b := by
   simp only [F62, F63, h14, h15, h36, h28, bindO_some]
   cases n.op == 2 <;> cases n.op == 4 <;> cases n.op == 5 <;> cases n.op == 6 <;> cases n.op == 7 <;> cases r == 0 <;> cases sortS n == 1 <;> exact ⟨_, rfl, rfl⟩
 obtain ⟨b, h1, h2⟩ := key
 have : atomB n = b := by rw [atomB, mF63 hN.2 n b h2]; rfl
 rw [this]; exact ⟨h1, h2⟩
end Go.Abs.Try
namespace Go.Abs.Try
set_option maxRecDepth 100000
def fitsC (x : Int) : Bool := decide (x ≥ (-9007199254740992)) && decide (x ≤ 9007199254740992)
theorem fits112 (x : Int) : F112 x = some (fitsC x) := by
 simp only [F112, fitsC]
 cases decide (x ≥ (-9007199254740992)) <;> rfl
def prevB (p : Option Node) (n : Node) : Bool := match p with
 | none => true
 | some q => !decide (cmpR q n ≥ 0)
def validL : Option Node → List Mono → Bool
 | _, [] => true
 | p, m :: ms => !(m.monoCoef == 0) && (fitsC m.monoCoef && (atomB m.monoAtom && (prevB p m.monoAtom && validL (some m.monoAtom) ms)))
def Good (f : Lin) : Prop := f.linMonos.length ≤ 1048576 ∧ ∀ m ∈ f.linMonos, m.monoAtom.size ≤ 1048576
def validB (f : Lin) : Bool := validL none f.linMonos && fitsC f.linConst
theorem valid_fold (f : Lin) (hg : Good f) (A : Int → Option Bool) (B : Node → Option Bool) (C : Node → Node → Option Int) (hA : ∀ x, A x = some (fitsC x)) (hB : ∀ n : Node, n.size ≤ 1048576 → B n = some (atomB n)) (hC : ∀ a b : Node, a.size ≤ 1048576 → C a b = some (cmpR a b))
   (step : Unit → Nat → Mono → Option (Sum Unit Bool)) (hstep : ∀ s (i : Nat) (x2 : Mono), step s i x2 = iteO (x2.monoCoef == 0) (some (.inr false)) (bindO (A x2.monoCoef) fun r4 => iteO r4 (bindO (B x2.monoAtom) fun r5 => iteO r5
     (iteO (decide ((i : Int) > 0)) (bindO (atO f.linMonos (IntKind.i64.wrap ((i : Int) - 1))) fun x6 => bindO (C x6.monoAtom x2.monoAtom) fun r7 => iteO (decide (r7 ≥ 0)) (some (.inr false)) (some (.inl ()))) (some (.inl ()))) (some (.inr false))) (some (.inr false))))
   (fin : Unit → Option Bool) (hfin : fin () = some (fitsC f.linConst)) : ∀ (l : List Mono) (N i : Nat), l.length < N → f.linMonos.drop i = l → foldN step fin N l i () = some (validL (if i = 0 then none else (f.linMonos[i - 1]?).map Mono.monoAtom) l && fitsC f.linConst)
 | [], N, i, hN, _ => by
   obtain ⟨M, rfl⟩ : ∃ M, N = M + 1 := ⟨N - 1, by simp at hN; omega⟩
   simp only [foldN, hfin, validL, Bool.true_and]
 | x :: xs, N, i, hN, hd => by
   obtain ⟨M, rfl⟩ : ∃ M, N = M + 1 := ⟨N - 1, by simp at hN; omega⟩
   obtain ⟨hx, hxs⟩ := drop_cons hd
   obtain ⟨hi, hx'⟩ := List.getElem?_eq_some_iff.1 hx
   have hm : x ∈ f.linMonos := hx' ▸ List.getElem_mem hi
   have hsz := hg.2 x hm
   have hlen := hg.1
   have ih := valid_fold f hg A B C hA hB hC step hstep fin hfin xs M (i + 1) (by simp at hN; omega) hxs
   have hp : (if i + 1 = 0 then none else (f.linMonos[i + 1 - 1]?).map Mono.monoAtom) = some x.monoAtom := by
     rw [if_neg (by omega), Nat.add_sub_cancel, hx]; rfl
   rw [hp] at ih
   simp only [foldN, hstep, hA, hB _ hsz, bindO_some, validL]
   cases x.monoCoef == 0 with
   | true => rfl
   | false =>
     cases fitsC x.monoCoef with
     | false => rfl
     | true =>
       cases atomB x.monoAtom with
       | false => rfl
       | true =>
         simp only [iteO_true, iteO_false, Bool.not_false, Bool.true_and]
         by_cases h0 : i = 0
         · subst h0
           have : decide (((0 : Nat) : Int) > 0) = false := rfl
           rw [this, iteO_false, if_pos rfl]
           simp only [bindO_some, prevB, Bool.true_and]
           exact ih
         · have e : decide ((i : Int) > 0) = true := decide_eq_true (by omega)
           have hi1 : i - 1 < f.linMonos.length := by omega
           have hq : f.linMonos[i - 1]? = some f.linMonos[i - 1] := List.getElem?_eq_getElem hi1
           have ha : atO f.linMonos (IntKind.i64.wrap ((i : Int) - 1)) = some f.linMonos[i - 1] := by
             rw [wrap_id (by omega)]
             exact atO_lit (i := i - 1) (by omega) hq
           have hc := hC f.linMonos[i - 1].monoAtom x.monoAtom (hg.2 _ (List.getElem_mem hi1))
           rw [e, iteO_true, ha, if_neg h0, hq]
           simp only [bindO_some, hc, Option.map_some, prevB]
           cases decide (cmpR f.linMonos[i - 1].monoAtom x.monoAtom ≥ 0) with
           | true => rfl
           | false =>
             simp only [iteO_false, bindO_some, Bool.not_false, Bool.true_and]
             exact ih
theorem valid64 (N : Nat) (f : Lin) (hN : 4611686018400000000 ≤ N ∧ N ≤ 4611686018427387904) (hg : Good f) : F64 N f = some (validB f) := by
 have := valid_fold f hg F112 (F62 N) (F18 N) fits112 (fun n h => (atom_same N n hN h).1) (fun a b h => cmp18 N a b (by omega)) (F64_s1 N f) (fun _ _ _ => rfl) (F64_f1 f) (by simp only [F64_f1, fits112, bindO_some]) f.linMonos N 0 (by have := hg.1; omega) rfl
 exact this
end Go.Abs.Try
namespace Go.Abs.Try
theorem cmp_lt1 {a b c : Node} (h1 : cmpR a b < 0) (h2 : cmpR b c ≤ 0) : cmpR a c < 0 := by
 have h := (cmpR_TT a b c).2 (by omega) h2
 rcases Int.lt_or_eq_of_le h.1 with h3 | h3
 · exact h3
 · have := (h.2 h3).1; omega
theorem cmp_lt2 {a b c : Node} (h1 : cmpR a b ≤ 0) (h2 : cmpR b c < 0) : cmpR a c < 0 := by
 have h := (cmpR_TT a b c).2 h1 (by omega)
 rcases Int.lt_or_eq_of_le h.1 with h3 | h3
 · exact h3
 · have := (h.2 h3).2; omega
theorem cmp_eq {a b c : Node} (h1 : cmpR a b = 0) (h2 : cmpR b c = 0) : cmpR a c = 0 := (cmpR_TT a b c).1 h1 h2
theorem cmp_sym {a b : Node} (h : cmpR a b = 0) : cmpR b a = 0 := by rw [cmpR_neg, h]; rfl
def Srt (l : List Mono) : Prop := l.Pairwise fun m k => cmpR m.monoAtom k.monoAtom < 0
def coefL : List Mono → Node → Int
 | [], _ => 0
 | m :: l, a => bif cmpR m.monoAtom a == 0 then m.monoCoef else coefL l a
theorem coefL_none {a : Node} : ∀ {l : List Mono}, (∀ m ∈ l, cmpR m.monoAtom a ≠ 0) → coefL l a = 0
 | [], _ => rfl
 | m :: l, h => by
   have : (cmpR m.monoAtom a == 0) = false := beq_eq_false_iff_ne.2 (h m (by simp))
   rw [coefL, this, cond_false, coefL_none fun k hk => h k (by simp [hk])]
theorem coefL_head {m : Mono} {l : List Mono} {a : Node} (h : cmpR m.monoAtom a = 0) : coefL (m :: l) a = m.monoCoef := by
 have : (cmpR m.monoAtom a == 0) = true := beq_iff_eq.2 h
 rw [coefL, this, cond_true]
theorem coefL_tail {m : Mono} {l : List Mono} {a : Node} (h : cmpR m.monoAtom a ≠ 0) : coefL (m :: l) a = coefL l a := by
 have : (cmpR m.monoAtom a == 0) = false := beq_eq_false_iff_ne.2 h
 rw [coefL, this, cond_false]
theorem srt_above {m : Mono} {l : List Mono} (h : Srt (m :: l)) {a : Node} (ha : cmpR a m.monoAtom ≤ 0) : ∀ k ∈ l, cmpR k.monoAtom a ≠ 0 := by
 intro k hk e
 have h1 := (List.pairwise_cons.1 h).1 k hk
 have h2 := cmp_lt2 ha h1
 rw [cmpR_neg, e] at h2
 omega
theorem coefL_self : ∀ {l : List Mono}, Srt l → ∀ m ∈ l, coefL l m.monoAtom = m.monoCoef
 | k :: l, h, m, hm => by
   rcases List.mem_cons.1 hm with rfl | hm
   · exact coefL_head (cmpR_self _)
   · have h1 := (List.pairwise_cons.1 h).1 m hm
     rw [coefL_tail (by omega), coefL_self (List.pairwise_cons.1 h).2 m hm]
def nz (l : List Mono) : List Mono := l.filter fun m => !(m.monoCoef == 0)
theorem nz_srt {l : List Mono} (h : Srt l) : Srt (nz l) := List.Pairwise.filter _ h
theorem nz_ne {l : List Mono} : ∀ m ∈ nz l, m.monoCoef ≠ 0 := by
 intro m hm
 have := (List.mem_filter.1 hm).2
 simpa using this
def mrg (p q : Int) : List Mono → List Mono → List Mono
 | [], bs => bs.map fun m => ⟨q * m.monoCoef, m.monoAtom⟩
 | a :: us, [] => (a :: us).map fun m => ⟨p * m.monoCoef, m.monoAtom⟩
 | a :: us, b :: bs =>
   if cmpR a.monoAtom b.monoAtom < 0 then ⟨p * a.monoCoef, a.monoAtom⟩ :: mrg p q us (b :: bs)
   else if cmpR a.monoAtom b.monoAtom = 0 then ⟨p * a.monoCoef + q * b.monoCoef, b.monoAtom⟩ :: mrg p q us bs
   else ⟨q * b.monoCoef, b.monoAtom⟩ :: mrg p q (a :: us) bs
termination_by us bs => us.length + bs.length
theorem map_srt (p : Int) {l : List Mono} (h : Srt l) : Srt (l.map fun m => (⟨p * m.monoCoef, m.monoAtom⟩ : Mono)) := by
 rw [Srt, List.pairwise_map]; exact h
end Go.Abs.Try
namespace Go.Abs
theorem wd_mul (x1 x0 y1 y0 : Nat) : (x1 * 4294967296 + x0) * (y1 * 4294967296 + y0) = (x1 * y1) * 18446744073709551616 + (x1 * y0 + x0 * y1) * 4294967296 + x0 * y0 := by
 have e : (18446744073709551616 : Nat) = 4294967296 * 4294967296 := rfl
 rw [e, Nat.add_mul, Nat.mul_add, Nat.mul_add, Nat.add_mul]
 have h1 : x1 * 4294967296 * (y1 * 4294967296) = x1 * y1 * (4294967296 * 4294967296) := by rw [Nat.mul_mul_mul_comm]
 have h2 : x1 * 4294967296 * y0 = x1 * y0 * 4294967296 := by rw [Nat.mul_assoc, Nat.mul_comm 4294967296, ← Nat.mul_assoc]
 have h3 : x0 * (y1 * 4294967296) = x0 * y1 * 4294967296 := by rw [Nat.mul_assoc]
 rw [h1, h2, h3]
 omega
theorem wd_split (x : Nat) : x = x / 4294967296 * 4294967296 + x % 4294967296 := by omega
theorem wd_prod (x y : Nat) : x * y = (x / 4294967296 * (y / 4294967296)) * 18446744073709551616 + (x / 4294967296 * (y % 4294967296) + x % 4294967296 * (y / 4294967296)) * 4294967296 + x % 4294967296 * (y % 4294967296) := by
 have h := wd_mul (x / 4294967296) (x % 4294967296) (y / 4294967296) (y % 4294967296)
 rw [← wd_split, ← wd_split] at h
 exact h
theorem wd_bound {x y : Nat} (hx : x < 4294967296) (hy : y < 4294967296) : x * y ≤ 18446744065119617025 := Nat.mul_le_mul (show x ≤ 4294967295 by omega) (show y ≤ 4294967295 by omega)
end Go.Abs
namespace Go.Abs.Try
set_option maxRecDepth 100000
theorem pow32 : ((2 : Int) ^ (min (32 : Int).toNat (IntKind.u64).bits)) = 4294967296 := by decide
theorem shr32 (n : Int) : (n.fdiv (2 ^ (min (32 : Int).toNat (IntKind.u64).bits))) = n / 4294967296 := by
 rw [pow32, Int.fdiv_eq_ediv_of_nonneg _ (by omega)]
theorem and32 (n : Int) : (((BitVec.ofInt (IntKind.u64).bits n &&& BitVec.ofInt (IntKind.u64).bits 4294967295).toNat : Nat) : Int) = n % 4294967296 := by
 have h1 : (BitVec.ofInt (IntKind.u64).bits n).toNat = (n % 18446744073709551616).toNat := by
   rw [BitVec.toNat_ofInt]
   rfl
 have h2 : (BitVec.ofInt (IntKind.u64).bits 4294967295).toNat = 2 ^ 32 - 1 := by decide
 rw [BitVec.toNat_and, h1, h2, Nat.and_two_pow_sub_one_eq_mod]
 omega
theorem wrapU (n : Int) : IntKind.u64.wrap n = n % 18446744073709551616 := by
 have e1 : (2 : Int) ^ 64 = 18446744073709551616 := by decide
 simp only [IntKind.wrap, IntKind.bits, IntKind.signed, e1, Bool.false_and, Bool.false_eq_true, if_false]
theorem mul161 (x y : Nat) (hx : x < 18446744073709551616) (hy : y < 18446744073709551616) : F161 x y = some (((x * y / 18446744073709551616 : Nat) : Int), ((x * y % 18446744073709551616 : Nat) : Int)) := by
 have ex1 : (x : Int) / 4294967296 = ((x / 4294967296 : Nat) : Int) := by omega
 have ex0 : (x : Int) % 4294967296 = ((x % 4294967296 : Nat) : Int) := by omega
 have ey1 : (y : Int) / 4294967296 = ((y / 4294967296 : Nat) : Int) := by omega
 have ey0 : (y : Int) % 4294967296 = ((y % 4294967296 : Nat) : Int) := by omega
 have fx0 : ((x % 4294967296 : Nat) : Int) % 18446744073709551616 = ((x % 4294967296 : Nat) : Int) := by omega
 have fy0 : ((y % 4294967296 : Nat) : Int) % 18446744073709551616 = ((y % 4294967296 : Nat) : Int) := by omega
 have hp := wd_prod x y
 have ha := wd_bound (show x / 4294967296 < 4294967296 by omega) (show y / 4294967296 < 4294967296 by omega)
 have hb := wd_bound (show x / 4294967296 < 4294967296 by omega) (show y % 4294967296 < 4294967296 by omega)
 have hc := wd_bound (show x % 4294967296 < 4294967296 by omega) (show y / 4294967296 < 4294967296 by omega)
 have hd := wd_bound (show x % 4294967296 < 4294967296 by omega) (show y % 4294967296 < 4294967296 by omega)
 simp only [F161, shr32, and32, wrapU, ex1, ex0, ey1, ey0, fx0, fy0, ← Int.natCast_mul]
 rw [hp]
 generalize x / 4294967296 * (y / 4294967296) = a at *
 generalize x / 4294967296 * (y % 4294967296) = b at *
 generalize x % 4294967296 * (y / 4294967296) = c at *
 generalize x % 4294967296 * (y % 4294967296) = d at *
 congr 2 <;> omega
end Go.Abs.Try
namespace Go.Abs.Try
set_option maxRecDepth 100000
def packS (v : Int) : LinearSum := ⟨v / 18446744073709551616, v % 18446744073709551616⟩
theorem wrapI (n : Int) (h : -9223372036854775808 ≤ n ∧ n < 27670116110564327424) : IntKind.i64.wrap n = if n ≥ 9223372036854775808 then n - 18446744073709551616 else n := by
 have e1 : (2 : Int) ^ 64 = 18446744073709551616 := by decide
 have e2 : (2 : Int) ^ 63 = 9223372036854775808 := by decide
 simp only [IntKind.wrap, IntKind.bits, IntKind.signed, e1, Bool.true_and, Nat.reduceSub, e2, decide_eq_true_eq, ge_iff_le]
 split <;> split <;> omega
theorem add162 (x y c : Int) (hx : 0 ≤ x) (hy : 0 ≤ y) (hc : 0 ≤ c ∧ c ≤ 1) : F162 x y c = some ((x + y + c) % 18446744073709551616, (x + y + c) / 18446744073709551616) := by
 rw [F162, decide_eq_true ⟨hx, hy, hc.1, hc.2⟩, iteO_true]
theorem mulU (a b : Int) (ha : -9223372036854775808 ≤ a ∧ a < 9223372036854775808) (hb : -9223372036854775808 ≤ b ∧ b < 9223372036854775808) :
   ∃ h l : Int, F161 (IntKind.u64.wrap a) (IntKind.u64.wrap b) = some (h, l) ∧ 0 ≤ h ∧ h < 18446744073709551616 ∧ l = (a * b) % 18446744073709551616 ∧
     (h - (if a < 0 then b % 18446744073709551616 else 0) - (if b < 0 then a % 18446744073709551616 else 0)) % 18446744073709551616 = ((a * b) / 18446744073709551616) % 18446744073709551616 := by
 obtain ⟨x, hx⟩ : ∃ x : Nat, (x : Int) = a % 18446744073709551616 := ⟨(a % 18446744073709551616).toNat, by omega⟩
 obtain ⟨y, hy⟩ : ∃ y : Nat, (y : Int) = b % 18446744073709551616 := ⟨(b % 18446744073709551616).toNat, by omega⟩
 have hm := mul161 x y (by omega) (by omega)
 have hlt : x * y / 18446744073709551616 < 18446744073709551616 := by
   have h1 : x * y ≤ 18446744073709551615 * 18446744073709551615 := Nat.mul_le_mul (show x ≤ 18446744073709551615 by omega) (show y ≤ 18446744073709551615 by omega)
   omega
 refine ⟨((x * y / 18446744073709551616 : Nat) : Int), ((x * y % 18446744073709551616 : Nat) : Int), by rw [wrapU, wrapU, ← hx, ← hy, hm], by omega, by omega, ?_⟩
 have hc : ((x * y : Nat) : Int) = (x : Int) * (y : Int) := by simp
 have key : ∃ P : Int, a * b = P ∧ ((x * y : Nat) : Int) = P + (if a < 0 then 18446744073709551616 * b else 0) + (if b < 0 then 18446744073709551616 * a else 0) + (if a < 0 then (if b < 0 then 340282366920938463463374607431768211456 else 0) else 0) := by
   refine ⟨a * b, rfl, ?_⟩
   rw [hc]
   by_cases h1 : a < 0
   · have ex : (x : Int) = a + 18446744073709551616 := by omega
     by_cases h2 : b < 0
     · have ey : (y : Int) = b + 18446744073709551616 := by omega
       rw [ex, ey, if_pos h1, if_pos h2, if_pos h1, if_pos h2, Int.add_mul, Int.mul_add]
       omega
     · have ey : (y : Int) = b := by omega
       rw [ex, ey, if_pos h1, if_neg h2, if_pos h1, if_neg h2, Int.add_mul]
       omega
   · have ex : (x : Int) = a := by omega
     by_cases h2 : b < 0
     · have ey : (y : Int) = b + 18446744073709551616 := by omega
       rw [ex, ey, if_neg h1, if_pos h2, if_neg h1, Int.mul_add]
       omega
     · have ey : (y : Int) = b := by omega
       rw [ex, ey, if_neg h1, if_neg h2, if_neg h1]
       omega
 obtain ⟨P, hP, hk⟩ := key
 rw [hP]
 generalize x * y = q at *
 constructor
 · by_cases h1 : a < 0 <;> by_cases h2 : b < 0 <;> simp only [h1, h2, if_true, if_false] at hk <;> omega
 · by_cases h1 : a < 0 <;> by_cases h2 : b < 0 <;> simp only [h1, h2, if_true, if_false] at hk ⊢ <;> omega
end Go.Abs.Try
namespace Go.Abs.Try
set_option maxRecDepth 100000
theorem plus128 (v a b : Int) (ha : -9223372036854775808 ≤ a ∧ a < 9223372036854775808) (hb : -9223372036854775808 ≤ b ∧ b < 9223372036854775808)
   (_hv : -170141183460469231731687303715884105728 ≤ v ∧ v < 170141183460469231731687303715884105728)
   (hs : -170141183460469231731687303715884105728 ≤ v + a * b ∧ v + a * b < 170141183460469231731687303715884105728) : F128 (packS v) a b = some (packS (v + a * b)) := by
 obtain ⟨h, l, hm, h0, h1, hl, hh⟩ := mulU a b ha hb
 generalize a * b = P at *
 have c0 : (0 : Int) ≤ 0 ∧ (0 : Int) ≤ 1 := by omega
 simp only [F128, hm, bindO_some, packS]
 have a1 := add162 (v % 18446744073709551616) l 0 (by omega) (by omega) c0
 rw [a1]
 simp only [bindO_some, wrapU]
 have fin : ∀ H : Int, 0 ≤ H → H < 18446744073709551616 → H = (P / 18446744073709551616) % 18446744073709551616 →
     (bindO (F162 (v / 18446744073709551616 % 18446744073709551616) H ((v % 18446744073709551616 + l + 0) / 18446744073709551616)) fun r3 => some (⟨IntKind.i64.wrap r3.1, (v % 18446744073709551616 + l + 0) % 18446744073709551616⟩ : LinearSum)) = some ⟨(v + P) / 18446744073709551616, (v + P) % 18446744073709551616⟩ := by
   intro H hH0 hH1 hH
   rw [add162 _ _ _ (by omega) hH0 (by omega)]
   simp only [bindO_some]
   rw [wrapI _ (by omega)]
   congr 2
   · split <;> omega
   · omega
 by_cases ha0 : a < 0
 · by_cases hb0 : b < 0
   · rw [decide_eq_true ha0, decide_eq_true hb0]
     simp only [iteO_true]
     rw [if_pos ha0, if_pos hb0] at hh
     exact fin _ (by omega) (by omega) (by omega)
   · rw [decide_eq_true ha0, decide_eq_false hb0]
     simp only [iteO_true, iteO_false]
     rw [if_pos ha0, if_neg hb0] at hh
     exact fin _ (by omega) (by omega) (by omega)
 · by_cases hb0 : b < 0
   · rw [decide_eq_false ha0, decide_eq_true hb0]
     simp only [iteO_true, iteO_false]
     rw [if_neg ha0, if_pos hb0] at hh
     exact fin _ (by omega) (by omega) (by omega)
   · rw [decide_eq_false ha0, decide_eq_false hb0]
     simp only [iteO_false]
     rw [if_neg ha0, if_neg hb0] at hh
     exact fin _ (by omega) (by omega) (by omega)
end Go.Abs.Try
namespace Go.Abs.Try
set_option maxRecDepth 100000
def fitsW (x : Int) : Bool := decide (x ≥ (-9007199254740992)) && decide (x ≤ 9007199254740992)
theorem fitsW112 (x : Int) : F112 x = some (fitsW x) := by
 simp only [F112, fitsW]
 cases decide (x ≥ (-9007199254740992)) <;> rfl
theorem number129 (v : Int) (hv : -170141183460469231731687303715884105728 ≤ v ∧ v < 170141183460469231731687303715884105728) :
   ∃ n, F129 (packS v) = some (n, fitsW v) ∧ (fitsW v = true → n = v) := by
 have hx := wrapI (v % 18446744073709551616) (by omega)
 simp only [F129, packS, fitsW112, bindO_some, hx]
 generalize hX : (if v % 18446744073709551616 ≥ 9223372036854775808 then v % 18446744073709551616 - 18446744073709551616 else v % 18446744073709551616) = X
 have hXr : X = v % 18446744073709551616 ∧ X < 9223372036854775808 ∨ X = v % 18446744073709551616 - 18446744073709551616 ∧ v % 18446744073709551616 ≥ 9223372036854775808 := by
   rw [← hX]; split <;> omega
 have far : ¬ (-9223372036854775808 ≤ v ∧ v < 9223372036854775808) → fitsW v = false := by
   intro h
   simp only [fitsW, Bool.and_eq_false_iff, decide_eq_false_iff_not]
   omega
 by_cases hin : -9223372036854775808 ≤ v ∧ v < 9223372036854775808
 · have hXv : X = v := by omega
   rw [hXv]
   by_cases hn : v < 0
   · have e1 : (v / 18446744073709551616 == -1) = true := beq_iff_eq.2 (by omega)
     have e2 : decide (v ≥ 0) = false := decide_eq_false (by omega)
     rw [decide_eq_true hn, e1, e2]
     exact ⟨v, rfl, fun _ => rfl⟩
   · have e1 : (v / 18446744073709551616 == 0) = true := beq_iff_eq.2 (by omega)
     have e2 : decide (v ≥ 0) = true := decide_eq_true (by omega)
     rw [decide_eq_false hn, e1, e2]
     exact ⟨v, rfl, fun _ => rfl⟩
 · rw [far hin]
   refine ⟨0, ?_, fun h => by cases h⟩
   by_cases hn : X < 0
   · have e1 : (v / 18446744073709551616 == -1) = false := beq_eq_false_iff_ne.2 (by omega)
     rw [decide_eq_true hn, e1]; rfl
   · have e1 : (v / 18446744073709551616 == 0) = false := beq_eq_false_iff_ne.2 (by omega)
     have e2 : decide (X ≥ 0) = true := decide_eq_true (by omega)
     rw [decide_eq_false hn, e1, e2]; rfl
end Go.Abs.Try
namespace Go.Abs.Try
set_option maxRecDepth 100000
theorem fits72_le {n : Nat} (h : n ≤ 8388608) : fits n 72 = true := by
 simp only [fits, roomMax]; exact decide_eq_true (by omega)
theorem abs_mul {p c : Int} (hp : -9223372036854775808 ≤ p ∧ p < 9223372036854775808) (hc : -9007199254740992 ≤ c ∧ c ≤ 9007199254740992) : (p * c).natAbs ≤ 83076749736557242056487941267521536 := by
 rw [Int.natAbs_mul]
 have h1 : p.natAbs ≤ 9223372036854775808 := by omega
 have h2 : c.natAbs ≤ 9007199254740992 := by omega
 exact Nat.le_trans (Nat.mul_le_mul h1 h2) (by decide)
def I64 (p : Int) : Prop := -9223372036854775808 ≤ p ∧ p < 9223372036854775808
def F53 (c : Int) : Prop := -9007199254740992 ≤ c ∧ c ≤ 9007199254740992
theorem F53.i64 {c : Int} (h : F53 c) : I64 c := ⟨by have := h.1; omega, by have := h.2; omega⟩
theorem fitsC_iff (x : Int) : fitsC x = true ↔ -9007199254740992 ≤ x ∧ x ≤ 9007199254740992 := by
 simp only [fitsC, Bool.and_eq_true, decide_eq_true_eq, ge_iff_le]
theorem fitsC_F53 {c : Int} (h : fitsC c = true) : F53 c := (fitsC_iff c).1 h
theorem packS0 : (⟨0, 0⟩ : LinearSum) = packS 0 := rfl
theorem once128 {p c : Int} (hp : I64 p) (hc : F53 c) : F128 (⟨0, 0⟩ : LinearSum) p c = some (packS (p * c)) := by
 have := abs_mul hp hc
 rw [packS0, plus128 0 p c hp hc.i64 (by omega) (by omega)]
 simp
theorem more128 {s p c : Int} (hs : s.natAbs ≤ 83076749736557242056487941267521536 * 1024) (hp : I64 p) (hc : F53 c) : F128 (packS s) p c = some (packS (s + p * c)) := by
 have := abs_mul hp hc
 exact plus128 s p c hp hc.i64 (by omega) (by omega)
theorem num129 {s : Int} (hs : s.natAbs ≤ 83076749736557242056487941267521536 * 1024) : ∃ n, F129 (packS s) = some (n, fitsW s) ∧ (fitsW s = true → n = s) := number129 s (by omega)
def allW (l : List Mono) : Bool := l.all fun m => fitsW m.monoCoef
abbrev S88 := (List Mono) × Int × Int
theorem next88 {step : S88 → Option (Sum S88 (Lin × Bool))} {K : Nat} {s n v i j i0 j0 : Int} {at' : Node} {out rest : List Mono}
   (hs : step (out, i0, j0) = iteO (fitsW s) (iteO (n == 0) (some (.inl (out, i, j))) (iteO (fits (out.length + 1) 72) (some (.inl (out ++ [(⟨n, at'⟩ : Mono)], i, j))) none)) (some (.inr ((⟨[], 0⟩ : Lin), false))))
   (hn : fitsW s = true → n = s) (hf : fits (out.length + 1) 72 = true)
   (ih : ∀ o, (o = out ∨ o = out ++ [⟨s, at'⟩]) → ∃ r, whileN step K (o, i, j) = some r ∧ r.2 = (allW rest && fitsW v) ∧ (r.2 = true → r.1 = ⟨o ++ nz rest, v⟩)) :
   ∃ r, whileN step (K + 1) (out, i0, j0) = some r ∧ r.2 = (allW (⟨s, at'⟩ :: rest) && fitsW v) ∧ (r.2 = true → r.1 = ⟨out ++ nz (⟨s, at'⟩ :: rest), v⟩) := by
 show ∃ r, bindO (step (out, i0, j0)) _ = some r ∧ _
 rw [hs]
 cases hw : fitsW s with
 | false =>
   refine ⟨_, rfl, ?_, fun h => by cases h⟩
   simp [allW, hw]
 | true =>
   have := hn hw
   subst this
   have ha : allW (⟨n, at'⟩ :: rest) = allW rest := by simp [allW, hw]
   rw [ha]
   cases h0 : n == 0 with
   | true =>
     obtain ⟨r, h1, h2, h3⟩ := ih out (.inl rfl)
     refine ⟨r, h1, h2, fun h => ?_⟩
     rw [h3 h]
     simp [nz, h0]
   | false =>
     obtain ⟨r, h1, h2, h3⟩ := ih _ (.inr rfl)
     refine ⟨r, by simp only [iteO_true, iteO_false, hf, bindO_some]; exact h1, h2, fun h => ?_⟩
     rw [h3 h]
     simp [nz, h0]
theorem drop_nil {α : Type} {l : List α} {i : Nat} (hi : i ≤ l.length) (h : l.drop i = []) : i = l.length := by
 have := congrArg List.length h
 simp at this; omega
theorem loop88 (N : Nat) (a b : Lin) (p q : Int) (hp : I64 p) (hq : I64 q) (hN : 8388608 ≤ N) (ga : Good a) (gb : Good b)
   (fa : ∀ m ∈ a.linMonos, fitsC m.monoCoef = true) (fb : ∀ m ∈ b.linMonos, fitsC m.monoCoef = true) (ca : F53 a.linConst) (cb : F53 b.linConst) :
   ∀ (K : Nat) (us bs : List Mono) (i j : Nat) (out : List Mono), i ≤ a.linMonos.length → j ≤ b.linMonos.length → a.linMonos.drop i = us → b.linMonos.drop j = bs →
     us.length + bs.length < K → out.length + us.length + bs.length ≤ 4194304 →
     ∃ r, whileN (F88_s1 N a b p q) K (out, (i : Int), (j : Int)) = some r ∧ r.2 = (allW (mrg p q us bs) && fitsW (p * a.linConst + q * b.linConst)) ∧ (r.2 = true → r.1 = ⟨out ++ nz (mrg p q us bs), p * a.linConst + q * b.linConst⟩)
 | 0, _, _, _, _, _, _, _, _, _, h, _ => absurd h (Nat.not_lt_zero _)
 | K + 1, us, bs, i, j, out, hi, hj, hu, hb, hK, ho => by
   have la := ga.1
   have lb := gb.1
   have wi : i < a.linMonos.length → IntKind.i64.wrap ((i : Int) + 1) = ((i + 1 : Nat) : Int) := fun h => by rw [wrap_id (by omega)]; rfl
   have wj : j < b.linMonos.length → IntKind.i64.wrap ((j : Int) + 1) = ((j + 1 : Nat) : Int) := fun h => by rw [wrap_id (by omega)]; rfl
   cases us with
   | nil =>
     have e := drop_nil hi hu
     have d1 : decide ((i : Int) < (a.linMonos.length : Int)) = false := decide_eq_false (by omega)
     have d2 : ((i : Int) == (a.linMonos.length : Int)) = true := beq_iff_eq.2 (by omega)
     cases bs with
     | nil =>
       have e2 := drop_nil hj hb
       have d3 : decide ((j : Int) < (b.linMonos.length : Int)) = false := decide_eq_false (by omega)
       have hm := abs_mul hp ca
       have hm2 := abs_mul hq cb
       obtain ⟨n, hn, hv⟩ := num129 (s := p * a.linConst + q * b.linConst) (by omega)
       show ∃ r, bindO (F88_s1 N a b p q (out, (i : Int), (j : Int))) _ = some r ∧ _
       simp only [F88_s1, d1, d2, d3, iteO_true, iteO_false, once128 hp ca, more128 (s := p * a.linConst) (by omega) hq cb, hn, bindO_some]
       refine ⟨_, rfl, ?_, fun h => ?_⟩
       · simp [mrg, allW]
       · rw [show n = _ from hv h]; simp [mrg, nz]
     | cons y bs =>
       obtain ⟨hy, hys⟩ := drop_cons hb
       obtain ⟨hj', hy'⟩ := List.getElem?_eq_some_iff.1 hy
       have hym : y ∈ b.linMonos := hy' ▸ List.getElem_mem hj'
       have d3 : decide ((j : Int) < (b.linMonos.length : Int)) = true := decide_eq_true (by omega)
       have hc := fitsC_F53 (fb y hym)
       have hm := abs_mul hq hc
       obtain ⟨n, hn, hv⟩ := num129 (s := q * y.monoCoef) (by omega)
       simp only [List.length_nil, List.length_cons] at hK ho
       have := next88 (i0 := (i : Int)) (j0 := (j : Int)) (step := F88_s1 N a b p q) (K := K) (s := q * y.monoCoef) (n := n) (v := p * a.linConst + q * b.linConst) (i := (i : Int)) (j := ((j + 1 : Nat) : Int)) (at' := y.monoAtom) (out := out) (rest := mrg p q [] bs) (by simp only [F88_s1, d1, d2, d3, iteO_true, iteO_false, atO_get hy, once128 hq hc, hn, bindO_some, wj hj']) hv (fits72_le (by omega))
         (fun o h => loop88 N a b p q hp hq hN ga gb fa fb ca cb K [] bs i (j + 1) o hi (by omega) hu hys (by simp; omega) (by rcases h with rfl | rfl <;> (try simp only [List.length_append, List.length_cons, List.length_nil]) <;> omega))
       have em : mrg p q [] (y :: bs) = ⟨q * y.monoCoef, y.monoAtom⟩ :: mrg p q [] bs := by simp [mrg]
       rw [em]; exact this
   | cons x us =>
     obtain ⟨hx, hxs⟩ := drop_cons hu
     obtain ⟨hi', hx'⟩ := List.getElem?_eq_some_iff.1 hx
     have hxm : x ∈ a.linMonos := hx' ▸ List.getElem_mem hi'
     have hcx := fitsC_F53 (fa x hxm)
     have hmx := abs_mul hp hcx
     have d1 : decide ((i : Int) < (a.linMonos.length : Int)) = true := decide_eq_true (by omega)
     have d2 : ((i : Int) == (a.linMonos.length : Int)) = false := beq_eq_false_iff_ne.2 (by omega)
     cases bs with
     | nil =>
       have e2 := drop_nil hj hb
       have d3 : ((j : Int) == (b.linMonos.length : Int)) = true := beq_iff_eq.2 (by omega)
       obtain ⟨n, hn, hv⟩ := num129 (s := p * x.monoCoef) (by omega)
       simp only [List.length_nil, List.length_cons] at hK ho
       have := next88 (i0 := (i : Int)) (j0 := (j : Int)) (step := F88_s1 N a b p q) (K := K) (s := p * x.monoCoef) (n := n) (v := p * a.linConst + q * b.linConst) (i := ((i + 1 : Nat) : Int)) (j := (j : Int)) (at' := x.monoAtom) (out := out) (rest := mrg p q us []) (by simp only [F88_s1, d1, d2, d3, iteO_true, iteO_false, atO_get hx, once128 hp hcx, hn, bindO_some, wi hi']) hv (fits72_le (by omega))
         (fun o h => loop88 N a b p q hp hq hN ga gb fa fb ca cb K us [] (i + 1) j o (by omega) hj hxs hb (by simp; omega) (by rcases h with rfl | rfl <;> (try simp only [List.length_append, List.length_cons, List.length_nil]) <;> omega))
       have em : mrg p q (x :: us) [] = ⟨p * x.monoCoef, x.monoAtom⟩ :: mrg p q us [] := by cases us <;> simp [mrg]
       rw [em]; exact this
     | cons y bs =>
       obtain ⟨hy, hys⟩ := drop_cons hb
       obtain ⟨hj', hy'⟩ := List.getElem?_eq_some_iff.1 hy
       have hym : y ∈ b.linMonos := hy' ▸ List.getElem_mem hj'
       have hcy := fitsC_F53 (fb y hym)
       have hmy := abs_mul hq hcy
       have d3 : ((j : Int) == (b.linMonos.length : Int)) = false := beq_eq_false_iff_ne.2 (by omega)
       have hcmp := cmp18 N x.monoAtom y.monoAtom (by have := ga.2 x hxm; omega)
       simp only [List.length_cons] at hK ho
       by_cases l1 : cmpR x.monoAtom y.monoAtom < 0
       · have d4 : decide (cmpR x.monoAtom y.monoAtom ≤ 0) = true := decide_eq_true (by omega)
         have d5 : decide (cmpR x.monoAtom y.monoAtom ≥ 0) = false := decide_eq_false (by omega)
         obtain ⟨n, hn, hv⟩ := num129 (s := p * x.monoCoef) (by omega)
         have := next88 (i0 := (i : Int)) (j0 := (j : Int)) (step := F88_s1 N a b p q) (K := K) (s := p * x.monoCoef) (n := n) (v := p * a.linConst + q * b.linConst) (i := ((i + 1 : Nat) : Int)) (j := (j : Int)) (at' := x.monoAtom) (out := out) (rest := mrg p q us (y :: bs)) (by simp only [F88_s1, d1, d2, d3, iteO_true, iteO_false, atO_get hx, atO_get hy, hcmp, d4, d5, once128 hp hcx, hn, bindO_some, wi hi']) hv (fits72_le (by omega))
           (fun o h => loop88 N a b p q hp hq hN ga gb fa fb ca cb K us (y :: bs) (i + 1) j o (by omega) hj hxs hb (by simp; omega) (by rcases h with rfl | rfl <;> (try simp only [List.length_append, List.length_cons, List.length_nil]) <;> omega))
         have em : mrg p q (x :: us) (y :: bs) = ⟨p * x.monoCoef, x.monoAtom⟩ :: mrg p q us (y :: bs) := by rw [mrg, if_pos l1]
         rw [em]; exact this
       · by_cases l2 : cmpR x.monoAtom y.monoAtom = 0
         · have d4 : decide (cmpR x.monoAtom y.monoAtom ≤ 0) = true := decide_eq_true (by omega)
           have d5 : decide (cmpR x.monoAtom y.monoAtom ≥ 0) = true := decide_eq_true (by omega)
           obtain ⟨n, hn, hv⟩ := num129 (s := p * x.monoCoef + q * y.monoCoef) (by omega)
           have := next88 (i0 := (i : Int)) (j0 := (j : Int)) (step := F88_s1 N a b p q) (K := K) (s := p * x.monoCoef + q * y.monoCoef) (n := n) (v := p * a.linConst + q * b.linConst) (i := ((i + 1 : Nat) : Int)) (j := ((j + 1 : Nat) : Int)) (at' := y.monoAtom) (out := out) (rest := mrg p q us bs) (by simp only [F88_s1, d1, d2, d3, iteO_true, iteO_false, atO_get hx, atO_get hy, hcmp, d4, d5, once128 hp hcx, more128 (s := p * x.monoCoef) (by omega) hq hcy, hn, bindO_some, wi hi', wj hj']) hv (fits72_le (by omega))
             (fun o h => loop88 N a b p q hp hq hN ga gb fa fb ca cb K us bs (i + 1) (j + 1) o (by omega) (by omega) hxs hys (by omega) (by rcases h with rfl | rfl <;> (try simp only [List.length_append, List.length_cons, List.length_nil]) <;> omega))
           have em : mrg p q (x :: us) (y :: bs) = ⟨p * x.monoCoef + q * y.monoCoef, y.monoAtom⟩ :: mrg p q us bs := by rw [mrg, if_neg l1, if_pos l2]
           rw [em]; exact this
         · have d4 : decide (cmpR x.monoAtom y.monoAtom ≤ 0) = false := decide_eq_false (by omega)
           have d5 : decide (cmpR x.monoAtom y.monoAtom ≥ 0) = true := decide_eq_true (by omega)
           obtain ⟨n, hn, hv⟩ := num129 (s := q * y.monoCoef) (by omega)
           have := next88 (i0 := (i : Int)) (j0 := (j : Int)) (step := F88_s1 N a b p q) (K := K) (s := q * y.monoCoef) (n := n) (v := p * a.linConst + q * b.linConst) (i := (i : Int)) (j := ((j + 1 : Nat) : Int)) (at' := y.monoAtom) (out := out) (rest := mrg p q (x :: us) bs) (by simp only [F88_s1, d1, d2, d3, iteO_true, iteO_false, atO_get hx, atO_get hy, hcmp, d4, d5, once128 hq hcy, hn, bindO_some, wj hj']) hv (fits72_le (by omega))
             (fun o h => loop88 N a b p q hp hq hN ga gb fa fb ca cb K (x :: us) bs i (j + 1) o hi (by omega) hu hys (by simp; omega) (by rcases h with rfl | rfl <;> (try simp only [List.length_append, List.length_cons, List.length_nil]) <;> omega))
           have em : mrg p q (x :: us) (y :: bs) = ⟨q * y.monoCoef, y.monoAtom⟩ :: mrg p q (x :: us) bs := by rw [mrg, if_neg l1, if_neg l2]
           rw [em]; exact this
theorem merge88 (N : Nat) (a b : Lin) (p q : Int) (hp : I64 p) (hq : I64 q) (hN : 8388608 ≤ N) (ga : Good a) (gb : Good b)
   (fa : ∀ m ∈ a.linMonos, fitsC m.monoCoef = true) (fb : ∀ m ∈ b.linMonos, fitsC m.monoCoef = true) (ca : F53 a.linConst) (cb : F53 b.linConst) :
   ∃ r, F88 N a b p q = some r ∧ r.2 = (allW (mrg p q a.linMonos b.linMonos) && fitsW (p * a.linConst + q * b.linConst)) ∧ (r.2 = true → r.1 = ⟨nz (mrg p q a.linMonos b.linMonos), p * a.linConst + q * b.linConst⟩) := by
 have la := ga.1
 have lb := gb.1
 exact loop88 N a b p q hp hq hN ga gb fa fb ca cb N a.linMonos b.linMonos 0 0 [] (by omega) (by omega) rfl rfl (by omega) (by simp; omega)
end Go.Abs.Try
namespace Go.Abs.Try
set_option maxRecDepth 100000
end Go.Abs.Try
namespace Go.Abs.Try
set_option maxRecDepth 100000
end Go.Abs.Try
namespace Go.Abs.Try
set_option maxRecDepth 100000
def wide (s : Bool) (n : Int) : Quantaleref04Wide := ⟨s, n / 18446744073709551616, n % 18446744073709551616⟩
end Go.Abs.Try
namespace Go.Abs.Try
set_option maxRecDepth 100000
end Go.Abs.Try
namespace Go.Abs.Try
set_option maxRecDepth 100000
end Go.Abs.Try
namespace Go.Abs.Try
set_option maxRecDepth 100000
end Go.Abs.Try
