import Derived.Test.YtdigpkmbcojpoaaGreatMP10toMLm10
import Derived.Test.YtdigpkmbcojpoaaGreatMD
set_option linter.unusedSimpArgs false
set_option linter.unusedVariables false
namespace Go.Abs.Try
set_option maxRecDepth 100000
theorem fits64_ok {n : Nat} (h : n ≤ 1048577) : fits n 64 = true := by
 simp only [fits, roomMax]; exact decide_eq_true (by omega)
theorem foldl_app (g : Node → Node) : ∀ (l s : List Node), l.foldl (fun s x => s ++ [g x]) s = s ++ l.map g
 | [], s => by simp
 | x :: xs, s => by rw [List.foldl_cons, foldl_app g xs]; simp
theorem app_fold {β : Type} (self : Node → Option Node) (g : Node → Node) (step : List Node → Nat → Node → Option (Sum (List Node) β)) (hstep : ∀ s i x, step s i x = bindO (self x) fun r => iteO (fits (s.length + 1) 64) (some (.inl (s ++ [r]))) none) (fin : List Node → Option β)
   (ks : List Node) (N : Nat) (hN : ks.length < N) (hb : ks.length ≤ 1048576) (hs : ∀ k ∈ ks, self k = some (g k)) : foldN step fin N ks 0 [] = fin (ks.map g) := by
 have := foldN_inl (step := step) (fin := fin) (fun (s : List Node) (k : Node) => s ++ [g k]) (fun l s => (∀ k ∈ l, k ∈ ks) ∧ s.length + l.length = ks.length)
   (fun x xs i s ⟨h1, h2⟩ => by
     simp only [List.length_cons] at h2
     refine ⟨by rw [hstep, hs x (h1 x (by simp)), bindO_some, fits64_ok (by omega), iteO_true], fun k hk => h1 k (by simp [hk]), by simp; omega⟩) ks N 0 [] hN ⟨fun _ h => h, by simp⟩
 rw [this.1, foldl_app, List.nil_append]
theorem copied82 : ∀ (N : Nat) (n : Node), n.size < N → n.size ≤ 1048576 → F82 N n = some n
 | 0, n, h, _ => absurd h (Nat.not_lt_zero _)
 | N + 1, n, h, hb => by
   have hk := kids_len n
   show F82b (F82 N) N n = _
   have hf : fits n.kids.length 64 = true := fits64_ok (by omega)
   simp only [F82b, hf, iteO_true, Int.toNat_natCast]
   refine foldN_idx (step := F82_s1 (F82 N)) (fin := F82_f1 n) (fun s _ _ => s) (fun i l s => s = n.kids ∧ i + l.length = n.kids.length) (fun r => r = some n) ?_ ?_ (List.range n.kids.length) N 0 n.kids (by simp; omega) ⟨rfl, by simp⟩
   · intro x xs i s ⟨h1, h2⟩
     subst h1
     simp only [List.length_cons] at h2
     have hi : i < n.kids.length := by omega
     have hm := List.getElem_mem hi
     have hs := kids_size hm
     have ha : atO n.kids (i : Int) = some n.kids[i] := atO_get (List.getElem?_eq_getElem hi)
     refine ⟨?_, rfl, by omega⟩
     simp only [F82_s1, ha, bindO_some, copied82 N n.kids[i] (by omega) (by omega), List.set_getElem_self]
   · intro i s ⟨h1, _⟩
     subst h1
     cases n; rfl
def firstM (nm : ByteArray) : List ByteArray → List Node → Option Node
 | a :: ays', w :: ws => bif a.toList == nm.toList then some w else firstM nm ays' ws
 | _, _ => none
def orElseO (o : Option Node) (d : Option Node) : Option Node := match o with
 | some w => some w
 | none => d
theorem search22 (N : Nat) (n : Node) (names : List ByteArray) (ws : List Node) (fin : Unit → Option Node) (hw : ∀ w ∈ ws, w.size < N ∧ w.size ≤ 1048576) : ∀ (l : List Nat) (M i : Nat), i + l.length = min names.length ws.length → l.length < M → foldN (F22_s1 N n names ws) fin M l i () = orElseO (firstM n.name (names.drop i) (ws.drop i)) (fin ())
 | [], M, i, h, hM => by
   obtain ⟨K, rfl⟩ : ∃ K, M = K + 1 := ⟨M - 1, by simp at hM; omega⟩
   have : firstM n.name (names.drop i) (ws.drop i) = none := by
     simp only [List.length_nil] at h
     by_cases hn : names.length ≤ ws.length
     · rw [List.drop_eq_nil_iff.2 (show names.length ≤ i by omega)]; rfl
     · rw [List.drop_eq_nil_iff.2 (show ws.length ≤ i by omega)]
       cases names.drop i <;> rfl
   rw [this]; rfl
 | x :: xs, M, i, h, hM => by
   obtain ⟨K, rfl⟩ : ∃ K, M = K + 1 := ⟨M - 1, by simp at hM; omega⟩
   simp only [List.length_cons] at h hM
   have h1 : i < names.length := by omega
   have h2 : i < ws.length := by omega
   have a1 : atO names (i : Int) = some names[i] := atO_get (List.getElem?_eq_getElem h1)
   have a2 : atO ws (i : Int) = some ws[i] := atO_get (List.getElem?_eq_getElem h2)
   have hc := copied82 N ws[i] (hw _ (List.getElem_mem h2)).1 (hw _ (List.getElem_mem h2)).2
   have ih := search22 N n names ws fin hw xs K (i + 1) (by omega) (by omega)
   rw [List.drop_eq_getElem_cons h1, List.drop_eq_getElem_cons h2, firstM]
   simp only [foldN, F22_s1, a1, a2, hc, bindO_some]
   cases names[i].toList == n.name.toList with
   | true => rfl
   | false => simp only [iteO_false, bindO_some, cond_false]; exact ih
mutual
def substR (names : List ByteArray) (ws : List Node) : Node → Node
  | ⟨op, s, nm, k, ks⟩ => match (bif op == 1 then firstM nm names ws else none) with
    | some w => w
    | none => ⟨op, s, nm, k, substL names ws ks⟩
def substL (names : List ByteArray) (ws : List Node) : List Node → List Node
  | [] => []
  | k :: ks => substR names ws k :: substL names ws ks
end
theorem substL_eq (names : List ByteArray) (ws : List Node) : ∀ ks : List Node, substL names ws ks = ks.map (substR names ws)
 | [] => rfl
 | k :: ks => by rw [substL, substL_eq names ws ks]; rfl
theorem substR_eq (names : List ByteArray) (ws : List Node) (n : Node) : some (substR names ws n) = orElseO (bif n.op == 1 then firstM n.name names ws else none) (some ⟨n.op, n.sortf, n.name, n.num, n.kids.map (substR names ws)⟩) := by
 cases n with
 | mk op s nm k ks =>
   simp only [substR, substL_eq]
   cases (bif op == 1 then firstM nm names ws else none) <;> rfl
theorem subst22 (names : List ByteArray) (ws : List Node) (hl : names.length ≤ 1048576 ∧ ws.length ≤ 1048576) : ∀ (N : Nat) (n : Node), 1048600 + n.size < N → n.size ≤ 1048576 → (∀ w ∈ ws, w.size ≤ 1048576) → F22 N n names ws = some (substR names ws n)
 | 0, n, h, _, _ => absurd h (Nat.not_lt_zero _)
 | N + 1, n, h, hb, hw => by
   have hk := kids_len n
   show F22b (F22 N) N n names ws = _
   rw [substR_eq]
   have hd : decide ((0 : Nat) ≤ 0 ∧ 0 ≤ (n.kids.length : Int) ∧ (n.kids.length : Int) * 64 ≤ 140737488355328 ∧ (n.kids.length : Int) ≤ 9223372036854775807) = true := decide_eq_true (by omega)
   have ih : ∀ k ∈ n.kids, (fun k => F22 N k names ws) k = some (substR names ws k) := fun k hk => subst22 names ws hl N k (by have := kids_size hk; omega) (by have := kids_size hk; omega) hw
   have f2 := app_fold (fun k => F22 N k names ws) (substR names ws) (F22_s2 (F22 N) names ws) (fun _ _ _ => rfl) (F22_f2 n) n.kids N (by omega) (by omega) ih
   have f3 := app_fold (fun k => F22 N k names ws) (substR names ws) (F22_s3 (F22 N) names ws) (fun _ _ _ => rfl) (F22_f3 n) n.kids N (by omega) (by omega) ih
   cases h1 : n.op == 1 with
   | true =>
     have hm : (min (names.length : Int) (ws.length : Int)).toNat = min names.length ws.length := by omega
     have := search22 N n names ws (F22_f1 (F22 N) N n names ws) (fun w hw' => ⟨by have := hw w hw'; omega, hw w hw'⟩) (List.range (min names.length ws.length)) N 0 (by simp) (by simp; omega)
     simp only [F22b, h1, iteO_true, cond_true, hm]
     rw [this]
     simp only [F22_f1, hd, iteO_true, f2, List.drop_zero]
     rfl
   | false =>
     simp only [F22b, h1, iteO_false, cond_false, hd, iteO_true, f3]
     rfl
end Go.Abs.Try
namespace Go.Abs.Try
set_option maxRecDepth 100000
theorem same83 : ∀ (N : Nat) (n : Node), n.size < N → n.size ≤ 1048576 → F83 N n = some n
 | 0, n, h, _ => absurd h (Nat.not_lt_zero _)
 | N + 1, n, h, hb => by
   have hk := kids_len n
   show F83b (F83 N) N n = _
   simp only [F83b]
   rw [app_fold (F83 N) id (F83_s2 (F83 N)) (fun _ _ _ => rfl) (F83_f2 n) n.kids N (by omega) (by omega) (fun k hk => same83 N k (by have := kids_size hk; omega) (by have := kids_size hk; omega)), List.map_id]
   cases n; rfl
end Go.Abs.Try
namespace Go.Abs.Try
set_option maxRecDepth 100000
theorem mem_le_sum : ∀ (l : List Node) (x : Node), x ∈ l → x.size ≤ (l.map Node.size).sum
 | y :: l, x, h => by
   rw [List.map_cons, List.sum_cons]
   rcases List.mem_cons.1 h with rfl | h
   · omega
   · have := mem_le_sum l x h; omega
def conjL : List Node → Node
 | [] => nd 30 []
 | x :: xs => xs.foldl (fun a b => nd 33 [a, b]) x
theorem cutL_1 {α : Type} (x : α) (l : List α) : cutL (x :: l) 1 ((x :: l).length : Int) = l := by
 unfold cutL
 simp only [List.length_cons]
 rw [show (1 : Int).toNat = 1 from rfl, List.drop_one, List.tail_cons, show ((((l.length + 1 : Nat) : Int) - 1).toNat) = l.length from by omega, List.take_length]
theorem inS_1 {α : Type} (x : α) (l : List α) : inS 1 ((x :: l).length : Int) (x :: l).length = true := by
 unfold inS
 exact decide_eq_true (by simp only [List.length_cons]; omega)
theorem conj52_fold (N : Nat) : ∀ (xs : List Node) (a : Node) (M i : Nat), xs.length < M → (∀ x ∈ xs, x.size ≤ 1048576 ∧ x.size < N) →
   foldN (S := Int × Int × ByteArray × Int × (List Node)) (F52_s2 N) F52_f2 M xs i (a.op, a.sortf, a.name, a.num, a.kids) = some (xs.foldl (fun a b => nd 33 [a, b]) a)
 | _, _, 0, _, h, _ => absurd h (Nat.not_lt_zero _)
 | [], a, _ + 1, _, _, _ => by cases a; rfl
 | x :: xs, a, M + 1, i, h, hx => by
   show bindO (F52_s2 N (a.op, a.sortf, a.name, a.num, a.kids) i x) _ = _
   unfold F52_s2
   rw [copied82 N x (hx x (by simp)).2 (hx x (by simp)).1]
   have := conj52_fold N xs (nd 33 [a, x]) M (i + 1) (by simp at h; omega) (fun y hy => hx y (by simp [hy]))
   cases a
   exact this
theorem conj53_fold (N : Nat) : ∀ (xs : List Node) (a : Node) (M i : Nat), xs.length < M → (∀ x ∈ xs, x.size ≤ 1048576 ∧ x.size < N) →
   foldN (S := Int × Int × ByteArray × Int × (List Node)) (F53_s1 N) F53_f1 M xs i (a.op, a.sortf, a.name, a.num, a.kids) = some (xs.foldl (fun a b => nd 33 [a, b]) a)
 | _, _, 0, _, h, _ => absurd h (Nat.not_lt_zero _)
 | [], a, _ + 1, _, _, _ => by cases a; rfl
 | x :: xs, a, M + 1, i, h, hx => by
   show bindO (F53_s1 N (a.op, a.sortf, a.name, a.num, a.kids) i x) _ = _
   unfold F53_s1
   rw [same83 N x (hx x (by simp)).2 (hx x (by simp)).1]
   have := conj53_fold N xs (nd 33 [a, x]) M (i + 1) (by simp at h; omega) (fun y hy => hx y (by simp [hy]))
   cases a
   exact this
theorem conj52 (N : Nat) (l : List Node) (hl : l.length < N) (hx : ∀ x ∈ l, x.size ≤ 1048576 ∧ x.size < N) : F52 N l = some (conjL l) := by
 match l with
 | [] => rfl
 | x :: xs =>
   unfold F52
   rw [show (((x :: xs).length : Int) == 0) = false from by simp only [List.length_cons]; exact beq_eq_false_iff_ne.2 (by omega), iteO_false, show atO (x :: xs) 0 = some x from atO_lit (i := 0) rfl rfl, bindO_some,
     copied82 N x (hx x (by simp)).2 (hx x (by simp)).1, bindO_some, inS_1, iteO_true, cutL_1]
   exact conj52_fold N xs x N 0 (by simp at hl; omega) fun y hy => hx y (by simp [hy])
theorem conj53 (N : Nat) (l : List Node) (hl : l.length < N) (hx : ∀ x ∈ l, x.size ≤ 1048576 ∧ x.size < N) : F53 N l = some (conjL l) := by
 match l with
 | [] => rfl
 | x :: xs =>
   unfold F53
   rw [show (((x :: xs).length : Int) == 0) = false from by simp only [List.length_cons]; exact beq_eq_false_iff_ne.2 (by omega), iteO_false, show atO (x :: xs) 0 = some x from atO_lit (i := 0) rfl rfl, bindO_some,
     same83 N x (hx x (by simp)).2 (hx x (by simp)).1, bindO_some, inS_1, iteO_true, cutL_1]
   exact conj53_fold N xs x N 0 (by simp at hl; omega) fun y hy => hx y (by simp [hy])
theorem conj_size : ∀ (xs : List Node) (a : Node), (xs.foldl (fun a b => nd 33 [a, b]) a).size = a.size + xs.length + (xs.map Node.size).sum
 | [], a => by simp
 | x :: xs, a => by
   rw [List.foldl_cons, conj_size xs]
   simp only [nd_size, List.map_cons, List.map_nil, List.sum_cons, List.sum_nil, List.length_cons]; omega
theorem conjL_size (l : List Node) : (conjL l).size ≤ 1 + l.length + (l.map Node.size).sum := by
 match l with
 | [] => simp [conjL, nd_size]
 | x :: xs =>
   unfold conjL
   rw [conj_size]
   simp only [List.length_cons, List.map_cons, List.sum_cons]; omega
theorem eq1270 (N : Nat) (a b : Node) (h : a.size < N) : F1270 N a b = some (eqR a b) := by
 unfold F1270 eqR
 rw [sort36n N a h, bindO_some]
 cases sortS a == 2 <;> rfl
theorem alike_fold (K : Nat) (b : Node) (hb : b.size < K) : ∀ (ks : List Node) (M i : Nat), ks.length < M → i + ks.length = b.kids.length → (∀ x ∈ ks, x.size < K) →
   ∃ v, foldN (F1245_s1 K b) F1245_f1 M ks i () = some v ∧ foldN (F1256_s1 K b) F1256_f1 M ks i () = some v
 | _, 0, _, h, _, _ => absurd h (Nat.not_lt_zero _)
 | [], _ + 1, _, _, _, _ => ⟨true, rfl, rfl⟩
 | x :: xs, M + 1, i, h, hi, hx => by
   simp only [List.length_cons] at h hi
   obtain ⟨y, hy⟩ : ∃ y, b.kids[i]? = some y := ⟨_, List.getElem?_eq_getElem (by omega)⟩
   have hyz := kids_size (List.mem_of_getElem? hy)
   show ∃ v, bindO (F1245_s1 K b () i x) _ = some v ∧ bindO (F1256_s1 K b () i x) _ = some v
   unfold F1245_s1 F1256_s1
   simp only [sort36n K x (hx x (by simp)), sort28 K x (hx x (by simp)), sort36n K y (by omega), sort28 K y (by omega), atO_get hy, bindO_some]
   cases sortS x == sortS y with
   | false => exact ⟨false, rfl, rfl⟩
   | true => exact alike_fold K b hb xs M (i + 1) (by omega) (by omega) fun z hz => hx z (by simp [hz])
theorem alike (K : Nat) (a b : Node) (ha : a.size < K) (hb : b.size < K) : ∃ v, F1245 K a b = some v ∧ F1256 K a b = some v ∧ (v = true → a.kids.length = b.kids.length) := by
 unfold F1245 F1256
 have no : ∀ v : Bool, v = false → (v = true → a.kids.length = b.kids.length) := fun v h h' => by rw [h] at h'; cases h'
 cases a.op == 3 with
 | false => exact ⟨false, rfl, rfl, no _ rfl⟩
 | true =>
 cases b.op == 3 with
 | false => exact ⟨false, rfl, rfl, no _ rfl⟩
 | true =>
 cases a.name.toList == b.name.toList with
 | false => exact ⟨false, rfl, rfl, no _ rfl⟩
 | true =>
 cases a.sortf == b.sortf with
 | false => exact ⟨false, rfl, rfl, no _ rfl⟩
 | true =>
 cases hl : (a.kids.length : Int) == (b.kids.length : Int) with
 | false => exact ⟨false, rfl, rfl, no _ rfl⟩
 | true =>
   have hl := beq_iff_eq.1 hl
   cases (a.kids.length : Int) == 0 with
   | true => exact ⟨false, rfl, rfl, no _ rfl⟩
   | false =>
     have := kids_len a
     obtain ⟨v, e1, e2⟩ := alike_fold K b hb a.kids K 0 (by omega) (by omega) fun x hx => by have := kids_size hx; omega
     exact ⟨v, e1, e2, fun _ => by omega⟩
section
open Classical
end
end Go.Abs.Try
namespace Go.Abs.Try
set_option maxRecDepth 100000
def hol (n : Node) : Bool := (nodes n).any fun x => x.op == 42
theorem hol42 (n : Node) (h : n.size < 4611686018427387904) : F42 n = some (hol n) := by
 unfold F42 hol
 rw [walk_ok n h, bindO_some, foldO_all (fun x : Node => !(x.op == 42)) true (nodes n) fun x _ => ?_]
 · show (bif (nodes n).all (fun x => !(x.op == 42)) then some false else some true) = _
   rw [← List.not_any_eq_all_not]
   cases (nodes n).any fun x => x.op == 42 <;> rfl
 · unfold F42_s1
   cases x.op == 42 <;> rfl
theorem hol43 : ∀ (N : Nat) (n : Node), n.size < N → F43 N n = some (hol n)
 | 0, n, h => absurd h (Nat.not_lt_zero _)
 | N + 1, n, h => by
   have hl := kids_len n
   have hk : ∀ x ∈ n.kids, F43 N x = some (hol x) := fun x hx => hol43 N x (by have := kids_size hx; omega)
   show F43b (F43 N) N n = _
   unfold F43b hol
   rw [nodes_eq, List.any_cons]
   have hL : foldN (F43_s1 (F43 N)) F43_f1 N n.kids 0 () = some (n.kids.any hol) := by
     rw [foldN_all (fun x => !(hol x)) true n.kids N 0 (by omega) fun x hx i => ?_]
     · show (bif n.kids.all (fun x => !hol x) then some false else some true) = _
       rw [← List.not_any_eq_all_not]
       cases n.kids.any hol <;> rfl
     · simp only [F43_s1, hk x hx, bindO_some]
       cases hol x <;> rfl
   have hN : (nodesL n.kids).any (fun x => x.op == 42) = n.kids.any hol := by
     have : ∀ ks : List Node, (nodesL ks).any (fun x => x.op == 42) = ks.any hol := by
       intro ks
       induction ks with
       | nil => rfl
       | cons a ks ih => simp only [nodesL, List.any_append, List.any_cons, ih, hol]
     exact this _
   rw [hL, hN]
   cases n.op == 42 <;> rfl
theorem check_sorted2 (N : Nat) (n : Node) (hN : 4611686018400000000 ≤ N ∧ N ≤ 4611686018427387904) (hb : n.size ≤ 1048576) (h : F15 N n 2 = some 0) : sortedR n = true := by
 obtain ⟨k, hk, _, _⟩ := levels39 N n (by omega) (by omega)
 have h27 := size27 N n (by omega) (by omega)
 have h72 := sorted72 N n (by omega)
 have h0 : decide ((2 : Int) < 0) = false := rfl
 have h5 : decide ((2 : Int) > 5) = false := rfl
 simp only [F15, h0, h5, iteO_false, hk, h27, h72, bindO_some] at h
 cases hs : sortedR n with
 | true => rfl
 | false =>
   rw [hs] at h
   cases hx : decide ((n.size : Int) > 4000) with
   | true => rw [hx] at h; simp only [iteO_true] at h; injection h with h; omega
   | false =>
     cases hy : decide (k > 100) with
     | true => rw [hx, hy] at h; simp only [iteO_true, iteO_false] at h; injection h with h; omega
     | false => rw [hx, hy] at h; simp only [iteO_true, iteO_false] at h; injection h with h; omega
section
open Classical
noncomputable def codeK (n : Node) : Int := if K2 n then 2 else if K3 n then 3 else if K4i n ∨ K4o n then 4 else if K5i n ∨ K5o n then 5 else if K6 n then 6 else if K7i n ∨ K7o n then 7 else if K8 n then 8 else 0
variable (n : Node)
theorem x45 (h : K4o n) : ¬ K5o n := by
 rintro ⟨a, b, w, e, _⟩
 obtain ⟨a', b', w', rfl, _⟩ := h
 simp only [part4, part5, nd_inj, lst2] at e
 exact absurd e.2.1.1 (by decide)
theorem x47 (h : K4o n) : ¬ K7o n := by
 rintro ⟨a, b, w, e, _⟩
 obtain ⟨a', b', w', rfl, _⟩ := h
 simp only [part4, diffN, nd_inj, lst2] at e
 exact absurd e.2.1.1 (by decide)
variable (N : Nat)
theorem chain (hs : sortedR n = true) (hN : n.size ≤ 1048576) (hB : 100000000 ≤ N) :
   (bindO (F1229 N n) fun r3 =>
       iteO r3
       (some 2)
       (bindO (F1230 N n) fun r4 =>
         iteO r4
         (some 3)
         (bindO (F1231 N n) fun r5 =>
           iteO r5
           (some 4)
           (bindO (F1232 N n) fun r6 =>
             iteO r6
             (some 5)
             (bindO (F1233 N n) fun r7 =>
               iteO r7
               (some 6)
               (bindO (F1234 N n) fun r8 =>
                 iteO r8
                 (some 7)
                 (bindO (F1235 N n) fun r9 =>
                   iteO r9
                   (some 8)
                   (some (0 : Int))))))))) = some (codeK n) := by
 have e4 : F1231 N n = some (decide (K4i n ∨ K4o n)) := by unfold F1231; rw [rel4 N n hs hN hB]; rfl
 have e5 : F1232 N n = some (decide (K5i n ∨ K5o n)) := by unfold F1232; rw [rel5 N n hs hN hB]; rfl
 rw [p1229 N n hs hN hB, p1230 N n hs hN hB, e4, e5, p1233 N n hs hN hB, p1234 N n hs hN hB, p1235 N n hs hN hB]
 simp only [bindO_some]
 unfold codeK
 by_cases h2 : K2 n
 · rw [decide_eq_true h2, if_pos h2]; rfl
 rw [decide_eq_false h2, if_neg h2, iteO_false]
 by_cases h3 : K3 n
 · rw [decide_eq_true h3, if_pos h3]; rfl
 rw [decide_eq_false h3, if_neg h3, iteO_false]
 by_cases h4 : K4i n ∨ K4o n
 · rw [decide_eq_true h4, if_pos h4]; rfl
 rw [decide_eq_false h4, if_neg h4, iteO_false]
 by_cases h5 : K5i n ∨ K5o n
 · rw [decide_eq_true h5, if_pos h5]; rfl
 rw [decide_eq_false h5, if_neg h5, iteO_false]
 by_cases h6 : K6 n
 · rw [decide_eq_true h6, if_pos h6]; rfl
 rw [decide_eq_false h6, if_neg h6, iteO_false]
 by_cases h7 : K7i n ∨ K7o n
 · rw [decide_eq_true h7, if_pos h7]; rfl
 rw [decide_eq_false h7, if_neg h7, iteO_false]
 by_cases h8 : K8 n
 · rw [decide_eq_true h8, if_pos h8]; rfl
 rw [decide_eq_false h8, if_neg h8, iteO_false]
end
end Go.Abs.Try
namespace Go.Abs.Try
set_option maxRecDepth 100000
section
open Classical
variable (N : Nat) (n : Node)
end
def big : Nat := 4611686018427387904
end Go.Abs.Try
namespace Go.Abs.Try
set_option maxRecDepth 100000
theorem sorts_fold (N : Nat) : ∀ (ks : List Node) (M : Nat) (pre : List Int), ks.length < M → (∀ x ∈ ks, x.size < N) →
   foldN (F1243_s1 N) F1243_f1 M ks pre.length (pre ++ List.replicate ks.length 0) = some (pre ++ ks.map sortS)
 | _, 0, _, h, _ => absurd h (Nat.not_lt_zero _)
 | [], _ + 1, pre, _, _ => rfl
 | x :: xs, M + 1, pre, h, hx => by
   simp only [List.length_cons] at h
   show bindO (F1243_s1 N (pre ++ List.replicate (xs.length + 1) 0) pre.length x) _ = _
   have hg : (pre ++ List.replicate (xs.length + 1) (0 : Int))[pre.length]? = some 0 := by
     rw [List.getElem?_append_right (Nat.le_refl _), Nat.sub_self, List.replicate_succ]; rfl
   have hset : (pre ++ List.replicate (xs.length + 1) (0 : Int)).set pre.length (sortS x) = (pre ++ [sortS x]) ++ List.replicate xs.length 0 := by
     rw [List.set_append_right _ _ (Nat.le_refl _), Nat.sub_self, List.replicate_succ, List.set_cons_zero, List.append_assoc]; rfl
   unfold F1243_s1
   rw [sort36n N x (hx x (by simp)), bindO_some, atO_get hg, bindO_some, hset]
   have := sorts_fold N xs M (pre ++ [sortS x]) (by omega) fun y hy => hx y (by simp [hy])
   rw [List.length_append] at this
   rw [List.map_cons, show pre ++ sortS x :: xs.map sortS = (pre ++ [sortS x]) ++ xs.map sortS from by rw [List.append_assoc]; rfl]
   exact this
theorem sorts1243 (N : Nat) (l : List Node) (hl : l.length < N) (hb : l.length ≤ 1000) (hx : ∀ x ∈ l, x.size < N) : F1243 N l = some (l.map sortS) := by
 unfold F1243
 rw [decide_eq_true (by omega), iteO_true]
 exact sorts_fold N l N [] hl hx
theorem same_fold (h : List Int) : ∀ (us : List Int) (M i : Nat), us.length < M → i + us.length = h.length → foldN (F1394_s1 h) F1394_f1 M us i () = some (decide (h.drop i = us))
 | _, 0, _, h, _ => absurd h (Nat.not_lt_zero _)
 | [], _ + 1, i, _, hi => by
   rw [List.drop_eq_nil_of_le (by simp at hi; omega)]; rfl
 | x :: xs, M + 1, i, hl, hi => by
   simp only [List.length_cons] at hl hi
   have hlt : i < h.length := by omega
   show bindO (F1394_s1 h () i x) _ = _
   unfold F1394_s1
   rw [atO_get (List.getElem?_eq_getElem hlt), bindO_some, List.drop_eq_getElem_cons hlt]
   by_cases he : h[i] = x
   · rw [beq_iff_eq.2 he, iteO_true]
     have := same_fold h xs M (i + 1) (by omega) (by omega)
     refine Eq.trans this ?_
     congr 1
     rw [decide_eq_decide, he]
     exact ⟨fun h => by rw [h], fun h => (List.cons.inj h).2⟩
   · rw [beq_eq_false_iff_ne.2 he, iteO_false, decide_eq_false (fun h => he (List.cons.inj h).1)]; rfl
theorem sorts1394 (N : Nat) (u h : List Int) (hu : u.length < N) : F1394 N u h = some (decide (h = u)) := by
 unfold F1394
 by_cases hl : h.length = u.length
 · rw [beq_iff_eq.2 (by omega), iteO_true, same_fold h u N 0 hu (by omega), List.drop_zero]
 · rw [beq_eq_false_iff_ne.2 (by omega), iteO_false, decide_eq_false (fun e => hl (by rw [e]))]
def okP (N : Nat) (n : Node) : Bool := F15 N n 0 == some 0
theorem ok15 (N : Nat) (n : Node) (hN : 4611686018400000000 ≤ N ∧ N ≤ 4611686018427387904) (hb : n.size ≤ 1048576) : ∃ r, F14 N n 0 = some r ∧ F15 N n 0 = some r ∧ (r == 0) = okP N n := by
 obtain ⟨r, h14, h15⟩ := check_same N n 0 hN hb
 refine ⟨r, h14, h15, ?_⟩
 unfold okP
 rw [h15]
 rw [Bool.eq_iff_iff, beq_iff_eq, beq_iff_eq]
 exact ⟨fun h => by rw [h], fun h => by injection h⟩
theorem check_sorted0 (N : Nat) (n : Node) (hN : 4611686018400000000 ≤ N ∧ N ≤ 4611686018427387904) (hb : n.size ≤ 1048576) (h : F15 N n 0 = some 0) : sortedR n = true := by
 obtain ⟨k, hk, _, _⟩ := levels39 N n (by omega) (by omega)
 have h27 := size27 N n (by omega) (by omega)
 have h72 := sorted72 N n (by omega)
 have h0 : decide ((0 : Int) < 0) = false := rfl
 have h5 : decide ((0 : Int) > 5) = false := rfl
 simp only [F15, h0, h5, iteO_false, hk, h27, h72, bindO_some] at h
 cases hs : sortedR n with
 | true => rfl
 | false =>
   rw [hs] at h
   cases hx : decide ((n.size : Int) > 4000) with
   | true => rw [hx] at h; simp only [iteO_true] at h; injection h with h; omega
   | false =>
     cases hy : decide (k > 100) with
     | true => rw [hx, hy] at h; simp only [iteO_true, iteO_false] at h; injection h with h; omega
     | false => rw [hx, hy] at h; simp only [iteO_true, iteO_false] at h; injection h with h; omega
theorem okP_sorted (N : Nat) (n : Node) (hN : 4611686018400000000 ≤ N ∧ N ≤ 4611686018427387904) (hb : n.size ≤ 1048576) (h : okP N n = true) : sortedR n = true   := check_sorted0 N n hN hb (beq_iff_eq.1 h)
theorem sorted_fold (N : Nat) (hN : 4611686018400000000 ≤ N ∧ N ≤ 4611686018427387904) (p : List Node) (hp : ∀ x ∈ p, x.size ≤ 1048576) : ∀ (us : List Int) (M i : Nat), us.length < M → i + us.length = p.length →
   foldN (F1259_s1 N p) F1259_f1 M us i () = some (decide ((p.drop i).map sortS = us) && (p.drop i).all (okP N))
 | _, 0, _, h, _ => absurd h (Nat.not_lt_zero _)
 | [], _ + 1, i, _, hi => by
   rw [List.drop_eq_nil_of_le (by simp at hi; omega)]; rfl
 | x :: xs, M + 1, i, hl, hi => by
   simp only [List.length_cons] at hl hi
   have hlt : i < p.length := by omega
   have hz := hp p[i] (List.getElem_mem hlt)
   obtain ⟨r, _, h15, hr⟩ := ok15 N p[i] hN hz
   show bindO (F1259_s1 N p () i x) _ = _
   unfold F1259_s1
   rw [atO_get (List.getElem?_eq_getElem hlt), bindO_some, h15, bindO_some, hr, sort28 N p[i] (by omega), bindO_some, List.drop_eq_getElem_cons hlt, List.map_cons, List.all_cons]
   cases hk : okP N p[i] with
   | false => rw [Bool.false_and, Bool.and_false]; rfl
   | true =>
     rw [iteO_true, Bool.true_and]
     by_cases he : sortS p[i] = x
     · rw [beq_iff_eq.2 he, iteO_true]
       refine Eq.trans (sorted_fold N hN p hp xs M (i + 1) (by omega) (by omega)) ?_
       congr 2
       rw [decide_eq_decide, he]
       exact ⟨fun h => by rw [h], fun h => (List.cons.inj h).2⟩
     · rw [beq_eq_false_iff_ne.2 he, iteO_false, decide_eq_false (fun h => he (List.cons.inj h).1), Bool.false_and]; rfl
theorem sorted1259 (N : Nat) (hN : 4611686018400000000 ≤ N ∧ N ≤ 4611686018427387904) (p : List Node) (hp : ∀ x ∈ p, x.size ≤ 1048576) (u : List Int) (hu : u.length < 1000) :
   F1259 N p u = some (decide (p.map sortS = u) && p.all (okP N)) := by
 unfold F1259
 by_cases hl : p.length = u.length
 · rw [beq_iff_eq.2 (by omega), iteO_true, sorted_fold N hN p hp u N 0 (by omega) (by omega), List.drop_zero]
 · rw [beq_eq_false_iff_ne.2 (by omega), iteO_false, decide_eq_false (fun e => hl (by rw [← e, List.length_map])), Bool.false_and]
end Go.Abs.Try
namespace Go.Abs.Try
set_option maxRecDepth 100000
theorem hol_eq (n : Node) : hol n = (n.op == 42 || n.kids.any hol) := by
 unfold hol
 rw [nodes_eq, List.any_cons]
 have : ∀ ks : List Node, (nodesL ks).any (fun x => x.op == 42) = ks.any hol := by
   intro ks
   induction ks with
   | nil => rfl
   | cons a ks ih => simp only [nodesL, List.any_append, List.any_cons, ih, hol]
 rw [this n.kids]
 rfl
theorem hol_nd (k : Int) (ks : List Node) (hk : (k == 42) = false) : hol (nd k ks) = ks.any hol := by
 rw [hol_eq, nd_op, nd_kids, hk, Bool.false_or]
theorem hol_kid {n k : Node} (h : hol n = false) (hk : k ∈ n.kids) : hol k = false := by
 rw [hol_eq, Bool.or_eq_false_iff, List.any_eq_false] at h
 have := h.2 k hk
 cases hh : hol k with
 | false => rfl
 | true => exact absurd hh this
theorem hol_eqR {a b : Node} (ha : hol a = false) (hb : hol b = false) : hol (eqR a b) = false := by
 unfold eqR
 cases sortS a == 2
 · rw [cond_false, hol_nd _ _ rfl]; simp [ha, hb]
 · rw [cond_true, hol_nd _ _ rfl]; simp [ha, hb]
theorem hol_memN {e s m : Node} (h : memN e s = some m) (he : hol e = false) (hs : hol s = false) : hol m = false := by
 have hk : ∀ x ∈ s.kids, hol x = false := fun x hx => hol_kid hs hx
 unfold memN at h
 cases h9 : s.op == 9 with
 | true =>
   rw [h9] at h; simp only [cond_true] at h; injection h with h; subst h
   simp [hol_nd, he, hs]
 | false =>
   rw [h9] at h; simp only [cond_false] at h
   cases h10 : s.op == 10 with
   | true =>
     rw [h10] at h; simp only [cond_true] at h
     match hk2 : s.kids, h with
     | [x], h =>
       injection h with h; subst h
       have := hk x (by rw [hk2]; simp)
       simp [hol_nd, he, hs, this]
     | [], h => cases h
     | _ :: _ :: _, h => cases h
   | false =>
     rw [h10] at h; simp only [cond_false] at h
     have two : ∀ (f : Node → Node → Node), (match s.kids with | [x, y] => some (f x y) | _ => none) = some m → (∀ x y, hol x = false → hol y = false → hol (f x y) = false) → hol m = false := by
       intro f hf hp
       match hk2 : s.kids, hf with
       | [x, y], hf =>
         injection hf with hf; subst hf
         exact hp x y (hk x (by rw [hk2]; simp)) (hk y (by rw [hk2]; simp))
       | [], hf => cases hf
       | [_], hf => cases hf
       | _ :: _ :: _ :: _, hf => cases hf
     cases h11 : s.op == 11 with
     | true => rw [h11] at h; exact two (fun x y => nd 36 [nd 40 [e, s], nd 34 [nd 40 [e, x], nd 40 [e, y]]]) h fun x y hx hy => by simp [hol_nd, he, hs, hx, hy]
     | false =>
     rw [h11] at h; simp only [cond_false] at h
     cases h12 : s.op == 12 with
     | true => rw [h12] at h; exact two (fun x y => nd 36 [nd 40 [e, s], nd 33 [nd 40 [e, x], nd 40 [e, y]]]) h fun x y hx hy => by simp [hol_nd, he, hs, hx, hy]
     | false =>
     rw [h12] at h; simp only [cond_false] at h
     cases h13 : s.op == 13 with
     | true => rw [h13] at h; exact two (fun x y => nd 36 [nd 40 [e, s], nd 33 [nd 40 [e, x], nd 32 [nd 40 [e, y]]]]) h fun x y hx hy => by simp [hol_nd, he, hs, hx, hy]
     | false => rw [h13] at h; cases h
section
open Classical
def inst (x : Node) : Prop := K2 x ∨ K3 x ∨ K4i x ∨ K5i x ∨ K6 x ∨ K7i x ∨ K8 x
theorem inst_code (x : Node) (h : inst x) : codeK x ≠ 0 := by
 unfold codeK
 by_cases h2 : K2 x
 · rw [if_pos h2]; decide
 by_cases h3 : K3 x
 · rw [if_neg h2, if_pos h3]; decide
 by_cases h4 : K4i x ∨ K4o x
 · rw [if_neg h2, if_neg h3, if_pos h4]; decide
 by_cases h5 : K5i x ∨ K5o x
 · rw [if_neg h2, if_neg h3, if_neg h4, if_pos h5]; decide
 by_cases h6 : K6 x
 · rw [if_neg h2, if_neg h3, if_neg h4, if_neg h5, if_pos h6]; decide
 by_cases h7 : K7i x ∨ K7o x
 · rw [if_neg h2, if_neg h3, if_neg h4, if_neg h5, if_neg h6, if_pos h7]; decide
 by_cases h8 : K8 x
 · rw [if_neg h2, if_neg h3, if_neg h4, if_neg h5, if_neg h6, if_neg h7, if_pos h8]; decide
 · rcases h with h | h | h | h | h | h | h
   · exact absurd h h2
   · exact absurd h h3
   · exact absurd (.inl h) h4
   · exact absurd (.inl h) h5
   · exact absurd h h6
   · exact absurd (.inl h) h7
   · exact absurd h h8
def hp0 (p : List Node) : Prop := ∀ y ∈ p, hol y = false
variable (N : Nat) (hN : 4611686018400000000 ≤ N ∧ N ≤ 4611686018427387904) (p : List Node) (hp : ∀ x ∈ p, x.size ≤ 300) (hl : p.length ≤ 8) (hg : p.all (okP N) = true)
include hN hp hl hg
theorem made28 (kind : Int) (h1 : (kind == 1) = false) : ∃ l ok, F1225 N kind p = some (l, ok) ∧ F1227 N kind p = some (l, ok) ∧ l.length ≤ 8 ∧ ∀ x ∈ l, inst x ∧ x.size ≤ 4000 ∧ (hp0 p → hol x = false) := by
 have hs : ∀ x ∈ p, sortedR x = true := fun x hx => okP_sorted N x hN (by have := hp x hx; omega) (List.all_eq_true.1 hg x hx)
 have hr : ∀ u : List Int, u.length < 1000 → F1259 N p u = some (decide (p.map sortS = u)) := fun u hu => by
   rw [sorted1259 N hN p (fun x hx => by have := hp x hx; omega) u hu, hg, Bool.and_true]
 have none : ∃ l ok, some (([] : List Node), false) = some (l, ok) ∧ some (([] : List Node), false) = some (l, ok) ∧ l.length ≤ 8 ∧ ∀ x ∈ l, inst x ∧ x.size ≤ 4000 ∧ (hp0 p → hol x = false) := ⟨_, _, rfl, rfl, by simp, by simp⟩
 have one : ∀ x : Node, inst x → x.size ≤ 4000 → (hp0 p → hol x = false) → ∃ l ok, some ([x], true) = some (l, ok) ∧ some ([x], true) = some (l, ok) ∧ l.length ≤ 8 ∧ ∀ x ∈ l, inst x ∧ x.size ≤ 4000 ∧ (hp0 p → hol x = false) := fun x h hz hh => ⟨_, _, rfl, rfl, by simp, by
   intro y hy; rw [List.mem_singleton.1 hy]; exact ⟨h, hz, hh⟩⟩
 unfold F1225 F1227
 simp only [sorts1243 N p (by omega) (by omega) (fun x hx => by have := hp x hx; omega), bindO_some, h1, iteO_false, sorts1394 N _ _ (show [(1 : Int), 4].length < N by simp; omega),
   sorts1394 N _ _ (show [(1 : Int), 1, 4].length < N by simp; omega), sorts1394 N _ _ (show [(4 : Int), 4, 1].length < N by simp; omega), sorts1394 N _ _ (show [(1 : Int), 5].length < N by simp; omega),
   sorts1394 N _ _ (show [(1 : Int), 1, 5].length < N by simp; omega), sorts1394 N _ _ (show [(5 : Int)].length < N by simp; omega), sorts1394 N _ _ (show [(5 : Int), 5, 1].length < N by simp; omega),
   hr [1, 4] (by simp), hr [1, 1, 4] (by simp), hr [4, 4, 1] (by simp), hr [1, 5] (by simp), hr [1, 1, 5] (by simp), hr [5] (by simp), hr [5, 5, 1] (by simp)]
 cases kind == 2 with
 | true =>
   rw [iteO_true, iteO_true]
   by_cases e : p.map sortS = [1, 4]
   · rw [decide_eq_true e, iteO_true, iteO_true]
     obtain ⟨a, b, rfl, ha, hb⟩ := map2 e
     have za := hp a (by simp)
     have zb := hp b (by simp)
     have sb := hs b (by simp)
     simp only [at2_0, at2_1, bindO_some, member1247 a b sb, mem1260 N a b sb (by omega) (by rw [ha]; decide)]
     cases hM : memN a b with
     | none => exact ⟨_, _, rfl, rfl, by simp, by simp⟩
     | some m => exact one m (.inl ⟨a, b, sb, hM⟩) (by have := (memN_some hM).2.2; omega) (fun h => hol_memN hM (h a (by simp)) (h b (by simp)))
   · rw [decide_eq_false e]; exact none
 | false =>
 cases kind == 3 with
 | true =>
   rw [iteO_false, iteO_false, iteO_true, iteO_true]
   by_cases e : p.map sortS = [1, 1, 4]
   · rw [decide_eq_true e, iteO_true, iteO_true]
     obtain ⟨a, b, c, rfl, ha, hb, hc⟩ := map3 e
     have za := hp a (by simp)
     have zb := hp b (by simp)
     have zc := hp c (by simp)
     have e3 : nd 35 [eqR a b, nd 36 [nd 40 [a, c], nd 40 [b, c]]] = sameN a b c := by rw [eqR_ne (by rw [ha]; decide)]; rfl
     simp only [at3_0, at3_1, at3_2, bindO_some, same1248, moved1261 N a b c (by omega), e3]
     exact one _ (.inr (.inl ⟨a, b, c, rfl, ha⟩)) (by simp only [sameN, nd_size, List.map_cons, List.map_nil, List.sum_cons, List.sum_nil]; omega) (fun h => by simp [sameN, hol_nd, h a (by simp), h b (by simp), h c (by simp)])
   · rw [decide_eq_false e]; exact none
 | false =>
 rw [iteO_false, iteO_false, iteO_false, iteO_false]
 cases k4 : kind == 4 with
 | true =>
   have k4 := beq_iff_eq.1 k4
   rw [iteO_true, iteO_true]
   by_cases e : p.map sortS = [4, 4, 1]
   · rw [decide_eq_true e, iteO_true, iteO_true]
     obtain ⟨a, b, c, rfl, ha, hb, hc⟩ := map3 e
     have za := hp a (by simp)
     have zb := hp b (by simp)
     have zc := hp c (by simp)
     simp only [at3_0, at3_1, at3_2, bindO_some, k4, passes4, incl1262]
     exact one _ (.inr (.inr (.inl ⟨a, b, c, rfl⟩))) (by simp only [pass4, nd_size, List.map_cons, List.map_nil, List.sum_cons, List.sum_nil]; omega) (fun h => by simp [pass4, hol_nd, h a (by simp), h b (by simp), h c (by simp)])
   · rw [decide_eq_false e]; exact none
 | false =>
 rw [iteO_false, iteO_false]
 cases k5 : kind == 5 with
 | true =>
   have k5 := beq_iff_eq.1 k5
   rw [iteO_true, iteO_true]
   by_cases e : p.map sortS = [4, 4, 1]
   · rw [decide_eq_true e, iteO_true, iteO_true]
     obtain ⟨a, b, c, rfl, ha, hb, hc⟩ := map3 e
     have za := hp a (by simp)
     have zb := hp b (by simp)
     have zc := hp c (by simp)
     have e3 : nd 35 [eqR a b, nd 36 [nd 40 [c, a], nd 40 [c, b]]] = pass5 a b c := by rw [eqR_ne (by rw [ha]; decide)]; rfl
     simp only [at3_0, at3_1, at3_2, bindO_some, k5, passes5, shared1263 N a b c (by omega), e3]
     exact one _ (.inr (.inr (.inr (.inl ⟨a, b, c, rfl, ha⟩)))) (by simp only [pass5, nd_size, List.map_cons, List.map_nil, List.sum_cons, List.sum_nil]; omega) (fun h => by simp [pass5, hol_nd, h a (by simp), h b (by simp), h c (by simp)])
   · rw [decide_eq_false e]; exact none
 | false =>
 rw [iteO_false, iteO_false]
 cases kind == 6 with
 | true =>
   rw [iteO_true, iteO_true]
   have read : p.map sortS = [1, 1, 5] → ∃ l ok, (bindO (atO p 0) fun x33 => bindO (atO p 1) fun x34 => bindO (atO p 2) fun x35 => bindO (F1252 x33 x34 x35) fun r36 => some ([r36], true)) = some (l, ok) ∧
       (bindO (atO p 0) fun x43 => bindO (atO p 1) fun x44 => bindO (atO p 2) fun x45 => bindO (F1265 N x43 x44 x45) fun r46 => some ([r46], true)) = some (l, ok) ∧ l.length ≤ 8 ∧ ∀ x ∈ l, inst x ∧ x.size ≤ 4000 ∧ (hp0 p → hol x = false) := by
     intro e
     obtain ⟨a, b, c, rfl, ha, hb, hc⟩ := map3 e
     have za := hp a (by simp)
     have zb := hp b (by simp)
     have zc := hp c (by simp)
     have e3 : nd 35 [eqR a b, nd 37 [nd 14 [c, a], nd 14 [c, b]]] = readN a b c := by rw [eqR_ne (by rw [ha]; decide)]; rfl
     simp only [at3_0, at3_1, at3_2, bindO_some, read1252, indexed1265 N a b c (by omega), e3]
     exact one _ (.inr (.inr (.inr (.inr (.inl (.inr (.inr (.inl ⟨a, b, c, rfl, ha⟩)))))))) (by simp only [readN, nd_size, List.map_cons, List.map_nil, List.sum_cons, List.sum_nil]; omega) (fun h => by simp [readN, hol_nd, h a (by simp), h b (by simp), h c (by simp)])
   have long : p.map sortS = [5] → ∃ l ok, (bindO (atO p 0) fun x30 => bindO (F1253 x30) fun r31 => some ([r31], true)) = some (l, ok) ∧ (bindO (atO p 0) fun x40 => bindO (F1266 x40) fun r41 => some ([r41], true)) = some (l, ok) ∧ l.length ≤ 8 ∧ ∀ x ∈ l, inst x ∧ x.size ≤ 4000 ∧ (hp0 p → hol x = false) := by
     intro e
     obtain ⟨a, rfl, ha⟩ := map1 e
     have za := hp a (by simp)
     simp only [at1_0, bindO_some, cnt1253, long1266]
     exact one _ (.inr (.inr (.inr (.inr (.inl (.inl ⟨a, rfl⟩)))))) (by simp only [cntN, nd_size, List.map_cons, List.map_nil, List.sum_cons, List.sum_nil]; omega) (fun h => by simp [cntN, hol_nd, h a (by simp)])
   by_cases e : p.map sortS = [1, 5]
   · have e2 : p.map sortS ≠ [1, 1, 5] := by rw [e]; decide
     have e3 : p.map sortS ≠ [5] := by rw [e]; decide
     rw [decide_eq_true e, iteO_true, iteO_true, decide_eq_false e2, decide_eq_false e3]
     obtain ⟨j, s, rfl, hj, hs5⟩ := map2 e
     have zj := hp j (by simp)
     have zs := hp s (by simp)
     have ss := hs s (by simp)
     simp only [at2_0, at2_1, bindO_some, iteO_false, F1250]
     cases h15 : s.op == 15 with
     | false => exact none
     | true =>
       obtain ⟨a, i, x, rfl, _, hi, _⟩ := fSto ss (beq_iff_eq.1 h15)
       simp only [nd_size, List.map_cons, List.map_nil, List.sum_cons, List.sum_nil] at zs
       simp only [iteO_true, stored1251, stores1264 N j a i x (by omega) (by rw [hi]; decide), bindO_some]
       refine ⟨_, _, rfl, rfl, by simp, fun y hy => ?_⟩
       simp only [List.mem_cons, List.not_mem_nil, or_false] at hy
       have hk : hp0 [j, nd 15 [a, i, x]] → hol j = false ∧ hol a = false ∧ hol i = false ∧ hol x = false := fun h => ⟨h j (by simp), hol_kid (h _ (by simp : nd 15 [a, i, x] ∈ _)) (by simp [nd_kids]), hol_kid (h _ (by simp : nd 15 [a, i, x] ∈ _)) (by simp [nd_kids]), hol_kid (h _ (by simp : nd 15 [a, i, x] ∈ _)) (by simp [nd_kids])⟩
       rcases hy with rfl | rfl | rfl
       · exact ⟨.inr (.inr (.inr (.inr (.inl (.inr (.inr (.inr (.inl ⟨j, a, i, x, rfl⟩)))))))), by simp only [sto0, nd_size, List.map_cons, List.map_nil, List.sum_cons, List.sum_nil]; omega, fun h => by obtain ⟨h1, h2, h3, h4⟩ := hk h; simp [sto0, hol_nd, h1, h2, h3, h4]⟩
       · exact ⟨.inr (.inr (.inr (.inr (.inl (.inr (.inr (.inr (.inr ⟨j, a, i, x, rfl⟩)))))))), by simp only [sto1, nd_size, List.map_cons, List.map_nil, List.sum_cons, List.sum_nil]; omega, fun h => by obtain ⟨h1, h2, h3, h4⟩ := hk h; simp [sto1, hol_nd, h1, h2, h3, h4]⟩
       · exact ⟨.inr (.inr (.inr (.inr (.inl (.inr (.inl ⟨a, i, x, rfl⟩)))))), by simp only [sto2, nd_size, List.map_cons, List.map_nil, List.sum_cons, List.sum_nil]; omega, fun h => by obtain ⟨h1, h2, h3, h4⟩ := hk h; simp [sto2, hol_nd, h1, h2, h3, h4]⟩
   · rw [decide_eq_false e, iteO_false, iteO_false]
     by_cases e2 : p.map sortS = [1, 1, 5]
     · rw [decide_eq_true e2, iteO_true, iteO_true]; exact read e2
     · rw [decide_eq_false e2, iteO_false, iteO_false]
       by_cases e3 : p.map sortS = [5]
       · rw [decide_eq_true e3, iteO_true, iteO_true]; exact long e3
       · rw [decide_eq_false e3]; exact none
 | false =>
 rw [iteO_false, iteO_false]
 cases kind == 7 with
 | true =>
   rw [iteO_true, iteO_true]
   by_cases e : p.map sortS = [5, 5, 1]
   · rw [decide_eq_true e, iteO_true, iteO_true]
     obtain ⟨a, b, c, rfl, ha, hb, hc⟩ := map3 e
     have za := hp a (by simp)
     have zb := hp b (by simp)
     have zc := hp c (by simp)
     have e3 : nd 35 [eqR a b, nd 33 [nd 37 [nd 16 [a], nd 16 [b]], nd 37 [nd 14 [a, c], nd 14 [b, c]]]] = agreeN a b c := by rw [eqR_ne (by rw [ha]; decide)]; rfl
     simp only [at3_0, at3_1, at3_2, bindO_some, agree1254, equal1267 N a b c (by omega), e3]
     exact one _ (.inr (.inr (.inr (.inr (.inr (.inl ⟨a, b, c, rfl, ha⟩)))))) (by simp only [agreeN, nd_size, List.map_cons, List.map_nil, List.sum_cons, List.sum_nil]; omega) (fun h => by simp [agreeN, hol_nd, h a (by simp), h b (by simp), h c (by simp)])
   · rw [decide_eq_false e]; exact none
 | false =>
 rw [iteO_false, iteO_false]
 cases kind == 8 with
 | false => exact none
 | true =>
   rw [iteO_true, iteO_true]
   cases hl1 : (p.length : Int) == 1 with
   | false => exact none
   | true =>
     have hl1 := beq_iff_eq.1 hl1
     obtain ⟨s, rfl⟩ : ∃ s, p = [s] := List.length_eq_one_iff.1 (by omega)
     have zs := hp s (by simp)
     have ss := hs s (by simp)
     have hk : F15 N s 0 = some 0 := by
       have := List.all_eq_true.1 hg s (by simp)
       exact beq_iff_eq.1 this
     simp only [iteO_true, at1_0, bindO_some, F1250]
     cases h8 : s.op == 8 with
     | false => exact none
     | true =>
       obtain ⟨c, x, y, rfl, _, _, hq, _⟩ := formIte ss (beq_iff_eq.1 h8)
       simp only [nd_size, List.map_cons, List.map_nil, List.sum_cons, List.sum_nil] at zs
       simp only [iteO_true, hk, bindO_some, beq_self_eq_true, chosen1255, chosen1268 N c x y (by omega) (by rw [sortS_ite]; unfold eqSort at hq; omega)]
       refine ⟨_, _, rfl, rfl, by simp, fun z hz => ?_⟩
       simp only [List.mem_cons, List.not_mem_nil, or_false] at hz
       have hk : hp0 [nd 8 [c, x, y]] → hol c = false ∧ hol x = false ∧ hol y = false := fun h => ⟨hol_kid (h _ (by simp : nd 8 [c, x, y] ∈ _)) (by simp [nd_kids]), hol_kid (h _ (by simp : nd 8 [c, x, y] ∈ _)) (by simp [nd_kids]), hol_kid (h _ (by simp : nd 8 [c, x, y] ∈ _)) (by simp [nd_kids])⟩
       rcases hz with rfl | rfl
       · exact ⟨.inr (.inr (.inr (.inr (.inr (.inr ⟨c, x, y, .inl rfl⟩))))), by simp only [cho0, nd_size, List.map_cons, List.map_nil, List.sum_cons, List.sum_nil]; omega, fun h => by obtain ⟨h1, h2, h3⟩ := hk h; simp [cho0, hol_nd, h1, h2, h3]⟩
       · exact ⟨.inr (.inr (.inr (.inr (.inr (.inr ⟨c, x, y, .inr rfl⟩))))), by simp only [cho1, nd_size, List.map_cons, List.map_nil, List.sum_cons, List.sum_nil]; omega, fun h => by obtain ⟨h1, h2, h3⟩ := hk h; simp [cho1, hol_nd, h1, h2, h3]⟩
end
end Go.Abs.Try
namespace Go.Abs.Try
set_option maxRecDepth 100000
theorem fits64 (n : Nat) (h : n ≤ 2000) : fits n 64 = true := by
 unfold fits
 exact decide_eq_true (by have : roomMax = 140737488355328 := rfl; omega)
theorem join_fold {β : Type} (N : Nat) (b : Node) (fin : List Node → Option β) (step : List Node → Nat → Node → Option (Sum (List Node) β))
   (hstep : ∀ s i x y, b.kids[i]? = some y → x.size < N → s.length + 1 ≤ 2000 → step s i x = some (.inl (s ++ [eqR x y]))) :
   ∀ (ks : List Node) (M i : Nat) (acc : List Node), ks.length < M → i + ks.length = b.kids.length → (∀ x ∈ ks, x.size < N) → acc.length + ks.length ≤ 2000 →
   foldN step fin M ks i acc = fin (acc ++ List.zipWith eqR ks (b.kids.drop i))
 | _, 0, _, _, h, _, _, _ => absurd h (Nat.not_lt_zero _)
 | [], _ + 1, i, acc, _, _, _, _ => by rw [List.zipWith_nil_left, List.append_nil]; rfl
 | x :: xs, M + 1, i, acc, h, hi, hx, ha => by
   simp only [List.length_cons] at h hi ha
   have hlt : i < b.kids.length := by omega
   show bindO (step acc i x) _ = _
   rw [hstep acc i x b.kids[i] (List.getElem?_eq_getElem hlt) (hx x (by simp)) (by omega), bindO_some, List.drop_eq_getElem_cons hlt, List.zipWith_cons_cons]
   have := join_fold N b fin step hstep xs M (i + 1) (acc ++ [eqR x b.kids[i]]) (by omega) (by omega) (fun y hy => hx y (by simp [hy])) (by rw [List.length_append]; simp; omega)
   rw [show acc ++ eqR x b.kids[i] :: List.zipWith eqR xs (b.kids.drop (i + 1)) = (acc ++ [eqR x b.kids[i]]) ++ List.zipWith eqR xs (b.kids.drop (i + 1)) from by rw [List.append_assoc]; rfl]
   exact this
def eqs (a b : Node) : List Node := List.zipWith eqR a.kids b.kids
theorem eqR_size (x y : Node) : (eqR x y).size = 1 + x.size + y.size := by
 unfold eqR
 simp only [nd_size, List.map_cons, List.map_nil, List.sum_cons, List.sum_nil]; omega
theorem zipE_mem (x : Node) : ∀ (l m : List Node), x ∈ List.zipWith eqR l m → ∃ u v, u ∈ l ∧ v ∈ m ∧ x = eqR u v
 | [], _, h => by simp at h
 | _ :: _, [], h => by simp at h
 | a :: l, b :: m, h => by
   rw [List.zipWith_cons_cons] at h
   rcases List.mem_cons.1 h with rfl | h
   · exact ⟨a, b, by simp, by simp, rfl⟩
   · obtain ⟨u, v, h1, h2, h3⟩ := zipE_mem x l m h
     exact ⟨u, v, by simp [h1], by simp [h2], h3⟩
theorem eqs_mem (a b x : Node) (h : x ∈ eqs a b) : (∃ u v, u ∈ a.kids ∧ v ∈ b.kids ∧ x = eqR u v) := zipE_mem x a.kids b.kids h
theorem joined1246 (N : Nat) (a b : Node) (hl : a.kids.length = b.kids.length) (ha : a.size ≤ 300) (hb : b.size ≤ 300) (hN : 100000000 ≤ N) : F1246 N a b = some (nd 35 [conjL (eqs a b), eqR a b]) := by
 have hk := kids_len a
 unfold F1246
 rw [join_fold N b (F1246_f1 N a b) (F1246_s1 N b) (fun s i x y hy hx hs => by
   unfold F1246_s1
   rw [atO_get hy, bindO_some, eq1270 N x y hx, bindO_some, fits64 _ hs]; rfl) a.kids N 0 [] (by omega) (by omega) (fun x hx => by have := kids_size hx; omega) (by simp; omega), List.drop_zero, List.nil_append]
 have hm : ∀ x ∈ eqs a b, x.size ≤ 1048576 ∧ x.size < N := fun x hx => by
   obtain ⟨u, v, hu, hv, rfl⟩ := eqs_mem a b x hx
   have h1 := kids_size hu
   have h2 := kids_size hv
   rw [eqR_size]; omega
 unfold F1246_f1
 show bindO (F52 N (eqs a b)) _ = _
 rw [conj52 N (eqs a b) (by unfold eqs; rw [List.length_zipWith]; omega) hm, bindO_some, eq1270 N a b (by omega)]
 rfl
theorem joinedR (N : Nat) (a b : Node) (hl : a.kids.length = b.kids.length) (ha : a.size ≤ 300) (hb : b.size ≤ 300) (hN : 100000000 ≤ N) : foldN (S := List Node) (F1227_s1 N b) (F1227_f1 N a b) N a.kids 0 [] = some ([nd 35 [conjL (eqs a b), eqR a b]], true) := by
 have hk := kids_len a
 rw [join_fold N b (F1227_f1 N a b) (F1227_s1 N b) (fun s i x y hy hx hs => by
   unfold F1227_s1
   rw [atO_get hy, bindO_some, eq1257 N x y hx, bindO_some, fits64 _ hs]; rfl) a.kids N 0 [] (by omega) (by omega) (fun x hx => by have := kids_size hx; omega) (by simp; omega), List.drop_zero, List.nil_append]
 have hm : ∀ x ∈ eqs a b, x.size ≤ 1048576 ∧ x.size < N := fun x hx => by
   obtain ⟨u, v, hu, hv, rfl⟩ := eqs_mem a b x hx
   have h1 := kids_size hu
   have h2 := kids_size hv
   rw [eqR_size]; omega
 unfold F1227_f1
 show bindO (F53 N (eqs a b)) _ = _
 rw [conj53 N (eqs a b) (by unfold eqs; rw [List.length_zipWith]; omega) hm, bindO_some, eq1257 N a b (by omega)]
 rfl
end Go.Abs.Try
namespace Go.Abs.Try
set_option maxRecDepth 100000
theorem parts_fold : ∀ (xs : List Node) (u : Node) (l : List Node) (K : Nat), (∀ M, K ≤ M → F1386 M u = some l) → l.length + xs.length ≤ 2000 → ∀ M, K + xs.length ≤ M → F1386 M (xs.foldl (fun a b => nd 33 [a, b]) u) = some (l ++ xs)
 | [], u, l, K, h, _, M, hM => by rw [List.append_nil]; exact h M hM
 | x :: xs, u, l, K, h, hl, M, hM => by
   simp only [List.length_cons] at hl hM
   have := parts_fold xs (nd 33 [u, x]) (l ++ [x]) (K + 1) (fun M hM => by
     obtain ⟨P, rfl⟩ : ∃ P, M = P + 1 := ⟨M - 1, by omega⟩
     show F1386b (F1386 P) P (nd 33 [u, x]) = _
     unfold F1386b
     rw [show ((nd 33 [u, x]).op == 30) = false from rfl, show ((nd 33 [u, x]).op == 33) = true from rfl, iteO_false, iteO_true]
     simp only [nd_kids, at2_0, at2_1, bindO_some, h P (by omega), fits64 _ (by omega : l.length + 1 ≤ 2000), iteO_true]) (by rw [List.length_append]; simp; omega) M (by omega)
   rw [List.append_assoc] at this
   exact this
theorem parts_one (x : Node) (h30 : x.op ≠ 30) (h33 : x.op ≠ 33) (M : Nat) (hM : 1 ≤ M) : F1386 M x = some [x] := by
 obtain ⟨P, rfl⟩ : ∃ P, M = P + 1 := ⟨M - 1, by omega⟩
 show F1386b (F1386 P) P x = _
 unfold F1386b
 rw [beq_eq_false_iff_ne.2 h30, beq_eq_false_iff_ne.2 h33]; rfl
theorem parts_conj (l : List Node) (hne : l ≠ []) (ho : ∀ x ∈ l, x.op ≠ 30 ∧ x.op ≠ 33) (hl : l.length ≤ 2000) (M : Nat) (hM : 3000 ≤ M) : F1386 M (conjL l) = some l := by
 match l, hne with
 | x :: xs, _ =>
   simp only [List.length_cons] at hl
   exact parts_fold xs x [x] 1 (fun M hM => parts_one x (ho x (by simp)).1 (ho x (by simp)).2 M hM) (by simp; omega) M (by omega)
theorem eqR_op (x y : Node) : (eqR x y).op = 36 ∨ (eqR x y).op = 37 := by
 unfold eqR
 cases sortS x == 2
 · exact .inr rfl
 · exact .inl rfl
section
open Classical
theorem known_fold (K : Nat) (b : Node) (hK : 100000000 ≤ K) (hb : b.size ≤ 300) : ∀ (ks : List Node) (M i : Nat), ks.length < M → i + ks.length = b.kids.length → (∀ x ∈ ks, x.size ≤ 300) →
   foldN (F1228_s2 K b) F1228_f2 M ks i (List.zipWith eqR ks (b.kids.drop i)) = some true
 | _, 0, _, h, _, _ => absurd h (Nat.not_lt_zero _)
 | [], _ + 1, i, _, _, _ => by rw [List.zipWith_nil_left]; rfl
 | x :: xs, M + 1, i, h, hi, hx => by
   simp only [List.length_cons] at h hi
   have hlt : i < b.kids.length := by omega
   have hxz := hx x (by simp)
   have hyz := kids_size (List.getElem_mem hlt)
   rw [List.drop_eq_getElem_cons hlt, List.zipWith_cons_cons]
   show bindO (F1228_s2 K b (eqR x b.kids[i] :: List.zipWith eqR xs (b.kids.drop (i + 1))) i x) _ = _
   unfold F1228_s2
   rw [decide_eq_true (show ((eqR x b.kids[i] :: List.zipWith eqR xs (b.kids.drop (i + 1))).length : Int) > 0 from by simp only [List.length_cons]; omega), iteO_true,
     show atO (eqR x b.kids[i] :: List.zipWith eqR xs (b.kids.drop (i + 1))) 0 = some (eqR x b.kids[i]) from atO_lit (i := 0) rfl rfl, bindO_some, atO_get (List.getElem?_eq_getElem hlt), bindO_some,
     eq1270 K x _ (by omega), bindO_some, eq20 K _ _ (by rw [eqR_size]; omega), decide_eq_true rfl, bindO_some, iteO_true, inS_1, cutL_1]
   exact known_fold K b hK hb xs M (i + 1) (by omega) (by omega) fun y hy => hx y (by simp [hy])
theorem known (N : Nat) (a b : Node) (ha : a.size ≤ 300) (hb : b.size ≤ 300) (hN : 100000000 ≤ N) (hal : F1245 N a b = some true) (hl : a.kids.length = b.kids.length) (hne : a.kids ≠ []) :
   F1228 N (nd 35 [conjL (eqs a b), eqR a b]) = some true := by
 have hk := kids_len a
 have hlen : (eqs a b).length = a.kids.length := by unfold eqs; rw [List.length_zipWith]; omega
 have hm : ∀ x ∈ eqs a b, x.size ≤ 601 ∧ x.op ≠ 30 ∧ x.op ≠ 33 := fun x hx => by
   obtain ⟨u, v, hu, hv, rfl⟩ := eqs_mem a b x hx
   have h1 := kids_size hu
   have h2 := kids_size hv
   refine ⟨by rw [eqR_size]; omega, ?_, ?_⟩ <;> (rcases eqR_op u v with h | h <;> rw [h] <;> decide)
 have hsum : ((eqs a b).map Node.size).sum ≤ 601 * (eqs a b).length := by
   have : ∀ l : List Node, (∀ x ∈ l, x.size ≤ 601) → (l.map Node.size).sum ≤ 601 * l.length := by
     intro l
     induction l with
     | nil => intro _; simp
     | cons x l ih => intro h; have := h x (by simp); have := ih fun y hy => h y (by simp [hy]); simp only [List.map_cons, List.sum_cons, List.length_cons]; omega
   exact this _ fun x hx => (hm x hx).1
 have hcz := conjL_size (eqs a b)
 have hne2 : eqs a b ≠ [] := fun h => by rw [h] at hlen; exact hne (List.eq_nil_of_length_eq_zero hlen.symm)
 have e1 := parts_conj (eqs a b) hne2 (fun x hx => (hm x hx).2) (by omega) N (by omega)
 have e2 := conj52 N (eqs a b) (by omega) fun x hx => by have := (hm x hx).1; omega
 have e3 := known_fold N b hN hb a.kids N 0 (by omega) (by omega) fun x hx => by have := kids_size hx; omega
 rw [List.drop_zero] at e3
 have key : (bindO (F1245 N a b) fun r21 =>
     iteO r21
     (bindO (F1386 N (conjL (eqs a b))) fun r23 =>
       bindO (F52 N r23) fun r24 =>
       bindO (F20 N r24 (conjL (eqs a b))) fun r25 =>
       iteO r25
       (foldN (S := List Node) (F1228_s2 N b) (F1228_f2) N a.kids 0 r23)
       (some false))
     (some false)) = some true := by
   rw [hal, bindO_some, iteO_true, e1, bindO_some, e2, bindO_some, eq20 N _ _ (by omega), decide_eq_true rfl, bindO_some, iteO_true]
   exact e3
 unfold F1228
 rw [show ((nd 35 [conjL (eqs a b), eqR a b]).op == 35) = true from rfl, iteO_true]
 simp only [nd_kids, at2_0, at2_1, bindO_some]
 unfold eqR
 cases sortS a == 2 with
 | true =>
   simp only [cond_true, nd_op, nd_kids, at2_0, at2_1, bindO_some]
   exact key
 | false =>
   simp only [cond_false, nd_op, nd_kids, at2_0, at2_1, bindO_some]
   exact key
end
end Go.Abs.Try
namespace Go.Abs.Try
set_option maxRecDepth 100000
theorem hol_conj : ∀ (xs : List Node) (u : Node), hol u = false → (∀ x ∈ xs, hol x = false) → hol (xs.foldl (fun a b => nd 33 [a, b]) u) = false
 | [], u, h, _ => h
 | x :: xs, u, h, hx => hol_conj xs (nd 33 [u, x]) (by rw [hol_nd _ _ rfl]; simp [h, hx x (by simp)]) fun y hy => hx y (by simp [hy])
theorem hol_conjL (l : List Node) (h : ∀ x ∈ l, hol x = false) : hol (conjL l) = false := by
 match l with
 | [] => rw [conjL, hol_nd _ _ rfl]; rfl
 | x :: xs => exact hol_conj xs x (h x (by simp)) fun y hy => h y (by simp [hy])
theorem alike_ne (N : Nat) (a b : Node) (h : F1245 N a b = some true) : a.kids ≠ [] := by
 intro h0
 have no : ∀ {v : Bool} {r : Option Bool}, (v = true → r ≠ some true) → iteO v r (some false) ≠ some true := by
   intro v r hr
   cases v with
   | true => exact hr rfl
   | false => intro h; injection h with h; cases h
 revert h
 unfold F1245
 refine no fun _ => no fun _ => no fun _ => no fun _ => no fun _ => ?_
 rw [h0]
 intro h; injection h with h; cases h
theorem one_size (a b : Node) (ha : a.size ≤ 300) (hb : b.size ≤ 300) : (nd 35 [conjL (eqs a b), eqR a b]).size ≤ 200000 := by
 have hk := kids_len a
 have hlen : (eqs a b).length ≤ a.kids.length := by unfold eqs; rw [List.length_zipWith]; omega
 have hm : ∀ x ∈ eqs a b, x.size ≤ 601 := fun x hx => by
   obtain ⟨u, v, hu, hv, rfl⟩ := eqs_mem a b x hx
   have h1 := kids_size hu
   have h2 := kids_size hv
   rw [eqR_size]; omega
 have hsum : ((eqs a b).map Node.size).sum ≤ 601 * (eqs a b).length := by
   have : ∀ l : List Node, (∀ x ∈ l, x.size ≤ 601) → (l.map Node.size).sum ≤ 601 * l.length := by
     intro l
     induction l with
     | nil => intro _; simp
     | cons x l ih => intro h; have := h x (by simp); have := ih fun y hy => h y (by simp [hy]); simp only [List.map_cons, List.sum_cons, List.length_cons]; omega
   exact this _ hm
 have hcz := conjL_size (eqs a b)
 simp only [nd_size, List.map_cons, List.map_nil, List.sum_cons, List.sum_nil, eqR_size]
 omega
theorem made1 (N : Nat) (hN : 4611686018400000000 ≤ N ∧ N ≤ 4611686018427387904) (p : List Node) (hp : ∀ x ∈ p, x.size ≤ 300) (hl : p.length ≤ 8) :
   ∃ l ok, F1225 N 1 p = some (l, ok) ∧ F1227 N 1 p = some (l, ok) ∧ l.length ≤ 8 ∧ ∀ x ∈ l, x.size ≤ 200000 ∧ F1228 N x = some true ∧ (hp0 p → hol x = false) := by
 have none : ∃ l ok, some (([] : List Node), false) = some (l, ok) ∧ some (([] : List Node), false) = some (l, ok) ∧ l.length ≤ 8 ∧ ∀ x ∈ l, x.size ≤ 200000 ∧ F1228 N x = some true ∧ (hp0 p → hol x = false) := ⟨_, _, rfl, rfl, by simp, by simp⟩
 unfold F1225 F1227
 simp only [sorts1243 N p (by omega) (by omega) (fun x hx => by have := hp x hx; omega), bindO_some, beq_self_eq_true, iteO_true]
 cases h2 : (p.length : Int) == 2 with
 | false => exact none
 | true =>
   have h2 := beq_iff_eq.1 h2
   obtain ⟨a, b, rfl⟩ : ∃ a b, p = [a, b] := by
     match p, h2 with
     | [a, b], _ => exact ⟨a, b, rfl⟩
     | [], h => simp at h
     | [_], h => simp at h
     | _ :: _ :: _ :: _, h => simp at h; omega
   have ha := hp a (by simp)
   have hb := hp b (by simp)
   obtain ⟨v, e1, e2, hv⟩ := alike N a b (by omega) (by omega)
   simp only [iteO_true, at2_0, at2_1, bindO_some, e1, e2]
   cases v with
   | false => exact none
   | true =>
     have hlen := hv rfl
     rw [iteO_true, iteO_true, joined1246 N a b hlen ha hb (by omega), bindO_some, joinedR N a b hlen ha hb (by omega)]
     refine ⟨_, _, rfl, rfl, by simp, fun x hx => ?_⟩
     rw [List.mem_singleton.1 hx]
     refine ⟨one_size a b ha hb, known N a b ha hb (by omega) e1 hlen (alike_ne N a b e1), fun h => ?_⟩
     have h1 := h a (by simp)
     have h2 := h b (by simp)
     rw [hol_nd _ _ rfl, List.any_cons, List.any_cons, List.any_nil, hol_eqR h1 h2, hol_conjL]
     · rfl
     · intro y hy
       obtain ⟨u, w, hu, hw, rfl⟩ := eqs_mem a b y hy
       exact hol_eqR (hol_kid h1 hu) (hol_kid h2 hw)
theorem made_bad (N : Nat) (hN : 4611686018400000000 ≤ N ∧ N ≤ 4611686018427387904) (p : List Node) (hp : ∀ x ∈ p, x.size ≤ 300) (hl : p.length ≤ 8) (hg : p.all (okP N) = false) (kind : Int) (h1 : (kind == 1) = false) :
   F1227 N kind p = some ([], false) := by
 have hr : ∀ u : List Int, u.length < 1000 → F1259 N p u = some false := fun u hu => by
   rw [sorted1259 N hN p (fun x hx => by have := hp x hx; omega) u hu, hg, Bool.and_false]
 unfold F1227
 simp only [h1, iteO_false, hr [1, 4] (by simp), hr [1, 1, 4] (by simp), hr [4, 4, 1] (by simp), hr [1, 5] (by simp), hr [1, 1, 5] (by simp), hr [5] (by simp), hr [5, 5, 1] (by simp), bindO_some]
 cases kind == 2 with
 | true => rfl
 | false =>
 cases kind == 3 with
 | true => rfl
 | false =>
 cases kind == 4 with
 | true => rfl
 | false =>
 cases kind == 5 with
 | true => rfl
 | false =>
 cases kind == 6 with
 | true => rfl
 | false =>
 cases kind == 7 with
 | true => rfl
 | false =>
 cases kind == 8 with
 | false => rfl
 | true =>
   simp only [iteO_true, iteO_false]
   cases hl1 : (p.length : Int) == 1 with
   | false => rfl
   | true =>
     have hl1 := beq_iff_eq.1 hl1
     obtain ⟨s, rfl⟩ : ∃ s, p = [s] := List.length_eq_one_iff.1 (by omega)
     have zs := hp s (by simp)
     obtain ⟨r, _, h15, hk⟩ := ok15 N s hN (by omega)
     have hg : okP N s = false := by
       rw [List.all_cons, List.all_nil, Bool.and_true] at hg; exact hg
     simp only [iteO_true, at1_0, bindO_some, h15, hk, hg, iteO_false]
     cases s.op == 8 <;> rfl
end Go.Abs.Try
namespace Go.Abs.Try
set_option maxRecDepth 100000
end Go.Abs.Try
namespace Go.Abs.Try
set_option maxRecDepth 100000
def zeroN : Node := ⟨0, 0, (⟨#[]⟩ : ByteArray), 0, []⟩
theorem own_name (n : Node) (h : ownA n = true) (ho : n.op = 1) : n.name.size ≠ 0 := by
 intro hs
 have h1 := own118A 30 n (Nat.le_refl _)
 rw [h] at h1
 have e : (n.op == 1) = true := beq_iff_eq.2 ho
 have e2 : F17 30 n.name = some false := by
   have : ((n.name.size : Int) == 0) = true := by simp [hs]
   simp only [F17, this, iteO_true]
 simp only [F118, e, iteO_true, e2, bindO_some, iteO_false] at h1
 cases h1
theorem empty_ne (s : ByteArray) (h : s.size ≠ 0) : ((⟨#[]⟩ : ByteArray).toList == s.toList) = false := by
 rw [beq_eq_false_iff_ne]
 intro e
 have h1 := congrArg List.length e
 rw [ba_len, ba_len] at h1
 exact h h1.symm
mutual
theorem subst_id : ∀ n : Node, sortedR n = true → substR [(⟨#[]⟩ : ByteArray)] [zeroN] n = n
  | ⟨op, s, nm, k, ks⟩, h => by
    rw [sortedR] at h
    simp only [Bool.and_eq_true, nodeB] at h
    have hf : (bif op == 1 then firstM nm [(⟨#[]⟩ : ByteArray)] [zeroN] else none) = none := by
      cases h1 : op == 1 with
      | false => rfl
      | true =>
        have := own_name _ h.1.1 (eq_of_beq h1)
        simp only [cond_true, firstM, empty_ne nm this, cond_false]
    simp only [substR, hf, substL_id ks h.2]
theorem substL_id : ∀ ks : List Node, allR ks = true → substL [(⟨#[]⟩ : ByteArray)] [zeroN] ks = ks
  | [], _ => rfl
  | k :: ks, h => by
    simp only [allR, Bool.and_eq_true] at h
    rw [substL, subst_id k h.1, substL_id ks h.2]
end
end Go.Abs.Try
namespace Go.Abs.Try
set_option maxRecDepth 100000
theorem copy24m (N : Nat) (n : Node) (hN : 1048600 + n.size < N) (hb : n.size ≤ 1048576) (h : sortedR n = true) : F24 N n (⟨#[]⟩ : ByteArray) (⟨0, 0, (⟨#[]⟩ : ByteArray), 0, []⟩ : Node) = some n := by
 have hz : zeroN.size ≤ 1048576 := by decide
 show F24 N n (⟨#[]⟩ : ByteArray) zeroN = some n
 simp only [F24, subst22 [(⟨#[]⟩ : ByteArray)] [zeroN] ⟨by simp, by simp⟩ N n hN hb (fun w hw => by rw [List.mem_singleton.1 hw]; exact hz), bindO_some, subst_id n h]
theorem parts_all : ∀ (P : Nat) (u : Node), u.size < P → u.size ≤ 1048576 → sortedR u = true → ∃ l, F1386 P u = some l ∧ l.length ≤ u.size ∧ (l.map Node.size).sum ≤ u.size
 | 0, _, h, _, _ => absurd h (Nat.not_lt_zero _)
 | P + 1, u, h, hz, hs => by
   show ∃ l, F1386b (F1386 P) P u = some l ∧ _
   unfold F1386b
   cases h30 : u.op == 30 with
   | true => exact ⟨[], rfl, by simp, by simp⟩
   | false =>
     cases h33 : u.op == 33 with
     | false => exact ⟨[u], rfl, size_pos u, by simp⟩
     | true =>
       obtain ⟨a, b, rfl, _, _, ha, hb⟩ := fAnd hs (beq_iff_eq.1 h33)
       simp only [nd_size, List.map_cons, List.map_nil, List.sum_cons, List.sum_nil] at h hz ⊢
       obtain ⟨l, e1, hl, hm⟩ := parts_all P a (by omega) (by omega) ha
       have hb1 := size_pos b
       refine ⟨l ++ [b], ?_, by simp; omega, by simp; omega⟩
       have hf : fits (l.length + 1) 64 = true := by
         unfold fits
         exact decide_eq_true (by have : roomMax = 140737488355328 := rfl; omega)
       simp only [nd_kids, at2_0, at2_1, bindO_some, e1, hf, iteO_true, iteO_false]
section
open Classical
variable (N : Nat) (hN : 4611686018400000000 ≤ N ∧ N ≤ 4611686018427387904)
include hN
theorem parts14 (fin : Unit → Option (List Node × Int)) : ∀ (ks : List Node) (M i : Nat), ks.length < M → (∀ x ∈ ks, x.size ≤ 300) →
   foldN (F1214_s1 N) fin M ks i () = if ks.all (fun y => okP N y && !hol y) then fin () else some ([], 3)
 | _, 0, _, h, _ => absurd h (Nat.not_lt_zero _)
 | [], _ + 1, _, _, _ => rfl
 | x :: xs, M + 1, i, h, hx => by
   simp only [List.length_cons] at h
   have hz := hx x (by simp)
   obtain ⟨r, h14, _, hr⟩ := ok15 N x hN (by omega)
   show bindO (F1214_s1 N () i x) _ = _
   unfold F1214_s1
   rw [h14, bindO_some, hr, hol42 x (by omega), bindO_some, List.all_cons]
   cases okP N x with
   | false => rfl
   | true =>
     cases hol x with
     | true => rfl
     | false => exact parts14 fin xs M (i + 1) (by omega) fun y hy => hx y (by simp [hy])
theorem parts15 (fin : Unit → Option (List Node × Int)) : ∀ (ks : List Node) (M i : Nat), ks.length < M → (∀ x ∈ ks, x.size ≤ 300) →
   foldN (F1215_s1 N) fin M ks i () = if ks.all (fun y => okP N y && !hol y) then fin () else some ([], 3)
 | _, 0, _, h, _ => absurd h (Nat.not_lt_zero _)
 | [], _ + 1, _, _, _ => rfl
 | x :: xs, M + 1, i, h, hx => by
   simp only [List.length_cons] at h
   have hz := hx x (by simp)
   obtain ⟨r, _, h15, hr⟩ := ok15 N x hN (by omega)
   show bindO (F1215_s1 N () i x) _ = _
   unfold F1215_s1
   rw [hol43 N x (by omega), h15, bindO_some, bindO_some, hr, List.all_cons]
   cases okP N x with
   | false => cases hol x <;> rfl
   | true =>
     cases hol x with
     | true => rfl
     | false => exact parts15 fin xs M (i + 1) (by omega) fun y hy => hx y (by simp [hy])
def okF (N : Nat) (n : Node) : Bool := F15 N n 2 == some 0
theorem okF_r (n : Node) (hb : n.size ≤ 1048576) : ∃ r, F14 N n 2 = some r ∧ F15 N n 2 = some r ∧ (r == 0) = okF N n := by
 obtain ⟨r, h14, h15⟩ := check_same N n 2 hN hb
 refine ⟨r, h14, h15, ?_⟩
 unfold okF
 rw [h15]
 rw [Bool.eq_iff_iff, beq_iff_eq, beq_iff_eq]
 exact ⟨fun h => by rw [h], fun h => by injection h⟩
theorem good1226 (x : Node) (hz : x.size ≤ 200000) (hh : hol x = false) : F1226 N x = some (okF N x) := by
 obtain ⟨r, h14, _, hr⟩ := okF_r N hN x (by omega)
 unfold F1226
 rw [h14, bindO_some, hr, hol42 x (by omega), hh]
 cases okF N x <;> rfl
theorem made_fold : ∀ (ks : List Node) (M i : Nat) (acc : List Node), ks.length < M → (∀ x ∈ ks, x.size ≤ 200000 ∧ hol x = false) → acc.length + ks.length ≤ 2000 →
   foldN (F1214_s2 N) F1214_f2 M ks i acc = some (if ks.all (okF N) then (acc ++ ks, 0) else ([], 3)) ∧
   foldN (F1215_s2 N) F1215_f2 M ks i acc = some (if ks.all (okF N) then (acc ++ ks, 0) else ([], 3))
 | _, 0, _, _, h, _, _ => absurd h (Nat.not_lt_zero _)
 | [], _ + 1, _, acc, _, _, _ => by rw [List.append_nil]; exact ⟨rfl, rfl⟩
 | x :: xs, M + 1, i, acc, h, hx, ha => by
   simp only [List.length_cons] at h ha
   obtain ⟨hz, hh⟩ := hx x (by simp)
   obtain ⟨r, _, h15, hr⟩ := okF_r N hN x (by omega)
   show bindO (F1214_s2 N acc i x) _ = _ ∧ bindO (F1215_s2 N acc i x) _ = _
   unfold F1214_s2 F1215_s2
   rw [good1226 N hN x hz hh, h15, bindO_some, bindO_some, hr, List.all_cons]
   cases hk : okF N x with
   | false => exact ⟨rfl, rfl⟩
   | true =>
     have hs : sortedR x = true := check_sorted2 N x hN (by omega) (beq_iff_eq.1 hk)
     rw [copy24m N x (by omega) (by omega) hs, same83 N x (by omega) (by omega)]
     simp only [bindO_some, fits64 (acc.length + 1) (by omega), iteO_true]
     have := made_fold xs M (i + 1) (acc ++ [x]) (by omega) (fun y hy => hx y (by simp [hy])) (by rw [List.length_append]; simp; omega)
     rw [List.append_assoc] at this
     exact this
theorem tot_fold (b : Node) (hb : b.size < 10000) : ∀ (ks r : List Node) (M i : Nat), ks.length < M → i + ks.length = b.kids.length → (∀ x ∈ ks, x.size ≤ 10000) → (∀ x ∈ r, x.size ≤ 10000) →
   ∃ v, foldN (F1228_s2 N b) F1228_f2 M ks i r = some v
 | _, _, 0, _, h, _, _, _ => absurd h (Nat.not_lt_zero _)
 | [], r, M + 1, i, _, _, _, _ => ⟨_, rfl⟩
 | k :: ks, r, M + 1, i, h, hi, hx, hr => by
   simp only [List.length_cons] at h hi
   obtain ⟨y, hy⟩ : ∃ y, b.kids[i]? = some y := ⟨_, List.getElem?_eq_getElem (by omega)⟩
   have hyz := kids_size (List.mem_of_getElem? hy)
   have hk := hx k (by simp)
   have IH := fun r hr => tot_fold b hb ks r M (i + 1) (by omega) (by omega) (fun z hz => hx z (by simp [hz])) hr
   show ∃ v, bindO (F1228_s2 N b r i k) _ = some v
   unfold F1228_s2
   simp only [atO_get hy, eq1270 N k y (by omega), bindO_some, eq20 N k y (by omega)]
   match r, hr with
   | [], hr =>
     rw [decide_eq_false (show ¬ ((([] : List Node).length : Int) > 0) from by simp), iteO_false]
     cases decide (k = y) with
     | true => exact IH [] hr
     | false => exact ⟨false, rfl⟩
   | a :: r, hr =>
     rw [decide_eq_true (show ((a :: r).length : Int) > 0 from by simp only [List.length_cons]; omega), iteO_true, show atO (a :: r) 0 = some a from atO_lit (i := 0) rfl rfl, bindO_some,
       eq20 N a _ (by have := hr a (by simp); omega), bindO_some, inS_1, cutL_1]
     cases decide (a = eqR k y) with
     | true => exact IH r fun z hz => hr z (by simp [hz])
     | false =>
       cases decide (k = y) with
       | true => exact IH (a :: r) hr
       | false => exact ⟨false, rfl⟩
theorem tot1228 (n : Node) (hs : sortedR n = true) (hz : n.size ≤ 4000) : ∃ v, F1228 N n = some v := by
 unfold F1228
 cases h35 : n.op == 35 with
 | false => exact ⟨false, rfl⟩
 | true =>
   obtain ⟨p, q, rfl, _, _, hp, hq⟩ := fImp hs (beq_iff_eq.1 h35)
   simp only [nd_size, List.map_cons, List.map_nil, List.sum_cons, List.sum_nil] at hz
   have key : ∀ a b : Node, a.size ≤ 4000 → b.size ≤ 4000 → ∃ v, (bindO (F1245 N a b) fun r21 =>
     iteO r21
     (bindO (F1386 N p) fun r23 =>
       bindO (F52 N r23) fun r24 =>
       bindO (F20 N r24 p) fun r25 =>
       iteO r25
       (foldN (S := List Node) (F1228_s2 N b) (F1228_f2) N a.kids 0 r23)
       (some false))
     (some false)) = some v := by
     intro a b ha hb
     obtain ⟨v, e1, e2, hv⟩ := alike N a b (by omega) (by omega)
     rw [e1, bindO_some]
     cases v with
     | false => exact ⟨false, rfl⟩
     | true =>
       obtain ⟨l, e3, hl, hm⟩ := parts_all N p (by omega) (by omega) hp
       have hx : ∀ x ∈ l, x.size ≤ 4000 := fun x hx => by
         have : x.size ≤ (l.map Node.size).sum := mem_le_sum l x hx
         omega
       have hcz := conjL_size l
       have hak := kids_len a
       rw [iteO_true, e3, bindO_some, conj52 N l (by omega) (fun x h => by have := hx x h; omega), bindO_some, eq20 N _ _ (by omega), bindO_some]
       obtain ⟨w, e5⟩ := tot_fold N hN b (by omega) a.kids l N 0 (by omega) (by have := hv rfl; omega) (fun x h => by have := kids_size h; omega) (fun x h => by have := hx x h; omega)
       rw [e5]
       cases decide (conjL l = p) with
       | false => exact ⟨false, rfl⟩
       | true => exact ⟨w, rfl⟩
   simp only [iteO_true, nd_kids, at2_0, at2_1, bindO_some]
   cases h37 : q.op == 37 with
   | true =>
     obtain ⟨a, b, rfl, _⟩ := formEq hq (beq_iff_eq.1 h37)
     simp only [nd_size, List.map_cons, List.map_nil, List.sum_cons, List.sum_nil] at hz
     simp only [iteO_true, nd_kids, at2_0, at2_1, bindO_some]
     exact key a b (by omega) (by omega)
   | false =>
     cases h36 : q.op == 36 with
     | false => exact ⟨false, rfl⟩
     | true =>
       obtain ⟨a, b, rfl, _⟩ := fIff hq (beq_iff_eq.1 h36)
       simp only [nd_size, List.map_cons, List.map_nil, List.sum_cons, List.sum_nil] at hz
       simp only [iteO_true, iteO_false, nd_kids, at2_0, at2_1, bindO_some]
       exact key a b (by omega) (by omega)
def told (N : Nat) (x : Node) : Prop := x.size ≤ 200000 ∧ hol x = false ∧ (okF N x = true → ∃ k, F1216 N x = some k ∧ (k == 0) = false)
theorem told1 (x : Node) (hz : x.size ≤ 200000) (hh : hol x = false) (h : F1228 N x = some true) : told N x := by
 refine ⟨hz, hh, fun hk => ⟨1, ?_, rfl⟩⟩
 unfold F1216
 rw [decide_eq_true (by omega : 10 ≤ N), iteO_true, good1226 N hN x hz hh, hk, bindO_some, iteO_true, h]; rfl
theorem told2 (x : Node) (hz : x.size ≤ 4000) (hh : hol x = false) (h : inst x) : told N x := by
 refine ⟨by omega, hh, fun hk => ?_⟩
 have hs : sortedR x = true := check_sorted2 N x hN (by omega) (beq_iff_eq.1 hk)
 obtain ⟨v, hv⟩ := tot1228 N hN x hs hz
 unfold F1216
 rw [decide_eq_true (by omega : 10 ≤ N), iteO_true, good1226 N hN x (by omega) hh, hk, bindO_some, iteO_true, hv, bindO_some]
 cases v with
 | true => exact ⟨1, rfl, rfl⟩
 | false => exact ⟨codeK x, chain x N hs (by omega) (by omega), beq_eq_false_iff_ne.2 (inst_code x h)⟩
end
end Go.Abs.Try
