import Derived.Test.YtjealnlacmfbiaaXP1toXRsv1
set_option linter.unusedSimpArgs false
set_option linter.unusedVariables false
namespace Go.Abs.Try
set_option maxRecDepth 100000
section
variable (vars : List Decl) (sigs : List Sig)
def sigSortN (k : ByteArray) : Int := match smap sigs k with | some s => s.sigSort | none => 0
def bothB (ks : List Node) : Bool := match ks with
 | [a, b] => (sortS a == 2) && (sortS b == 2)
 | _ => false
def rsvOne (op srt : Int) (nm : ByteArray) (num : Int) (ks : List Node) : Node :=
 bif op == 1 then (match vmap vars nm with | some s => ⟨op, s, nm, num, ks⟩ | none => ⟨3, sigSortN sigs nm, nm, num, ks⟩)
 else bif op == 3 then ⟨op, sigSortN sigs nm, nm, num, ks⟩
 else bif (op == 37) && bothB ks then ⟨36, srt, nm, num, ks⟩ else ⟨op, srt, nm, num, ks⟩
mutual
def rsv : Node → Node
  | ⟨o, s, nm, nu, ks⟩ => rsvOne vars sigs o s nm nu (rsvL ks)
def rsvL : List Node → List Node
  | [] => []
  | k :: ks => rsv k :: rsvL ks
end
theorem rsvL_eq : ∀ ks, rsvL vars sigs ks = ks.map (rsv vars sigs)
 | [] => rfl
 | k :: ks => by simp only [rsvL, List.map_cons, rsvL_eq ks]
theorem rsv_eq (n : Node) : rsv vars sigs n = rsvOne vars sigs n.op n.sortf n.name n.num (n.kids.map (rsv vars sigs)) := by
 cases n; simp only [rsv, rsvL_eq]
theorem rsvOne_kids (o s : Int) (nm : ByteArray) (nu : Int) (ks : List Node) : (rsvOne vars sigs o s nm nu ks).kids = ks ∧ (rsvOne vars sigs o s nm nu ks).name = nm := by
 unfold rsvOne
 cases o == 1 with
 | true => simp only [cond_true]; cases vmap vars nm <;> exact ⟨rfl, rfl⟩
 | false =>
   cases o == 3 with
   | true => exact ⟨rfl, rfl⟩
   | false => simp only [cond_false]; cases (o == 37) && bothB ks <;> exact ⟨rfl, rfl⟩
theorem rsv_kids (n : Node) : (rsv vars sigs n).kids = n.kids.map (rsv vars sigs) := by rw [rsv_eq]; exact (rsvOne_kids vars sigs _ _ _ _ _).1
theorem rsv_name (n : Node) : (rsv vars sigs n).name = n.name := by rw [rsv_eq]; exact (rsvOne_kids vars sigs _ _ _ _ _).2
theorem rsv_app {n : Node} (h : (rsv vars sigs n).op = 3) : n.op = 3 ∨ (n.op = 1 ∧ vmap vars n.name = none) := by
 rw [rsv_eq] at h
 unfold rsvOne at h
 cases h1 : n.op == 1 with
 | true =>
   rw [beq_iff_eq] at h1
   rw [h1] at h
   simp only [beq_self_eq_true, cond_true] at h
   cases hv : vmap vars n.name with
   | some s => rw [hv] at h; simp at h
   | none => exact .inr ⟨h1, rfl⟩
 | false =>
   cases h3 : n.op == 3 with
   | true => exact .inl (by rwa [beq_iff_eq] at h3)
   | false =>
     rw [h1, h3] at h
     simp only [cond_false] at h
     cases hb : (n.op == 37) && bothB (n.kids.map (rsv vars sigs)) with
     | true => rw [hb] at h; simp at h
     | false => rw [hb] at h; simp only [cond_false] at h; rw [h] at h3; simp at h3
theorem rsv_var {n : Node} (h : n.op = 1) : (rsv vars sigs n).op = 1 ∨ ((rsv vars sigs n).op = 3 ∧ vmap vars n.name = none) := by
 rw [rsv_eq]; unfold rsvOne; rw [h]
 simp only [beq_self_eq_true, cond_true]
 cases vmap vars n.name with
 | some s => exact .inl rfl
 | none => exact .inr ⟨rfl, rfl⟩
theorem map_sum_congr {f g : Node → Nat} : ∀ ks : List Node, (∀ k ∈ ks, f k = g k) → (ks.map f).sum = (ks.map g).sum
 | [], _ => rfl
 | k :: ks, h => by simp only [List.map_cons, List.sum_cons, h k (by simp), map_sum_congr ks fun x hx => h x (by simp [hx])]
theorem rsv_size : ∀ (m : Nat) (n : Node), n.size ≤ m → (rsv vars sigs n).size = n.size
 | 0, n, h => absurd (size_pos n) (by omega)
 | m + 1, n, h => by
   rw [Node.size_eq, rsv_kids, n.size_eq, List.map_map]
   congr 1
   exact map_sum_congr n.kids fun k hk => rsv_size m k (by have := kids_size hk; omega)
theorem nodesL_cat : ∀ ks : List Node, nodesL ks = (ks.map nodes).flatten
 | [] => rfl
 | k :: ks => by simp only [nodesL, List.map_cons, List.flatten_cons, nodesL_cat ks]
theorem rsv_nodes : ∀ (m : Nat) (n : Node), n.size ≤ m → nodes (rsv vars sigs n) = (nodes n).map (rsv vars sigs)
 | 0, n, h => absurd (size_pos n) (by omega)
 | m + 1, n, h => by
   rw [nodes_eq, nodes_eq n, rsv_kids, List.map_cons, nodesL_cat, nodesL_cat, List.map_flatten, List.map_map, List.map_map]
   congr 2
   exact List.map_congr_left fun k hk => rsv_nodes m k (by have := kids_size hk; omega)
theorem foldN_map {α S β : Type} {step : S → Nat → α → Option (Sum S β)} {fin : S → Option β} (f : α → α) : ∀ (l : List α) (N i : Nat) (s : S), (∀ x ∈ l, ∀ i s, step s i (f x) = step s i x) → foldN step fin N (l.map f) i s = foldN step fin N l i s
 | l, 0, i, s, _ => rfl
 | [], N + 1, i, s, _ => rfl
 | x :: xs, N + 1, i, s, h => by
   have ih := fun i s => foldN_map (fin := fin) f xs N i s fun y hy => h y (by simp [hy])
   simp only [List.map_cons, foldN, h x (by simp), ih]
theorem rsv_levels : ∀ (N : Nat) (n : Node), F38 N (rsv vars sigs n) = F38 N n
 | 0, n => rfl
 | N + 1, n => by
   show foldN (F38_s1 (F38 N)) F38_f1 N (rsv vars sigs n).kids 0 0 = foldN (F38_s1 (F38 N)) F38_f1 N n.kids 0 0
   rw [rsv_kids]
   exact foldN_map (rsv vars sigs) n.kids N 0 0 fun x hx i s => by simp only [F38_s1, rsv_levels N x]
theorem two_of {α : Type} {l : List α} (h : ((l.length : Int) == 2) = true) : ∃ a b, l = [a, b] := by
 rw [beq_iff_eq] at h
 match l, h with
 | [a, b], _ => exact ⟨a, b, rfl⟩
 | [], h => simp at h
 | [_], h => simp at h
 | _ :: _ :: _ :: _, h => simp at h; omega
theorem both_not {l : List Node} (h : ((l.length : Int) == 2) = false) : bothB l = false := by
 rw [beq_eq_false_iff_ne] at h
 match l, h with
 | [], _ => rfl
 | [_], _ => rfl
 | [a, b], h => exact absurd rfl h
 | _ :: _ :: _ :: _, _ => rfl
theorem fin1391 (N : Nat) (n : Node) (ks : List Node) (hks : ∀ k ∈ ks, F36 N k = some (sortS k)) : F1391_f1 N (vmap vars) (smap sigs) n ks = some (rsvOne vars sigs n.op n.sortf n.name n.num ks) := by
 unfold F1391_f1 rsvOne sigSortN
 cases h1 : n.op == 1 with
 | true =>
   simp only [iteO_true, cond_true]
   cases vmap vars n.name with
   | some s => rfl
   | none => simp only [optO]; cases smap sigs n.name <;> rfl
 | false =>
   cases h3 : n.op == 3 with
   | true => simp only [iteO_true, iteO_false, cond_true, cond_false, optO]; cases smap sigs n.name <;> rfl
   | false =>
     simp only [iteO_false, cond_false]
     cases h37 : n.op == 37 with
     | false => rfl
     | true =>
       simp only [iteO_true, Bool.true_and]
       cases h2 : (ks.length : Int) == 2 with
       | false => rw [both_not h2]; rfl
       | true =>
         obtain ⟨a, b, rfl⟩ := two_of h2
         have ea : F36 N a = some (sortS a) := hks a (by simp)
         have eb : F36 N b = some (sortS b) := hks b (by simp)
         have e0 : atO [a, b] (0 : Int) = some a := atO_lit (i := 0) rfl rfl
         have e1 : atO [a, b] (1 : Int) = some b := atO_lit (i := 1) rfl rfl
         simp only [iteO_true, e0, e1, bindO_some, ea, eb, bothB]
         cases sortS a == 2 <;> cases sortS b == 2 <;> rfl
theorem fin105 (N : Nat) (hv : vars.length < N) (hsg : sigs.length < N) (n : Node) (ks : List Node) (hks : ∀ k ∈ ks, F28 N k = some (sortS k)) : F105_f2 N n sigs vars ks = some (rsvOne vars sigs n.op n.sortf n.name n.num ks) := by
 unfold F105_f2 rsvOne sigSortN
 rw [var146 N n.name vars hv, sig147 N n.name sigs hsg]
 cases h1 : n.op == 1 with
 | true =>
   simp only [iteO_true, cond_true, bindO_some]
   cases vmap vars n.name with
   | some s => rfl
   | none => simp only [iteO_false]; cases smap sigs n.name <;> rfl
 | false =>
   cases h3 : n.op == 3 with
   | true => simp only [iteO_true, iteO_false, cond_true, cond_false, bindO_some]; cases smap sigs n.name <;> rfl
   | false =>
     simp only [iteO_false, cond_false]
     cases h37 : n.op == 37 with
     | false => rfl
     | true =>
       simp only [iteO_true, Bool.true_and]
       cases h2 : (ks.length : Int) == 2 with
       | false => rw [both_not h2]; rfl
       | true =>
         obtain ⟨a, b, rfl⟩ := two_of h2
         have ea : F28 N a = some (sortS a) := hks a (by simp)
         have eb : F28 N b = some (sortS b) := hks b (by simp)
         have e0 : atO [a, b] (0 : Int) = some a := atO_lit (i := 0) rfl rfl
         have e1 : atO [a, b] (1 : Int) = some b := atO_lit (i := 1) rfl rfl
         simp only [iteO_true, e0, e1, bindO_some, ea, eb, bothB]
         cases sortS a == 2 <;> cases sortS b == 2 <;> rfl
theorem fits64 {n : Nat} (h : n ≤ 1048577) : fits n 64 = true := by
 simp only [fits, roomMax]; exact decide_eq_true (by omega)
theorem kids_fold {step : List Node → Nat → Node → Option (Sum (List Node) Node)} {fin : List Node → Option Node} {self : Node → Option Node} (f : Node → Node) (hs : ∀ s i x, step s i x = bindO (self x) fun r => iteO (fits (s.length + 1) 64) (some (.inl (s ++ [r]))) none)
   (l : List Node) (N : Nat) (h : l.length < N) (hl : l.length ≤ 1048576) (hself : ∀ x ∈ l, self x = some (f x)) : foldN step fin N l 0 [] = fin (l.map f) := by
 have := foldN_inl (step := step) (fin := fin) (fun s x => s ++ [f x]) (fun r s => (∀ x ∈ r, x ∈ l) ∧ s.length + r.length = l.length)
   (fun x xs i s ⟨h1, h2⟩ => by
     simp only [List.length_cons] at h2
     refine ⟨by rw [hs, hself x (h1 x (by simp)), bindO_some, fits64 (by omega)]; rfl, fun y hy => h1 y (by simp [hy]), by simp; omega⟩) l N 0 [] h ⟨fun _ h => h, by simp⟩
 rw [this.1]
 congr 1
 have : ∀ (l acc : List Node), l.foldl (fun s x => s ++ [f x]) acc = acc ++ l.map f := by
   intro l
   induction l with
   | nil => intro acc; simp
   | cons x xs ih => intro acc; rw [List.foldl_cons, ih]; simp
 simpa using this l []
theorem rsv1391 : ∀ (N : Nat) (n : Node), N ≤ 4611686018427387904 → n.size ≤ 1048576 → n.size + 10 < N → F1391 N n (vmap vars) (smap sigs) = some (rsv vars sigs n)
 | 0, n, _, _, h => absurd h (Nat.not_lt_zero _)
 | N + 1, n, hN, hb, h => by
   have hl := kids_len n
   have hk : ∀ k ∈ n.kids, F1391 N k (vmap vars) (smap sigs) = some (rsv vars sigs k) := fun k hk => rsv1391 N k (by omega) (by have := kids_size hk; omega) (by have := kids_size hk; omega)
   show F1391b (F1391 N) N n (vmap vars) (smap sigs) = _
   unfold F1391b
   rw [decide_eq_true (by omega : 0 ≤ 0 ∧ 0 ≤ (n.kids.length : Int) ∧ (n.kids.length : Int) * 64 ≤ 140737488355328 ∧ (n.kids.length : Int) ≤ 9223372036854775807), iteO_true,
     kids_fold (step := F1391_s1 (F1391 N) (vmap vars) (smap sigs)) (self := fun x => F1391 N x (vmap vars) (smap sigs)) (rsv vars sigs) (fun _ _ _ => rfl) n.kids N (by omega) (by omega) hk,
     fin1391 vars sigs N n _ fun k hk => ?_, ← rsv_eq]
   obtain ⟨k', hk', rfl⟩ := List.mem_map.1 hk
   have h1 := kids_size hk'
   have h2 := rsv_size vars sigs k'.size k' (Nat.le_refl _)
   exact sort36n N _ (by omega)
theorem rsv105 (hv : vars.length < 100) (hsg : sigs.length < 100) : ∀ (N : Nat) (n : Node), n.size ≤ 1048576 → n.size + 100 < N → F105 N n vars sigs = some (rsv vars sigs n)
 | 0, n, _, h => absurd h (Nat.not_lt_zero _)
 | N + 1, n, hb, h => by
   have hl := kids_len n
   have hk : ∀ k ∈ n.kids, F105 N k vars sigs = some (rsv vars sigs k) := fun k hk => rsv105 hv hsg N k (by have := kids_size hk; omega) (by have := kids_size hk; omega)
   show foldN (F105_s2 (F105 N) sigs vars) (F105_f2 N n sigs vars) N n.kids 0 [] = _
   rw [kids_fold (step := F105_s2 (F105 N) sigs vars) (self := fun x => F105 N x vars sigs) (rsv vars sigs) (fun _ _ _ => rfl) n.kids N (by omega) (by omega) hk, fin105 vars sigs N (by omega) (by omega) n _ fun k hk => ?_, ← rsv_eq]
   obtain ⟨k', hk', rfl⟩ := List.mem_map.1 hk
   have h1 := kids_size hk'
   have h2 := rsv_size vars sigs k'.size k' (Nat.le_refl _)
   exact sort28 N _ (by omega)
end
end Go.Abs.Try
namespace Go.Abs.Try
set_option maxRecDepth 100000
def cB (x y : List UInt8) : Int := if x < y then -1 else if x = y then 0 else 1
def sg (a b : Int) : Int := if a < b then -1 else if a > b then 1 else 0
theorem sg81 (a b : Int) : F81 a b = some (sg a b) := by
 simp only [F81, sg, iteO_if, decide_eq_true_eq]
 repeat' split
 all_goals rfl
def cmb (u v : Int) : Int := if u = 0 then v else u
theorem cmb_neg (u v : Int) : cmb (-u) (-v) = -cmb u v := by
 unfold cmb; split <;> split <;> omega
theorem sg_neg (a b : Int) : sg b a = -sg a b := by
 unfold sg
 by_cases h1 : a < b
 · have h2 : ¬ b < a := by omega
   simp [h1, h2]
 · by_cases h2 : b < a
   · simp [h1, h2]
   · simp [h1, h2]
theorem cB_neg (x y : List UInt8) : cB y x = -cB x y := by
 unfold cB
 rcases list_tri x y with h | h | h
 · have h2 : ¬ y < x := fun h' => List.lt_irrefl x (List.lt_trans h h')
   have h3 : y ≠ x := fun e => by subst e; exact List.lt_irrefl _ h
   simp [h, h2, h3]
 · subst h; simp [List.lt_irrefl]
 · have h2 : ¬ x < y := fun h' => List.lt_irrefl x (List.lt_trans h' h)
   have h3 : x ≠ y := fun e => by subst e; exact List.lt_irrefl _ h
   simp [h, h2, h3]
theorem cB_self (x : List UInt8) : cB x x = 0 := by simp [cB, List.lt_irrefl]
theorem cB_lt {x y : List UInt8} (h : x < y) : cB x y = -1 := by simp [cB, h]
mutual
def cmpR : Node → Node → Int
  | ⟨o, s, nm, nu, ks⟩, b => cmb (sg o b.op) (cmb (sg s b.sortf) (cmb (cB nm.toList b.name.toList) (cmb (sg nu b.num) (cmb (sg ks.length b.kids.length) (cmpL ks b.kids)))))
def cmpL : List Node → List Node → Int
  | [], _ => 0
  | x :: xs, l => match l with
    | [] => 0
    | y :: ys => cmb (cmpR x y) (cmpL xs ys)
end
mutual
theorem cmpR_neg : ∀ a b : Node, cmpR b a = -cmpR a b
  | ⟨o, s, nm, nu, ks⟩, ⟨o', s', nm', nu', ks'⟩ => by
    simp only [cmpR, ← cmb_neg, sg_neg o o', sg_neg s s', cB_neg nm.toList nm'.toList, sg_neg nu nu', sg_neg (ks.length : Int) ks'.length, cmpL_neg ks ks']
theorem cmpL_neg : ∀ a b : List Node, cmpL b a = -cmpL a b
  | [], [] => by simp [cmpL]
  | [], y :: ys => by simp [cmpL]
  | x :: xs, [] => by simp [cmpL]
  | x :: xs, y :: ys => by simp only [cmpL, ← cmb_neg, cmpR_neg x y, cmpL_neg xs ys]
end
theorem sg_zero {a b : Int} (h : sg a b = 0) : a = b := by
 unfold sg at h
 by_cases h1 : a < b
 · simp [h1] at h
 · by_cases h2 : a > b
   · simp [h1, h2] at h
   · omega
theorem cmpR_self (a : Node) : cmpR a a = 0 := by
 have := cmpR_neg a a
 omega
end Go.Abs.Try
namespace Go.Abs.Try
set_option maxRecDepth 100000
theorem cmpR_eq (a b : Node) : cmpR a b = cmb (sg a.op b.op) (cmb (sg a.sortf b.sortf) (cmb (cB a.name.toList b.name.toList) (cmb (sg a.num b.num) (cmb (sg a.kids.length b.kids.length) (cmpL a.kids b.kids))))) := by
 cases a; simp only [cmpR]
theorem iteO_cmb (u : Int) (x : Option Int) (v : Int) (h : u = 0 → x = some v) : iteO (u == 0) x (some u) = some (cmb u v) := by
 by_cases hu : u = 0
 · have e : (u == 0) = true := beq_iff_eq.2 hu
   rw [e, iteO_true, h hu, cmb, if_pos hu]
 · have e : (u == 0) = false := beq_eq_false_iff_ne.2 hu
   rw [e, iteO_false, cmb, if_neg hu]
theorem kids19 (self : Node → Node → Option Int) (a b : Node) (hle : a.kids.length ≤ 4000000) (hl : a.kids.length = b.kids.length) (hs : ∀ x ∈ a.kids, ∀ y, self x y = some (cmpR x y)) : ∀ (m i N : Nat) (k : Int), i + m = a.kids.length → m + 1 < N → whileN (F19_s3 self a b) N (k, (i : Int)) = some (cmb k (cmpL (a.kids.drop i) (b.kids.drop i)))
 | 0, i, N, k, h, hN => by
   obtain ⟨M, rfl⟩ : ∃ M, N = M + 1 := ⟨N - 1, by omega⟩
   have hd : decide ((i : Int) < (a.kids.length : Int)) = false := decide_eq_false (by omega)
   have h0 : a.kids.drop i = [] := List.drop_eq_nil_iff.2 (by omega)
   rw [h0, cmpL]
   simp only [whileN, F19_s3, hd, iteO_false]
   by_cases hk : k = 0
   · subst hk; rfl
   · have e : (k == 0) = false := beq_eq_false_iff_ne.2 hk
     simp only [e, iteO_false, bindO_some, cmb, hk, if_false]
 | m + 1, i, N, k, h, hN => by
   obtain ⟨M, rfl⟩ : ∃ M, N = M + 1 := ⟨N - 1, by omega⟩
   have h1 : i < a.kids.length := by omega
   have h2 : i < b.kids.length := by omega
   have hd : decide ((i : Int) < (a.kids.length : Int)) = true := decide_eq_true (by omega)
   have a1 : atO a.kids (i : Int) = some a.kids[i] := atO_get (List.getElem?_eq_getElem h1)
   have a2 : atO b.kids (i : Int) = some b.kids[i] := atO_get (List.getElem?_eq_getElem h2)
   have hw : IntKind.i64.wrap ((i : Int) + 1) = ((i + 1 : Nat) : Int) := by rw [wrap_id (by omega)]; omega
   have ih := kids19 self a b hle hl hs m (i + 1) M (cmpR a.kids[i] b.kids[i]) (by omega) (by omega)
   rw [List.drop_eq_getElem_cons h1, List.drop_eq_getElem_cons h2, cmpL]
   by_cases hk : k = 0
   · subst hk
     have e : ((0 : Int) == 0) = true := rfl
     simp only [whileN, F19_s3, e, hd, iteO_true, a1, a2, bindO_some, hs _ (List.getElem_mem h1), hw, ih, cmb, if_true]
   · have e : (k == 0) = false := beq_eq_false_iff_ne.2 hk
     simp only [whileN, F19_s3, e, iteO_false, bindO_some, cmb, hk, if_false]
theorem cmp19 : ∀ (N : Nat) (a b : Node), a.size + 1 < N → a.size ≤ 1048576 → F19 N a b = some (cmpR a b)
 | 0, a, _, h, _ => absurd h (Nat.not_lt_zero _)
 | N + 1, a, b, h, hb => by
   have hk := kids_len a
   have hp := size_pos a
   obtain ⟨M, rfl⟩ : ∃ M, N = M + 1 := ⟨N - 1, by omega⟩
   show F19b (F19 (M + 1)) (M + 1) a b = _
   rw [cmpR_eq]
   simp only [F19b, sg81, bindO_some]
   have w4 : ∀ z : Int, whileN (F19_s4 z) (M + 1) () = some z := fun z => rfl
   have w5 : ∀ z : Int, whileN (F19_s5 z) (M + 1) () = some z := fun z => rfl
   have w6 : ∀ z : Int, whileN (F19_s6 z) (M + 1) () = some z := fun z => rfl
   have w1 : whileN F19_s1 (M + 1) () = some (-1) := rfl
   have w2 : whileN F19_s2 (M + 1) () = some 1 := rfl
   simp only [w1, w2, w4, w5, w6]
   refine iteO_cmb _ _ _ fun _ => iteO_cmb _ _ _ fun _ => ?_
   rw [bytes_lt]
   by_cases h1 : a.name.toList < b.name.toList
   · rw [decide_eq_true h1, iteO_true, cB_lt h1]; rfl
   · rw [decide_eq_false h1, iteO_false]
     by_cases h2 : a.name.toList = b.name.toList
     · have e : (a.name.toList == b.name.toList) = true := beq_iff_eq.2 h2
       rw [e, Bool.false_or, iteO_true, h2, cB_self]
       have : ∀ v, cmb 0 v = v := fun v => if_pos rfl
       rw [this]
       refine iteO_cmb _ _ _ fun _ => ?_
       by_cases hl : a.kids.length = b.kids.length
       · have := kids19 (F19 (M + 1)) a b (by omega) hl (fun x hx y => cmp19 (M + 1) x y (by have := kids_size hx; omega) (by have := kids_size hx; omega)) a.kids.length 0 (M + 1) (sg a.kids.length b.kids.length) (by omega) (by omega)
         simpa using this
       · have hz : sg (a.kids.length : Int) b.kids.length ≠ 0 := fun e => hl (by have := sg_zero e; omega)
         have e : (sg (a.kids.length : Int) b.kids.length == 0) = false := beq_eq_false_iff_ne.2 hz
         simp only [whileN, F19_s3, e, iteO_false, bindO_some, cmb, hz, if_false]
     · have e : (a.name.toList == b.name.toList) = false := beq_eq_false_iff_ne.2 h2
       rw [e, Bool.false_or, iteO_false]
       have : cB a.name.toList b.name.toList = 1 := by simp [cB, h1, h2]
       rw [this]; rfl
end Go.Abs.Try
namespace Go.Abs.Try
set_option maxRecDepth 100000
end Go.Abs.Try
namespace Go.Abs.Try
set_option maxRecDepth 100000
def argB (w : Int) (x : Node) : Bool := bif w == 0 then !(sortS x == 2) else sortS x == w
theorem arg_loop {β : Type} {step : Unit → Nat → Int → Option (Sum Unit β)} {fin : Unit → Option β} (full : List Node) (r : β)
   (hs : ∀ i w x, full[i]? = some x → step () i w = some (bif argB w x then .inl () else .inr r)) : ∀ (l : List Int) (N i : Nat) (rest : List Node), full.drop i = rest → l.length = rest.length → l.length < N →
   foldN step fin N l i () = bif ((l.zip rest).all fun p => argB p.1 p.2) then fin () else some r
 | [], N, i, rest, _, _, hN => by
   obtain ⟨M, rfl⟩ : ∃ M, N = M + 1 := ⟨N - 1, by simp at hN; omega⟩
   simp only [foldN, List.zip_nil_left, List.all_nil, cond_true]
 | x :: xs, N, i, rest, hd, hl, hN => by
   obtain ⟨M, rfl⟩ : ∃ M, N = M + 1 := ⟨N - 1, by simp at hN; omega⟩
   cases rest with
   | nil => simp at hl
   | cons y ys =>
     have hy : full[i]? = some y := by
       have := congrArg List.head? hd
       simpa [List.head?_drop] using this
     have ih := arg_loop (fin := fin) full r hs xs M (i + 1) ys (by rw [← List.drop_drop, hd]; rfl) (by simpa using hl) (by simp at hN; omega)
     have h1 := hs i x y hy
     cases hq : argB x y with
     | true => rw [hq] at h1; simp only [foldN, h1, cond_true, bindO_some, List.zip_cons_cons, List.all_cons, hq, Bool.true_and]; exact ih
     | false => rw [hq] at h1; simp only [foldN, h1, cond_false, bindO_some, List.zip_cons_cons, List.all_cons, hq, Bool.false_and]
theorem arg_step {β : Type} (w : Int) (x : Node) (a r : β) : (iteO (w == 0) (iteO (sortS x == 2) (some r) (some a)) (iteO (sortS x == w) (some a) (some r))) = some (bif argB w x then a else r) := by
 unfold argB
 cases w == 0 with
 | true => cases sortS x == 2 <;> rfl
 | false => cases sortS x == w <;> rfl
section
variable (vars : List Decl) (sigs : List Sig)
def argsL (k : ByteArray) : List Int := match smap sigs k with | some s => s.sigArgs | none => []
theorem argsN_eq (k : ByteArray) : argsN sigs k = (argsL sigs k).length := by unfold argsN argsL; cases smap sigs k <;> rfl
def fitA (x : Node) : Bool := ((argsL sigs x.name).zip x.kids).all fun p => argB p.1 p.2
def fitB (x : Node) : Bool := bif x.op == 3 then (x.kids.length == argsN sigs x.name) && fitA sigs x else true
theorem fits1392 (N : Nat) (n : Node) (hb : n.size ≤ 1048576) (hN : n.size + 10 < N) : F1392 N n (vmap vars) (smap sigs) = some ((nodes n).all (fitB sigs)) := by
 unfold F1392
 rw [walk_ok n (by omega), bindO_some, foldO_all (fitB sigs) false (nodes n) fun x hx => ?_]
 · cases (nodes n).all (fitB sigs) <;> rfl
 have hsx := nodes_size n x hx
 have hl := kids_len x
 have hk : ∀ (i : Nat) y, x.kids[i]? = some y → F36 N y = some (sortS y) := fun i y hy => sort36n N y (by have := kids_size (List.mem_of_getElem? hy); omega)
 have L : ∀ (l : List Int) (step : Unit → Nat → Int → Option (Sum Unit (Sum Unit Bool))) (fin : Unit → Option (Sum Unit Bool)), (∀ i w y, x.kids[i]? = some y → step () i w = some (bif argB w y then .inl () else .inr (.inr false))) → fin () = some (.inl ()) →
     l.length = x.kids.length → foldN step fin N l 0 () = some (bif (l.zip x.kids).all (fun p => argB p.1 p.2) then .inl () else .inr false) := fun l step fin h1 h2 h3 => by
   rw [arg_loop x.kids (.inr false) h1 l N 0 x.kids rfl h3 (by omega), h2]
   cases (l.zip x.kids).all (fun p => argB p.1 p.2) <;> rfl
 unfold F1392_s1 fitB fitA argsN argsL
 cases h3 : x.op == 3 with
 | false => rfl
 | true =>
   simp only [iteO_true, cond_true]
   cases hs : smap sigs x.name with
   | none =>
     simp only [optO]
     have := natcast_beq x.kids.length 0
     simp only [Int.natCast_zero] at this
     rw [show ((x.kids.length : Int) == 0) = (x.kids.length == 0) from this]
     cases hz : x.kids.length == 0 with
     | false => rfl
     | true =>
       obtain ⟨M, rfl⟩ : ∃ M, N = M + 1 := ⟨N - 1, by omega⟩
       rfl
   | some s =>
     simp only [optO, natcast_beq]
     cases hz : x.kids.length == s.sigArgs.length with
     | false => rfl
     | true =>
       rw [beq_iff_eq] at hz
       simp only [iteO_true, Bool.true_and]
       exact L s.sigArgs (F1392_s2 N x) F1392_f2 (fun i w y hy => by simp only [F1392_s2, atO_get hy, bindO_some, hk i y hy]; exact arg_step w y _ _) rfl hz.symm
theorem fitA106 (hsg : sigs.length < 100) : ∀ (N : Nat) (n : Node), n.size + 100 < N → (∀ x ∈ nodes n, x.op = 3 → x.kids.length = argsN sigs x.name) → F106 N n sigs = some ((nodes n).all (fitB sigs))
 | 0, n, h, _ => absurd h (Nat.not_lt_zero _)
 | N + 1, n, h, hc => by
   have hl := kids_len n
   have hself : ∀ k ∈ n.kids, F106 N k sigs = some ((nodes k).all (fitB sigs)) := fun k hk => fitA106 hsg N k (by have := kids_size hk; omega) fun x hx => hc x (by
     rw [nodes_eq, nodesL_cat]; exact List.mem_cons_of_mem _ (List.mem_flatten.2 ⟨_, List.mem_map.2 ⟨k, hk, rfl⟩, hx⟩))
   have hk : ∀ (i : Nat) y, n.kids[i]? = some y → F28 N y = some (sortS y) := fun i y hy => sort28 N y (by have := kids_size (List.mem_of_getElem? hy); omega)
   have L : ∀ (step : Unit → Nat → Node → Option (Sum Unit Bool)) (fin : Unit → Option Bool), (∀ i x, step () i x = bindO (F106 N x sigs) fun r => iteO r (some (.inl ())) (some (.inr false))) → fin () = some true →
       foldN step fin N n.kids 0 () = some (n.kids.all fun k => (nodes k).all (fitB sigs)) := fun step fin h1 h2 => all_loop _ n.kids N 0 (by omega) h1 h2 hself
   obtain ⟨r, hr, ea⟩ : ∃ r, F147 N n.name sigs = some r ∧ r.1.sigArgs = argsL sigs n.name := ⟨_, sig147 N n.name sigs (by omega), by unfold argsL; cases smap sigs n.name <;> rfl⟩
   rw [nodes_allp]
   show F106b (F106 N) N n sigs = _
   unfold F106b
   rw [hr, L (F106_s3 (F106 N) sigs) F106_f3 (fun _ _ => rfl) rfl]
   cases h3 : n.op == 3 with
   | false => simp only [iteO_false, fitB, h3, cond_false, Bool.true_and]
   | true =>
     have hc0 := hc n (by rw [nodes_eq]; simp) (by rwa [beq_iff_eq] at h3)
     rw [argsN_eq] at hc0
     simp only [iteO_true, bindO_some, ea]
     rw [arg_loop n.kids false (fun i w y hy => by simp only [F106_s1, atO_get hy, bindO_some, hk i y hy]; exact arg_step w y _ _) (argsL sigs n.name) N 0 n.kids rfl hc0.symm (by omega)]
     simp only [F106_f1, L (F106_s2 (F106 N) sigs) F106_f2 (fun _ _ => rfl) rfl, fitB, h3, cond_true, argsN_eq, hc0, beq_self_eq_true, Bool.true_and, fitA]
     cases ((argsL sigs n.name).zip n.kids).all (fun p => argB p.1 p.2) <;> rfl
theorem mem_rsv {n y : Node} (h : y ∈ nodes (rsv vars sigs n)) : ∃ x ∈ nodes n, y = rsv vars sigs x := by
 rw [rsv_nodes vars sigs n.size n (Nat.le_refl _)] at h
 obtain ⟨x, h1, h2⟩ := List.mem_map.1 h
 exact ⟨x, h1, h2.symm⟩
theorem any_false {p : Node → Bool} {l : List Node} (h : l.any p = false) : ∀ x ∈ l, p x = false := by
 intro x hx
 cases hp : p x with
 | false => rfl
 | true => have : l.any p = true := List.any_eq_true.2 ⟨x, hx, hp⟩; rw [h] at this; cases this
theorem rsv_count (n : Node) (hu : (nodes n).any (unB vars sigs) = false) (hm : (nodes n).any (miB sigs) = false) : ∀ y ∈ nodes (rsv vars sigs n), y.op = 3 → y.kids.length = argsN sigs y.name := by
 intro y hy h3
 obtain ⟨x, hx, rfl⟩ := mem_rsv vars sigs hy
 have h1 := any_false hu x hx
 have h2 := any_false hm x hx
 rw [rsv_kids, rsv_name, List.length_map]
 simp only [miB, cntB, Bool.or_eq_false_iff] at h2
 rcases rsv_app vars sigs h3 with ho | ⟨ho, hv⟩
 · have := h2.2
   rw [ho] at this
   simpa using this
 · have h4 := h2.1
   rw [ho] at h4
   simp at h4
   simp only [unB, ho, beq_self_eq_true, cond_true, hv] at h1
   rw [h4]
   unfold argsN
   cases hs : smap sigs x.name with
   | none => rfl
   | some s =>
     rw [hs] at h1
     have := natcast_beq s.sigArgs.length 0
     simp only [Int.natCast_zero] at this
     simp only [Bool.not_eq_false', beq_iff_eq] at h1
     simp
     have : (s.sigArgs.length : Int) = 0 := h1
     have h5 : s.sigArgs.length = 0 := by omega
     exact (List.length_eq_zero_iff.1 h5).symm ▸ rfl
theorem rsv_bad (n : Node) (hu : (nodes n).any (unB vars sigs) = false) (hm : (nodes n).any (miB sigs) = true) (hc : (nodes n).any (cntB sigs) = false) : (sortedR (rsv vars sigs n) && (nodes (rsv vars sigs n)).all (fitB sigs)) = false := by
 obtain ⟨x, hx, h⟩ := List.any_eq_true.1 hm
 have h1 := any_false hu x hx
 have h2 := any_false hc x hx
 simp only [miB, h2, Bool.or_false, Bool.and_eq_true, beq_iff_eq, decide_eq_true_eq] at h
 obtain ⟨ho, hk⟩ := h
 have hy : rsv vars sigs x ∈ nodes (rsv vars sigs n) := by rw [rsv_nodes vars sigs n.size n (Nat.le_refl _)]; exact List.mem_map.2 ⟨x, hx, rfl⟩
 rcases rsv_var vars sigs ho with h3 | ⟨h3, hv⟩
 · have : sortedR (rsv vars sigs n) = false := by
     rw [← nodes_all]
     cases hall : (nodes (rsv vars sigs n)).all nodeB with
     | false => rfl
     | true =>
       have := List.all_eq_true.1 hall _ hy
       simp only [nodeB, Bool.and_eq_true] at this
       have h5 := this.2
       rw [h3, rsv_kids] at h5
       exfalso
       cases hks : x.kids with
       | nil => rw [hks] at hk; simp at hk
       | cons a l =>
         have e153 : F153 1 = some ([], true) := rfl
         rw [hks] at h5; simp [shapeB, e153] at h5
   rw [this]; rfl
 · have : (nodes (rsv vars sigs n)).all (fitB sigs) = false := by
     cases hall : (nodes (rsv vars sigs n)).all (fitB sigs) with
     | false => rfl
     | true =>
       have := List.all_eq_true.1 hall _ hy
       simp only [fitB, h3, beq_self_eq_true, cond_true, rsv_kids, rsv_name, List.length_map, Bool.and_eq_true, beq_iff_eq] at this
       simp only [unB, ho, beq_self_eq_true, cond_true, hv] at h1
       have h6 := this.1
       unfold argsN at h6
       cases hs : smap sigs x.name with
       | none => rw [hs] at h6; simp at h6; rw [h6] at hk; simp at hk
       | some s => rw [hs] at h1 h6; simp at h1 h6; rw [h1] at h6; simp at h6; rw [h6] at hk; simp at hk
   rw [this, Bool.and_false]
end
end Go.Abs.Try
namespace Go.Abs.Try
set_option maxRecDepth 100000
def zNode : Node := ⟨0, 0, ⟨#[]⟩, 0, []⟩
theorem selfEq21 (N : Nat) (a : Node) (h : a.size + 1 < N) (hb : a.size ≤ 1048576) : F21 N a a = some true := by
 unfold F21
 rw [cmp19 N a a h hb, cmpR_self]
 rfl
section
variable (vars : List Decl) (sigs : List Sig)
theorem names_loop (fin : Unit → Option (Node × Int)) (l : List Node) : foldO (F54_s3 (vmap vars) (smap sigs)) fin l () = bif l.any (unB vars sigs) then some (zNode, 4) else fin () := by
 rw [foldO_all (fun x => !(unB vars sigs x)) (zNode, 4) l fun x _ => ?_, ← List.not_any_eq_all_not]
 · cases l.any (unB vars sigs) <;> rfl
 · simp only [F54_s3, known1390, bindO_some]
   cases unB vars sigs x <;> rfl
theorem count_loop (fin : Unit → Option (Node × Int)) (l : List Node) : foldO (F54_s4 (smap sigs)) fin l () = bif l.any (cntB sigs) then some (zNode, 3) else fin () := by
 rw [foldO_all (fun x => !(cntB sigs x)) (zNode, 3) l fun x _ => ?_, ← List.not_any_eq_all_not]
 · cases l.any (cntB sigs) <;> rfl
 · unfold F54_s4 cntB argsN
   cases h3 : x.op == 3 with
   | false => cases smap sigs x.name <;> rfl
   | true =>
     cases smap sigs x.name with
     | some s => simp only [optO, iteO_true, natcast_beq, Bool.true_and]; cases x.kids.length == s.sigArgs.length <;> rfl
     | none =>
       have := natcast_beq x.kids.length 0
       simp only [Int.natCast_zero] at this
       simp only [optO, iteO_true, Bool.true_and, show ((x.kids.length : Int) == 0) = (x.kids.length == 0) from this]
       cases x.kids.length == 0 <;> rfl
theorem maps54 (N : Nat) (n : Node) (hv : vars.length < 100) (hsg : sigs.length < 100) : (bindO (backO vars) fun l2 => foldO (S := ByteArray → Option Int) F54_s1 (F54_f1 N n sigs) l2 (fun _ => none)) = F54_f2 N n (vmap vars) (smap sigs) := by
 have e1 : backO vars = some (backTo vars vars.length) := by unfold backO; rw [decide_eq_true (by omega), iteO_true]
 have e2 : backO sigs = some (backTo sigs sigs.length) := by unfold backO; rw [decide_eq_true (by omega), iteO_true]
 have h1 := back_fold (step := F54_s1) (fin := F54_f1 N n sigs) (fun d : Decl => d.declName) (fun d => d.declSort) (fun _ _ => rfl) vars vars.length (Nat.le_refl _) (fun _ => none)
 have h2 := back_fold (step := F54_s2) (fin := F54_f2 N n (vmap vars)) (fun d : Sig => d.sigName) (fun d => d) (fun _ _ => rfl) sigs sigs.length (Nat.le_refl _) (fun _ => none)
 rw [List.take_length] at h1 h2
 rw [e1, bindO_some]
 refine h1.trans ?_
 show F54_f1 N n sigs (vmap vars) = _
 unfold F54_f1
 rw [e2, bindO_some]
 exact h2
def rsvAns (k : Int) (n : Node) : Node × Int :=
 bif decide ((n.size : Int) ≤ 4000) && decide (k ≤ 100) then
   bif (nodes n).any (unB vars sigs) then (zNode, 4) else
   bif (nodes n).any (miB sigs) then (zNode, 3) else
   bif sortedR (rsv vars sigs n) && ((F40 (rsv vars sigs n)).getD false && (nodes (rsv vars sigs n)).all (fitB sigs)) then (rsv vars sigs n, 0) else (zNode, 3)
 else (zNode, 2)
theorem within70 (N : Nat) (n : Node) (k : Int) (h37 : F37 n = some (n.size : Int)) (h38 : F38 N n = some k) : F70 N n = some (decide ((n.size : Int) ≤ 4000) && decide (k ≤ 100)) := by
 unfold F70
 rw [h37, h38]
 simp only [bindO_some]
 cases decide ((n.size : Int) ≤ 4000) <;> rfl
theorem any_mi {l : List Node} (h : l.any (cntB sigs) = true) : l.any (miB sigs) = true := by
 obtain ⟨x, hx, h1⟩ := List.any_eq_true.1 h
 exact List.any_eq_true.2 ⟨x, hx, by simp only [miB, h1, Bool.or_true]⟩
theorem res54 (N : Nat) (hN : 4611686018400000000 ≤ N ∧ N ≤ 4611686018427387904) (n : Node) (hb : n.size ≤ 1048576) (k : Int) (h38 : F38 N n = some k) (hv : vars.length < 100) (hsg : sigs.length < 100) : F54 N n vars sigs = some (rsvAns vars sigs k n) := by
 have h37 := size37 n (by omega)
 have hw := within70 N n k h37 h38
 have hsz := rsv_size vars sigs n.size n (Nat.le_refl _)
 unfold F54 rsvAns
 rw [hw, bindO_some, maps54 vars sigs N n hv hsg]
 cases hin : decide ((n.size : Int) ≤ 4000) && decide (k ≤ 100) with
 | false => rfl
 | true =>
   simp only [iteO_true, cond_true]
   unfold F54_f2
   rw [walk_ok n (by omega), bindO_some, names_loop]
   cases hu : (nodes n).any (unB vars sigs) with
   | true => rfl
   | false =>
     simp only [cond_false]
     unfold F54_f3
     rw [walk_ok n (by omega), bindO_some, count_loop]
     cases hc : (nodes n).any (cntB sigs) with
     | true => rw [any_mi sigs hc]; rfl
     | false =>
       simp only [cond_false]
       unfold F54_f4
       have h71 := sorted71 N (rsv vars sigs n) (by omega) (by omega)
       have hwr := within70 N (rsv vars sigs n) k (size37 _ (by omega)) (by rw [rsv_levels, h38])
       rw [hsz, hin] at hwr
       have hf := fits1392 vars sigs N (rsv vars sigs n) (by omega) (by omega)
       rw [rsv1391 vars sigs N n (by omega) hb (by omega), bindO_some, hwr, bindO_some, iteO_true, h71, bindO_some]
       cases hs : sortedR (rsv vars sigs n) with
       | false => cases (nodes n).any (miB sigs) <;> rfl
       | true =>
         obtain ⟨b, u1, u2⟩ := uni_same N (rsv vars sigs n) (by omega) (by omega) (sorted_nodes _ hs)
         rw [iteO_true, u1, bindO_some, hf]
         simp only [Option.getD_some, Bool.true_and]
         cases hm : (nodes n).any (miB sigs) with
         | true =>
           have hbad := rsv_bad vars sigs n hu hm hc
           rw [hs, Bool.true_and] at hbad
           rw [hbad]
           cases b <;> rfl
         | false => cases b <;> cases (nodes (rsv vars sigs n)).all (fitB sigs) <;> rfl
theorem ref55 (N : Nat) (hN : 4611686018400000000 ≤ N ∧ N ≤ 4611686018427387904) (n : Node) (hb : n.size ≤ 1048576) (k : Int) (h38 : F38 N n = some k) (hv : vars.length < 100) (hsg : sigs.length < 100) : F55 N n vars sigs = some (rsvAns vars sigs k n) := by
 have h27 := size27 N n (by omega) (by omega)
 have h39 : F39 N n = some k := by rw [← levels_same, h38]
 have hsz := rsv_size vars sigs n.size n (Nat.le_refl _)
 unfold F55 rsvAns
 rw [h27, h39]
 simp only [bindO_some]
 by_cases hs : (n.size : Int) ≤ 4000
 · rw [decide_eq_true hs, decide_eq_false (by omega : ¬ (n.size : Int) > 4000), iteO_false, Bool.true_and]
   by_cases hk : k ≤ 100
   · rw [decide_eq_true hk, decide_eq_false (by omega : ¬ k > 100), iteO_false, cond_true, unnamed103 vars sigs hv hsg N n (by omega), bindO_some]
     cases hu : (nodes n).any (unB vars sigs) with
     | true => rfl
     | false =>
       rw [iteO_false, cond_false, mis104 sigs hsg N n (by omega), bindO_some]
       cases hm : (nodes n).any (miB sigs) with
       | true => rfl
       | false =>
         have h72 := sorted72 N (rsv vars sigs n) (by omega)
         rw [iteO_false, cond_false, rsv105 vars sigs hv hsg N n hb (by omega), bindO_some, h72, bindO_some]
         cases hsr : sortedR (rsv vars sigs n) with
         | false => rfl
         | true =>
           obtain ⟨b, u1, u2⟩ := uni_same N (rsv vars sigs n) (by omega) (by omega) (sorted_nodes _ hsr)
           have hf := fitA106 sigs hsg N (rsv vars sigs n) (by omega) (rsv_count vars sigs n hu hm)
           rw [iteO_true, u2, u1, bindO_some, hf]
           simp only [Option.getD_some, Bool.true_and]
           cases b <;> cases (nodes (rsv vars sigs n)).all (fitB sigs) <;> rfl
   · rw [decide_eq_false hk, decide_eq_true (by omega : k > 100)]; rfl
 · rw [decide_eq_false hs, decide_eq_true (by omega : (n.size : Int) > 4000)]; rfl
end
theorem awake12 (M : Nat) : F12 (M + 10) = some true := by kernel_rfl
theorem small13r (N : Nat) (n : Node) (hN : N ≤ 4611686018427387904) (h : n.size < N) (h2 : 2 ≤ N) : F13 N 6000 [n] = some (decide (n.size ≤ 6000)) := by
 obtain ⟨M, rfl⟩ : ∃ M, N = M + 2 := ⟨N - 2, by omega⟩
 have hs := size27 (M + 2) n hN h
 have hw : IntKind.i64.wrap (6000 - (n.size : Int)) = 6000 - (n.size : Int) := wrap_id (by omega)
 simp only [F13, foldN, F13_s1, hs, bindO_some, F13_f1, hw]
 congr 1
 simp only [decide_eq_decide]
 omega
def big : Nat := 4611686018427387904
theorem lawRs (n : Node) (vars : List Decl) (sigs : List Sig) (hb : n.size ≤ 1048576) : F9 4611686018427387904 n vars sigs = some true := by
 obtain ⟨N, hNe⟩ : ∃ N : Nat, N = 4611686018427387904 := ⟨_, rfl⟩
 have ha : F12 N = some true := by rw [hNe]; exact awake12 4611686018427387894
 have hN : 4611686018400000000 ≤ N ∧ N ≤ 4611686018427387904 := by omega
 rw [← hNe]
 have hs := small13r N n (by omega) (by omega) (by omega)
 unfold F9
 rw [ha, bindO_some, iteO_true, hs, bindO_some]
 cases decide (n.size ≤ 6000) with
 | false => rfl
 | true =>
   rw [iteO_true]
   by_cases hv : vars.length ≤ 60
   · rw [decide_eq_false (by omega : ¬ (vars.length : Int) > 60), iteO_false]
     by_cases hsg : sigs.length ≤ 60
     · rw [decide_eq_false (by omega : ¬ (sigs.length : Int) > 60), iteO_false]
       obtain ⟨k, hk, _, _⟩ := levels39 N n (by omega) (by omega)
       have h38 : F38 N n = some k := by rw [levels_same, hk]
       rw [res54 vars sigs N hN n hb k h38 (by omega) (by omega), ref55 vars sigs N hN n hb k h38 (by omega) (by omega)]
       have hsz := rsv_size vars sigs n.size n (Nat.le_refl _)
       simp only [bindO_some, beq_self_eq_true, iteO_true]
       have hz : zNode.size = 1 := by decide
       have hsize : (rsvAns vars sigs k n).1.size ≤ 1048576 := by
         unfold rsvAns
         cases decide ((n.size : Int) ≤ 4000) && decide (k ≤ 100) <;> cases (nodes n).any (unB vars sigs) <;> cases (nodes n).any (miB sigs) <;> cases sortedR (rsv vars sigs n) && ((F40 (rsv vars sigs n)).getD false && (nodes (rsv vars sigs n)).all (fitB sigs)) <;> simp only [cond_true, cond_false] <;> omega
       rw [selfEq21 N _ (by omega) hsize, bindO_some, iteO_true]
       cases h0 : (rsvAns vars sigs k n).2 == 0 with
       | false => rfl
       | true =>
         rw [iteO_true]
         rw [beq_iff_eq] at h0
         have hr : (rsvAns vars sigs k n).1 = rsv vars sigs n ∧ (decide ((n.size : Int) ≤ 4000) && decide (k ≤ 100)) = true ∧ sortedR (rsv vars sigs n) = true ∧ (F40 (rsv vars sigs n)).getD false = true := by
           revert h0
           unfold rsvAns
           cases decide ((n.size : Int) ≤ 4000) && decide (k ≤ 100) <;> cases (nodes n).any (unB vars sigs) <;> cases (nodes n).any (miB sigs) <;> cases sortedR (rsv vars sigs n) <;> cases (F40 (rsv vars sigs n)).getD false <;> cases (nodes (rsv vars sigs n)).all (fitB sigs) <;> simp only [cond_true, cond_false, Bool.and_true, Bool.and_false, Bool.true_and, Bool.false_and] <;> intro h0 <;> first | (exfalso; revert h0; decide) | exact ⟨rfl, rfl, rfl, rfl⟩ | simp
         obtain ⟨e1, e2, e3, e4⟩ := hr
         have hwr := within70 N (rsv vars sigs n) k (size37 _ (by omega)) (by rw [rsv_levels, h38])
         rw [hsz, e2] at hwr
         have h71 := sorted71 N (rsv vars sigs n) (by omega) (by omega)
         obtain ⟨b, u1, u2⟩ := uni_same N (rsv vars sigs n) (by omega) (by omega) (sorted_nodes _ e3)
         rw [u1, Option.getD_some] at e4
         rw [e4] at u1
         have h14 : F14 N (rsv vars sigs n) 0 = some 0 := by
           unfold F14
           rw [hwr, h71, u1, e3]
           rfl
         rw [e1, h14]
         rfl
     · rw [decide_eq_true (by omega : (sigs.length : Int) > 60)]; rfl
   · rw [decide_eq_true (by omega : (vars.length : Int) > 60)]; rfl
end Go.Abs.Try
