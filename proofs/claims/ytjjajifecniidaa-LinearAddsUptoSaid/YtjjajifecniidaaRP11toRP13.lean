import Derived.Test.YtjjajifecniidaaRP1toRP10
namespace Go.Abs.Try
set_option linter.unusedSimpArgs false
set_option linter.unusedVariables false
set_option maxRecDepth 100000
/-! ### Copies -/
theorem fits64_ok {n : Nat} (h : n ≤ 1048577) : fits n 64 = true := by
  simp only [fits, roomMax]; exact decide_eq_true (by omega)
theorem foldl_app (g : Node → Node) : ∀ (l s : List Node), l.foldl (fun s x => s ++ [g x]) s = s ++ l.map g
  | [], s => by simp
  | x :: xs, s => by rw [List.foldl_cons, foldl_app g xs]; simp
theorem app_fold {β : Type} (self : Node → Option Node) (g : Node → Node) (step : List Node → Nat → Node → Option (Sum (List Node) β)) (hstep : ∀ s i x, step s i x = bindO (self x) fun r => iteO (fits (s.length + 1) 64) (some (.inl (s ++ [r]))) none) (fin : List Node → Option β)
    (ks : List Node) (N : Nat) (hN : ks.length < N) (hb : ks.length ≤ 1048576) (hs : ∀ k ∈ ks, self k = some (g k)) : foldN step fin N ks 0 [] = fin (ks.map g) := by
  have := foldN_inl (step := step) (fin := fin) (fun (s : List Node) (k : Node) => s ++ [g k]) (fun l s => (∀ k ∈ l, k ∈ ks) ∧ s.length + l.length = ks.length)
    (fun x xs i s ⟨h1, h2⟩ => by
      simp only [List.length_cons] at h2
      refine ⟨by rw [hstep, hs x (h1 x (by simp)), bindO_some, fits64_ok (by omega), iteO_true], fun k hk => h1 k (by simp [hk]), by simp; omega⟩) ks N 0 [] hN ⟨fun _ h => h, by simp⟩
  rw [this.1, foldl_app, List.nil_append]
theorem same83 : ∀ (N : Nat) (n : Node), n.size < N → n.size ≤ 1048576 → F83 N n = some n
  | 0, n, h, _ => absurd h (Nat.not_lt_zero _)
  | N + 1, n, h, hb => by
    have hk := kids_len n
    show F83b (F83 N) N n = _
    simp only [F83b]
    rw [app_fold (F83 N) id (F83_s2 (F83 N)) (fun _ _ _ => rfl) (F83_f2 n) n.kids N (by omega) (by omega) (fun k hk => same83 N k (by have := kids_size hk; omega) (by have := kids_size hk; omega)), List.map_id]
    cases n; rfl
theorem copied82 : ∀ (N : Nat) (n : Node), n.size < N → n.size ≤ 1048576 → F82 N n = some n
  | 0, n, h, _ => absurd h (Nat.not_lt_zero _)
  | N + 1, n, h, hb => by
    have hk := kids_len n
    show F82b (F82 N) N n = _
    have hf : fits n.kids.length 64 = true := fits64_ok (by omega)
    simp only [F82b, hf, iteO_true, Int.toNat_natCast]
    refine foldN_idx (step := F82_s1 (F82 N)) (fin := F82_f1 n) (fun s _ _ => s) (fun i l s => s = n.kids ∧ i + l.length = n.kids.length) (fun r => r = some n) ?_ ?_ (List.range n.kids.length) N 0 n.kids (by simp; omega) ⟨rfl, by simp⟩
    · intro x xs i s ⟨h1, h2⟩
      subst h1
      simp only [List.length_cons] at h2
      have hi : i < n.kids.length := by omega
      have hm := List.getElem_mem hi
      have hs := kids_size hm
      have ha : atO n.kids (i : Int) = some n.kids[i] := atO_get (List.getElem?_eq_getElem hi)
      refine ⟨?_, rfl, by omega⟩
      simp only [F82_s1, ha, bindO_some, copied82 N n.kids[i] (by omega) (by omega), List.set_getElem_self]
    · intro i s ⟨h1, _⟩
      subst h1
      cases n; rfl
/-! ### Substitution -/
def firstM (nm : ByteArray) : List ByteArray → List Node → Option Node
  | a :: ays', w :: ws => bif a.toList == nm.toList then some w else firstM nm ays' ws
  | _, _ => none
theorem firstM_mem (nm : ByteArray) : ∀ (a : List ByteArray) (ws : List Node) (w : Node), firstM nm a ws = some w → w ∈ ws
  | [], _, _, h => by simp [firstM] at h
  | _ :: _, [], _, h => by simp [firstM] at h
  | a :: ays', w :: ws, v, h => by
    simp only [firstM] at h
    cases he : a.toList == nm.toList with
    | true => rw [he] at h; injection h with h; subst h; simp
    | false => rw [he] at h; exact List.mem_cons_of_mem _ (firstM_mem nm ays' ws v h)
def orElseO (o : Option Node) (d : Option Node) : Option Node := match o with
  | some w => some w
  | none => d
theorem search22 (N : Nat) (n : Node) (names : List ByteArray) (ws : List Node) (fin : Unit → Option Node) (hw : ∀ w ∈ ws, w.size < N ∧ w.size ≤ 1048576) : ∀ (l : List Nat) (M i : Nat), i + l.length = min names.length ws.length → l.length < M → foldN (F22_s1 N n names ws) fin M l i () = orElseO (firstM n.name (names.drop i) (ws.drop i)) (fin ())
  | [], M, i, h, hM => by
    obtain ⟨K, rfl⟩ : ∃ K, M = K + 1 := ⟨M - 1, by simp at hM; omega⟩
    have : firstM n.name (names.drop i) (ws.drop i) = none := by
      simp only [List.length_nil] at h
      by_cases hn : names.length ≤ ws.length
      · rw [List.drop_eq_nil_iff.2 (show names.length ≤ i by omega)]; rfl
      · rw [List.drop_eq_nil_iff.2 (show ws.length ≤ i by omega)]
        cases names.drop i <;> rfl
    rw [this]; rfl
  | x :: xs, M, i, h, hM => by
    obtain ⟨K, rfl⟩ : ∃ K, M = K + 1 := ⟨M - 1, by simp at hM; omega⟩
    simp only [List.length_cons] at h hM
    have h1 : i < names.length := by omega
    have h2 : i < ws.length := by omega
    have a1 : atO names (i : Int) = some names[i] := atO_get (List.getElem?_eq_getElem h1)
    have a2 : atO ws (i : Int) = some ws[i] := atO_get (List.getElem?_eq_getElem h2)
    have hc := copied82 N ws[i] (hw _ (List.getElem_mem h2)).1 (hw _ (List.getElem_mem h2)).2
    have ih := search22 N n names ws fin hw xs K (i + 1) (by omega) (by omega)
    rw [List.drop_eq_getElem_cons h1, List.drop_eq_getElem_cons h2, firstM]
    simp only [foldN, F22_s1, a1, a2, hc, bindO_some]
    cases names[i].toList == n.name.toList with
    | true => rfl
    | false => simp only [iteO_false, bindO_some, cond_false]; exact ih
mutual
def substR (names : List ByteArray) (ws : List Node) : Node → Node
  | ⟨op, s, nm, k, ks⟩ => match (bif op == 1 then firstM nm names ws else none) with
    | some w => w
    | none => ⟨op, s, nm, k, substL names ws ks⟩
def substL (names : List ByteArray) (ws : List Node) : List Node → List Node
  | [] => []
  | k :: ks => substR names ws k :: substL names ws ks
end
theorem substL_eq (names : List ByteArray) (ws : List Node) : ∀ ks : List Node, substL names ws ks = ks.map (substR names ws)
  | [] => rfl
  | k :: ks => by rw [substL, substL_eq names ws ks]; rfl
theorem substR_eq (names : List ByteArray) (ws : List Node) (n : Node) : some (substR names ws n) = orElseO (bif n.op == 1 then firstM n.name names ws else none) (some ⟨n.op, n.sortf, n.name, n.num, n.kids.map (substR names ws)⟩) := by
  cases n with
  | mk op s nm k ks =>
    simp only [substR, substL_eq]
    cases (bif op == 1 then firstM nm names ws else none) <;> rfl
theorem subst22 (names : List ByteArray) (ws : List Node) (hl : names.length ≤ 1048576 ∧ ws.length ≤ 1048576) : ∀ (N : Nat) (n : Node), 1048600 + n.size < N → n.size ≤ 1048576 → (∀ w ∈ ws, w.size ≤ 1048576) → F22 N n names ws = some (substR names ws n)
  | 0, n, h, _, _ => absurd h (Nat.not_lt_zero _)
  | N + 1, n, h, hb, hw => by
    have hk := kids_len n
    show F22b (F22 N) N n names ws = _
    rw [substR_eq]
    have hd : decide ((0 : Nat) ≤ 0 ∧ 0 ≤ (n.kids.length : Int) ∧ (n.kids.length : Int) * 64 ≤ 140737488355328 ∧ (n.kids.length : Int) ≤ 9223372036854775807) = true := decide_eq_true (by omega)
    have ih : ∀ k ∈ n.kids, (fun k => F22 N k names ws) k = some (substR names ws k) := fun k hk => subst22 names ws hl N k (by have := kids_size hk; omega) (by have := kids_size hk; omega) hw
    have f2 := app_fold (fun k => F22 N k names ws) (substR names ws) (F22_s2 (F22 N) names ws) (fun _ _ _ => rfl) (F22_f2 n) n.kids N (by omega) (by omega) ih
    have f3 := app_fold (fun k => F22 N k names ws) (substR names ws) (F22_s3 (F22 N) names ws) (fun _ _ _ => rfl) (F22_f3 n) n.kids N (by omega) (by omega) ih
    cases h1 : n.op == 1 with
    | true =>
      have hm : (min (names.length : Int) (ws.length : Int)).toNat = min names.length ws.length := by omega
      have := search22 N n names ws (F22_f1 (F22 N) N n names ws) (fun w hw' => ⟨by have := hw w hw'; omega, hw w hw'⟩) (List.range (min names.length ws.length)) N 0 (by simp) (by simp; omega)
      simp only [F22b, h1, iteO_true, cond_true, hm]
      rw [this]
      simp only [F22_f1, hd, iteO_true, f2, List.drop_zero]
      rfl
    | false =>
      simp only [F22b, h1, iteO_false, cond_false, hd, iteO_true, f3]
      rfl
end Go.Abs.Try
namespace Go.Abs.Try
set_option linter.unusedSimpArgs false
set_option linter.unusedVariables false
set_option maxRecDepth 100000
/-! ### Atoms -/
theorem check_sorted (N : Nat) (n : Node) (hN : N = 4611686018427387904) (hb : n.size ≤ 1048576) (h : F15 N n 0 = some 0) : sortedR n = true := by
  obtain ⟨k, hk, _, _⟩ := levels39 N n (by omega) (by omega)
  have h27 := size27 N n (by omega) (by omega)
  have h72 := sorted72 N n (by omega)
  have h0 : decide ((0 : Int) < 0) = false := rfl
  have h5 : decide ((0 : Int) > 5) = false := rfl
  simp only [F15, h0, h5, iteO_false, hk, h27, h72, bindO_some] at h
  cases hs : sortedR n with
  | true => rfl
  | false =>
    rw [hs] at h
    cases hx : decide ((n.size : Int) > 4000) with
    | true => rw [hx] at h; simp only [iteO_true] at h; injection h with h; omega
    | false =>
      cases hy : decide (k > 100) with
      | true => rw [hx, hy] at h; simp only [iteO_true, iteO_false] at h; injection h with h; omega
      | false => rw [hx, hy] at h; simp only [iteO_true, iteO_false] at h; injection h with h; omega
def atomB (n : Node) : Bool := (F63 4611686018427387904 n).getD false
theorem atom_same (N : Nat) (n : Node) (hN : N = 4611686018427387904) (hb : n.size ≤ 1048576) : F62 N n = some (atomB n) ∧ F63 N n = some (atomB n) := by
  obtain ⟨r, h14, h15⟩ := check_same N n 0 hN hb
  have h36 := sort36n N n (by omega)
  have h28 := sort28 N n (by omega)
  have key : ∃ b, F62 N n = some b ∧ F63 N n = some b := by
    simp only [F62, F63, h14, h15, h36, h28, bindO_some]
    cases n.op == 2 <;> cases n.op == 4 <;> cases n.op == 5 <;> cases n.op == 6 <;> cases n.op == 7 <;> cases r == 0 <;> cases sortS n == 1 <;> exact ⟨_, rfl, rfl⟩
  obtain ⟨b, h1, h2⟩ := key
  have : atomB n = b := by rw [atomB, ← hN, h2]; rfl
  rw [this]; exact ⟨h1, h2⟩
theorem atom_sorted (n : Node) (hb : n.size ≤ 1048576) (h : atomB n = true) : sortedR n = true := by
  obtain ⟨r, h14, h15⟩ := check_same 4611686018427387904 n 0 rfl hb
  have h63 := (atom_same 4611686018427387904 n rfl hb).2
  rw [h] at h63
  by_cases hr : r = 0
  · rw [hr] at h15; exact check_sorted _ n rfl hb h15
  · have e : (r == 0) = false := beq_eq_false_iff_ne.2 hr
    have h28 := sort28 4611686018427387904 n (by omega)
    simp only [F63, h15, h28, bindO_some, e] at h63
    generalize (n.op == 2) = x2 at h63
    generalize (n.op == 4) = x4 at h63
    generalize (n.op == 5) = x5 at h63
    generalize (n.op == 6) = x6 at h63
    generalize (n.op == 7) = x7 at h63
    cases x2 <;> cases x4 <;> cases x5 <;> cases x6 <;> cases x7 <;> simp only [iteO_true, iteO_false] at h63 <;> injection h63 with h63 <;> cases h63
/-! ### Copies of atoms -/
def zeroN : Node := ⟨0, 0, (⟨#[]⟩ : ByteArray), 0, []⟩
theorem own_name (n : Node) (h : ownA n = true) (ho : n.op = 1) : n.name.size ≠ 0 := by
  intro hs
  have h1 := own118A 30 n (Nat.le_refl _)
  rw [h] at h1
  have e : (n.op == 1) = true := beq_iff_eq.2 ho
  have e2 : F17 30 n.name = some false := by
    have : ((n.name.size : Int) == 0) = true := by simp [hs]
    simp only [F17, this, iteO_true]
  simp only [F118, e, iteO_true, e2, bindO_some, iteO_false] at h1
  cases h1
theorem empty_ne (s : ByteArray) (h : s.size ≠ 0) : ((⟨#[]⟩ : ByteArray).toList == s.toList) = false := by
  rw [beq_eq_false_iff_ne]
  intro e
  have h1 := congrArg List.length e
  rw [ba_len, ba_len] at h1
  exact h h1.symm
mutual
theorem subst_id : ∀ n : Node, sortedR n = true → substR [(⟨#[]⟩ : ByteArray)] [zeroN] n = n
  | ⟨op, s, nm, k, ks⟩, h => by
    rw [sortedR] at h
    simp only [Bool.and_eq_true, nodeB] at h
    have hf : (bif op == 1 then firstM nm [(⟨#[]⟩ : ByteArray)] [zeroN] else none) = none := by
      cases h1 : op == 1 with
      | false => rfl
      | true =>
        have := own_name _ h.1.1 (eq_of_beq h1)
        simp only [cond_true, firstM, empty_ne nm this, cond_false]
    simp only [substR, hf, substL_id ks h.2]
theorem substL_id : ∀ ks : List Node, allR ks = true → substL [(⟨#[]⟩ : ByteArray)] [zeroN] ks = ks
  | [], _ => rfl
  | k :: ks, h => by
    simp only [allR, Bool.and_eq_true] at h
    rw [substL, subst_id k h.1, substL_id ks h.2]
end
theorem copy24 (N : Nat) (n : Node) (hN : 1048600 + n.size < N) (hb : n.size ≤ 1048576) (h : atomB n = true) : F24 N n (⟨#[]⟩ : ByteArray) zeroN = some n := by
  have hz : zeroN.size ≤ 1048576 := by decide
  simp only [F24, subst22 [(⟨#[]⟩ : ByteArray)] [zeroN] ⟨by simp, by simp⟩ N n hN hb (fun w hw => by rw [List.mem_singleton.1 hw]; exact hz), bindO_some, subst_id n (atom_sorted n hb h)]
end Go.Abs.Try
namespace Go.Abs.Try
set_option linter.unusedSimpArgs false
set_option linter.unusedVariables false
set_option maxRecDepth 100000
/-! ### Valid -/
def fitsC (x : Int) : Bool := decide (x ≥ (-9007199254740992)) && decide (x ≤ 9007199254740992)
theorem fits112 (x : Int) : F112 x = some (fitsC x) := by
  simp only [F112, fitsC]
  cases decide (x ≥ (-9007199254740992)) <;> rfl
theorem fits130 (x : Int) : F130 x = some (fitsC x) := by
  simp only [F130, fitsC]
  cases decide (x ≥ (-9007199254740992)) <;> rfl
def prevB (p : Option Node) (n : Node) : Bool := match p with
  | none => true
  | some q => !decide (cmpR q n ≥ 0)
def validL : Option Node → List Mono → Bool
  | _, [] => true
  | p, m :: ms => !(m.monoCoef == 0) && (fitsC m.monoCoef && (atomB m.monoAtom && (prevB p m.monoAtom && validL (some m.monoAtom) ms)))
def Good (f : Lin) : Prop := f.linMonos.length ≤ 1048576 ∧ ∀ m ∈ f.linMonos, m.monoAtom.size ≤ 1048576
def validB (f : Lin) : Bool := validL none f.linMonos && fitsC f.linConst
theorem valid_fold (f : Lin) (hg : Good f) (A : Int → Option Bool) (B : Node → Option Bool) (C : Node → Node → Option Int) (hA : ∀ x, A x = some (fitsC x)) (hB : ∀ n : Node, n.size ≤ 1048576 → B n = some (atomB n)) (hC : ∀ a b : Node, a.size ≤ 1048576 → C a b = some (cmpR a b))
    (step : Unit → Nat → Mono → Option (Sum Unit Bool)) (hstep : ∀ s (i : Nat) (x2 : Mono), step s i x2 = iteO (x2.monoCoef == 0) (some (.inr false)) (bindO (A x2.monoCoef) fun r4 => iteO r4 (bindO (B x2.monoAtom) fun r5 => iteO r5
      (iteO (decide ((i : Int) > 0)) (bindO (atO f.linMonos (IntKind.i64.wrap ((i : Int) - 1))) fun x6 => bindO (C x6.monoAtom x2.monoAtom) fun r7 => iteO (decide (r7 ≥ 0)) (some (.inr false)) (some (.inl ()))) (some (.inl ()))) (some (.inr false))) (some (.inr false))))
    (fin : Unit → Option Bool) (hfin : fin () = some (fitsC f.linConst)) : ∀ (l : List Mono) (N i : Nat), l.length < N → f.linMonos.drop i = l → foldN step fin N l i () = some (validL (if i = 0 then none else (f.linMonos[i - 1]?).map Mono.monoAtom) l && fitsC f.linConst)
  | [], N, i, hN, _ => by
    obtain ⟨M, rfl⟩ : ∃ M, N = M + 1 := ⟨N - 1, by simp at hN; omega⟩
    simp only [foldN, hfin, validL, Bool.true_and]
  | x :: xs, N, i, hN, hd => by
    obtain ⟨M, rfl⟩ : ∃ M, N = M + 1 := ⟨N - 1, by simp at hN; omega⟩
    obtain ⟨hx, hxs⟩ := drop_cons hd
    obtain ⟨hi, hx'⟩ := List.getElem?_eq_some_iff.1 hx
    have hm : x ∈ f.linMonos := hx' ▸ List.getElem_mem hi
    have hsz := hg.2 x hm
    have hlen := hg.1
    have ih := valid_fold f hg A B C hA hB hC step hstep fin hfin xs M (i + 1) (by simp at hN; omega) hxs
    have hp : (if i + 1 = 0 then none else (f.linMonos[i + 1 - 1]?).map Mono.monoAtom) = some x.monoAtom := by
      rw [if_neg (by omega), Nat.add_sub_cancel, hx]; rfl
    rw [hp] at ih
    simp only [foldN, hstep, hA, hB _ hsz, bindO_some, validL]
    cases x.monoCoef == 0 with
    | true => rfl
    | false =>
      cases fitsC x.monoCoef with
      | false => rfl
      | true =>
        cases atomB x.monoAtom with
        | false => rfl
        | true =>
          simp only [iteO_true, iteO_false, Bool.not_false, Bool.true_and]
          by_cases h0 : i = 0
          · subst h0
            have : decide (((0 : Nat) : Int) > 0) = false := rfl
            rw [this, iteO_false, if_pos rfl]
            simp only [bindO_some, prevB, Bool.true_and]
            exact ih
          · have e : decide ((i : Int) > 0) = true := decide_eq_true (by omega)
            have hi1 : i - 1 < f.linMonos.length := by omega
            have hq : f.linMonos[i - 1]? = some f.linMonos[i - 1] := List.getElem?_eq_getElem hi1
            have ha : atO f.linMonos (IntKind.i64.wrap ((i : Int) - 1)) = some f.linMonos[i - 1] := by
              rw [wrap_id (by omega)]
              exact atO_lit (i := i - 1) (by omega) hq
            have hc := hC f.linMonos[i - 1].monoAtom x.monoAtom (hg.2 _ (List.getElem_mem hi1))
            rw [e, iteO_true, ha, if_neg h0, hq]
            simp only [bindO_some, hc, Option.map_some, prevB]
            cases decide (cmpR f.linMonos[i - 1].monoAtom x.monoAtom ≥ 0) with
            | true => rfl
            | false =>
              simp only [iteO_false, bindO_some, Bool.not_false, Bool.true_and]
              exact ih
theorem valid64 (N : Nat) (f : Lin) (hN : N = 4611686018427387904) (hg : Good f) : F64 N f = some (validB f) := by
  have := valid_fold f hg F112 (F62 N) (F18 N) fits112 (fun n h => (atom_same N n hN h).1) (fun a b h => cmp18 N a b (by omega)) (F64_s1 N f) (fun _ _ _ => rfl) (F64_f1 f) (by simp only [F64_f1, fits112, bindO_some]) f.linMonos N 0 (by have := hg.1; omega) rfl
  exact this
theorem valid89 (N : Nat) (f : Lin) (hN : N = 4611686018427387904) (hg : Good f) : F89 N f = some (validB f) := by
  have := valid_fold f hg F130 (F63 N) (F19 N) fits130 (fun n h => (atom_same N n hN h).2) (fun a b h => cmp19 N a b (by omega) h) (F89_s1 N f) (fun _ _ _ => rfl) (F89_f1 f) (by simp only [F89_f1, fits130, bindO_some]) f.linMonos N 0 (by have := hg.1; omega) rfl
  exact this
end Go.Abs.Try
