import Derived.Test.YtjjajifecniidaaQP10
namespace Go.Abs.Try
set_option linter.unusedSimpArgs false
set_option linter.unusedVariables false
set_option maxRecDepth 100000
/-! ### Copies -/
theorem fits64_ok {n : Nat} (h : n ≤ 1048577) : fits n 64 = true := by
  simp only [fits, roomMax]; exact decide_eq_true (by omega)
theorem foldl_app (g : Node → Node) : ∀ (l s : List Node), l.foldl (fun s x => s ++ [g x]) s = s ++ l.map g
  | [], s => by simp
  | x :: xs, s => by rw [List.foldl_cons, foldl_app g xs]; simp
theorem app_fold {β : Type} (self : Node → Option Node) (g : Node → Node) (step : List Node → Nat → Node → Option (Sum (List Node) β)) (hstep : ∀ s i x, step s i x = bindO (self x) fun r => iteO (fits (s.length + 1) 64) (some (.inl (s ++ [r]))) none) (fin : List Node → Option β)
    (ks : List Node) (N : Nat) (hN : ks.length < N) (hb : ks.length ≤ 1048576) (hs : ∀ k ∈ ks, self k = some (g k)) : foldN step fin N ks 0 [] = fin (ks.map g) := by
  have := foldN_inl (step := step) (fin := fin) (fun (s : List Node) (k : Node) => s ++ [g k]) (fun l s => (∀ k ∈ l, k ∈ ks) ∧ s.length + l.length = ks.length)
    (fun x xs i s ⟨h1, h2⟩ => by
      simp only [List.length_cons] at h2
      refine ⟨by rw [hstep, hs x (h1 x (by simp)), bindO_some, fits64_ok (by omega), iteO_true], fun k hk => h1 k (by simp [hk]), by simp; omega⟩) ks N 0 [] hN ⟨fun _ h => h, by simp⟩
  rw [this.1, foldl_app, List.nil_append]
theorem same83 : ∀ (N : Nat) (n : Node), n.size < N → n.size ≤ 1048576 → F83 N n = some n
  | 0, n, h, _ => absurd h (Nat.not_lt_zero _)
  | N + 1, n, h, hb => by
    have hk := kids_len n
    show F83b (F83 N) N n = _
    simp only [F83b]
    rw [app_fold (F83 N) id (F83_s2 (F83 N)) (fun _ _ _ => rfl) (F83_f2 n) n.kids N (by omega) (by omega) (fun k hk => same83 N k (by have := kids_size hk; omega) (by have := kids_size hk; omega)), List.map_id]
    cases n; rfl
theorem copied82 : ∀ (N : Nat) (n : Node), n.size < N → n.size ≤ 1048576 → F82 N n = some n
  | 0, n, h, _ => absurd h (Nat.not_lt_zero _)
  | N + 1, n, h, hb => by
    have hk := kids_len n
    show F82b (F82 N) N n = _
    have hf : fits n.kids.length 64 = true := fits64_ok (by omega)
    simp only [F82b, hf, iteO_true, Int.toNat_natCast]
    refine foldN_idx (step := F82_s1 (F82 N)) (fin := F82_f1 n) (fun s _ _ => s) (fun i l s => s = n.kids ∧ i + l.length = n.kids.length) (fun r => r = some n) ?_ ?_ (List.range n.kids.length) N 0 n.kids (by simp; omega) ⟨rfl, by simp⟩
    · intro x xs i s ⟨h1, h2⟩
      subst h1
      simp only [List.length_cons] at h2
      have hi : i < n.kids.length := by omega
      have hm := List.getElem_mem hi
      have hs := kids_size hm
      have ha : atO n.kids (i : Int) = some n.kids[i] := atO_get (List.getElem?_eq_getElem hi)
      refine ⟨?_, rfl, by omega⟩
      simp only [F82_s1, ha, bindO_some, copied82 N n.kids[i] (by omega) (by omega), List.set_getElem_self]
    · intro i s ⟨h1, _⟩
      subst h1
      cases n; rfl
/-! ### Substitution -/
def firstM (nm : ByteArray) : List ByteArray → List Node → Option Node
  | a :: ays', w :: ws => bif a.toList == nm.toList then some w else firstM nm ays' ws
  | _, _ => none
theorem firstM_mem (nm : ByteArray) : ∀ (a : List ByteArray) (ws : List Node) (w : Node), firstM nm a ws = some w → w ∈ ws
  | [], _, _, h => by simp [firstM] at h
  | _ :: _, [], _, h => by simp [firstM] at h
  | a :: ays', w :: ws, v, h => by
    simp only [firstM] at h
    cases he : a.toList == nm.toList with
    | true => rw [he] at h; injection h with h; subst h; simp
    | false => rw [he] at h; exact List.mem_cons_of_mem _ (firstM_mem nm ays' ws v h)
def orElseO (o : Option Node) (d : Option Node) : Option Node := match o with
  | some w => some w
  | none => d
theorem search22 (N : Nat) (n : Node) (names : List ByteArray) (ws : List Node) (fin : Unit → Option Node) (hw : ∀ w ∈ ws, w.size < N ∧ w.size ≤ 1048576) : ∀ (l : List Nat) (M i : Nat), i + l.length = min names.length ws.length → l.length < M → foldN (F22_s1 N n names ws) fin M l i () = orElseO (firstM n.name (names.drop i) (ws.drop i)) (fin ())
  | [], M, i, h, hM => by
    obtain ⟨K, rfl⟩ : ∃ K, M = K + 1 := ⟨M - 1, by simp at hM; omega⟩
    have : firstM n.name (names.drop i) (ws.drop i) = none := by
      simp only [List.length_nil] at h
      by_cases hn : names.length ≤ ws.length
      · rw [List.drop_eq_nil_iff.2 (show names.length ≤ i by omega)]; rfl
      · rw [List.drop_eq_nil_iff.2 (show ws.length ≤ i by omega)]
        cases names.drop i <;> rfl
    rw [this]; rfl
  | x :: xs, M, i, h, hM => by
    obtain ⟨K, rfl⟩ : ∃ K, M = K + 1 := ⟨M - 1, by simp at hM; omega⟩
    simp only [List.length_cons] at h hM
    have h1 : i < names.length := by omega
    have h2 : i < ws.length := by omega
    have a1 : atO names (i : Int) = some names[i] := atO_get (List.getElem?_eq_getElem h1)
    have a2 : atO ws (i : Int) = some ws[i] := atO_get (List.getElem?_eq_getElem h2)
    have hc := copied82 N ws[i] (hw _ (List.getElem_mem h2)).1 (hw _ (List.getElem_mem h2)).2
    have ih := search22 N n names ws fin hw xs K (i + 1) (by omega) (by omega)
    rw [List.drop_eq_getElem_cons h1, List.drop_eq_getElem_cons h2, firstM]
    simp only [foldN, F22_s1, a1, a2, hc, bindO_some]
    cases names[i].toList == n.name.toList with
    | true => rfl
    | false => simp only [iteO_false, bindO_some, cond_false]; exact ih
mutual
def substR (names : List ByteArray) (ws : List Node) : Node → Node
  | ⟨op, s, nm, k, ks⟩ => match (bif op == 1 then firstM nm names ws else none) with
    | some w => w
    | none => ⟨op, s, nm, k, substL names ws ks⟩
def substL (names : List ByteArray) (ws : List Node) : List Node → List Node
  | [] => []
  | k :: ks => substR names ws k :: substL names ws ks
end
theorem substL_eq (names : List ByteArray) (ws : List Node) : ∀ ks : List Node, substL names ws ks = ks.map (substR names ws)
  | [] => rfl
  | k :: ks => by rw [substL, substL_eq names ws ks]; rfl
theorem substR_eq (names : List ByteArray) (ws : List Node) (n : Node) : some (substR names ws n) = orElseO (bif n.op == 1 then firstM n.name names ws else none) (some ⟨n.op, n.sortf, n.name, n.num, n.kids.map (substR names ws)⟩) := by
  cases n with
  | mk op s nm k ks =>
    simp only [substR, substL_eq]
    cases (bif op == 1 then firstM nm names ws else none) <;> rfl
theorem subst22 (names : List ByteArray) (ws : List Node) (hl : names.length ≤ 1048576 ∧ ws.length ≤ 1048576) : ∀ (N : Nat) (n : Node), 1048600 + n.size < N → n.size ≤ 1048576 → (∀ w ∈ ws, w.size ≤ 1048576) → F22 N n names ws = some (substR names ws n)
  | 0, n, h, _, _ => absurd h (Nat.not_lt_zero _)
  | N + 1, n, h, hb, hw => by
    have hk := kids_len n
    show F22b (F22 N) N n names ws = _
    rw [substR_eq]
    have hd : decide ((0 : Nat) ≤ 0 ∧ 0 ≤ (n.kids.length : Int) ∧ (n.kids.length : Int) * 64 ≤ 140737488355328 ∧ (n.kids.length : Int) ≤ 9223372036854775807) = true := decide_eq_true (by omega)
    have ih : ∀ k ∈ n.kids, (fun k => F22 N k names ws) k = some (substR names ws k) := fun k hk => subst22 names ws hl N k (by have := kids_size hk; omega) (by have := kids_size hk; omega) hw
    have f2 := app_fold (fun k => F22 N k names ws) (substR names ws) (F22_s2 (F22 N) names ws) (fun _ _ _ => rfl) (F22_f2 n) n.kids N (by omega) (by omega) ih
    have f3 := app_fold (fun k => F22 N k names ws) (substR names ws) (F22_s3 (F22 N) names ws) (fun _ _ _ => rfl) (F22_f3 n) n.kids N (by omega) (by omega) ih
    cases h1 : n.op == 1 with
    | true =>
      have hm : (min (names.length : Int) (ws.length : Int)).toNat = min names.length ws.length := by omega
      have := search22 N n names ws (F22_f1 (F22 N) N n names ws) (fun w hw' => ⟨by have := hw w hw'; omega, hw w hw'⟩) (List.range (min names.length ws.length)) N 0 (by simp) (by simp; omega)
      simp only [F22b, h1, iteO_true, cond_true, hm]
      rw [this]
      simp only [F22_f1, hd, iteO_true, f2, List.drop_zero]
      rfl
    | false =>
      simp only [F22b, h1, iteO_false, cond_false, hd, iteO_true, f3]
      rfl
end Go.Abs.Try
