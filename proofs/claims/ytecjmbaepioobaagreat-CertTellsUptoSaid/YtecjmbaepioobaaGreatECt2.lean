import Derived.Test.YtecjmbaepioobaaGreatEP10toECt1
set_option linter.unusedSimpArgs false
set_option linter.unusedVariables false
namespace Go.Abs.Try
set_option maxRecDepth 100000
theorem mid_ct (i j : Nat) (h : i + j < 4611686018427387904) : IntKind.i64.wrap ((IntKind.u64.wrap (IntKind.i64.wrap ((i : Int) + (j : Int)))).fdiv (2 ^ (min (1 : Int).toNat (IntKind.u64).bits))) = (((i + j) / 2 : Nat) : Int) := by
 have e1 : IntKind.i64.wrap ((i : Int) + (j : Int)) = ((i + j : Nat) : Int) := by rw [wrap_id (by omega)]; omega
 have e2 : IntKind.u64.wrap ((i + j : Nat) : Int) = ((i + j : Nat) : Int) := by
   rw [IntKind.wrap_u64]
   exact Int.emod_eq_of_lt (by omega) (by omega)
 have e3 : (2 : Int) ^ (min (1 : Int).toNat (IntKind.u64).bits) = 2 := by decide
 rw [e1, e2, e3]
 have e4 : (((i + j : Nat) : Int)).fdiv 2 = (((i + j) / 2 : Nat) : Int) := by
   rw [Int.fdiv_eq_ediv_of_nonneg _ (by omega)]; omega
 rw [e4, wrap_id (by omega)]
theorem putR_at (n : Node) : ∀ (p : Nat) (l : List Node), p ≤ l.length → (∀ k m, l[k]? = some m → k < p → cmpR m n < 0) → (∀ m, l[p]? = some m → ¬ cmpR m n < 0) →
   putR n l = match l[p]? with | some m => if cmpR m n = 0 then l else Go.Abs.insL l p n | none => Go.Abs.insL l p n
 | 0, [], _, _, _ => rfl
 | 0, x :: l, _, _, h => by
   have hx := h x rfl
   have hn := cmpR_neg x n
   show putR n (x :: l) = if cmpR x n = 0 then x :: l else Go.Abs.insL (x :: l) 0 n
   rw [putR]
   by_cases h0 : cmpR x n = 0
   · rw [if_pos (by omega), if_pos h0]
   · rw [if_neg (by omega), if_pos (by omega), if_neg h0]; rfl
 | p + 1, [], h, _, _ => by simp at h
 | p + 1, x :: l, hp, h1, h2 => by
   have hx := h1 0 x rfl (by omega)
   have hn := cmpR_neg x n
   have ih := putR_at n p l (by simpa using hp) (fun k m hm hk => h1 (k + 1) m hm (by omega)) (fun m hm => h2 m hm)
   rw [putR, if_neg (by omega), if_neg (by omega), ih]
   show x :: (match l[p]? with | some m => if cmpR m n = 0 then l else Go.Abs.insL l p n | none => Go.Abs.insL l p n) = match l[p]? with | some m => if cmpR m n = 0 then x :: l else Go.Abs.insL (x :: l) (p + 1) n | none => Go.Abs.insL (x :: l) (p + 1) n
   cases l[p]? with
   | none => rfl
   | some m =>
     show x :: (if cmpR m n = 0 then l else Go.Abs.insL l p n) = if cmpR m n = 0 then x :: l else Go.Abs.insL (x :: l) (p + 1) n
     by_cases h0 : cmpR m n = 0
     · rw [if_pos h0, if_pos h0]
     · rw [if_neg h0, if_neg h0]; rfl
theorem fits64_ct {n : Nat} (h : n ≤ 4194304) : fits (n + 1) 64 = true := by
 simp only [fits, roomMax]; exact decide_eq_true (by omega)
theorem search_ct (N : Nat) (l : List Node) (x : Node) (hs : SrtN l) (hlen : l.length ≤ 4194304) (hsz : ∀ m ∈ l, m.size < N) : ∀ (d lo hi M : Nat), hi - lo ≤ d → d < M → lo ≤ hi → hi ≤ l.length →
   (∀ k m, l[k]? = some m → k < lo → cmpR m x < 0) → (∀ k m, l[k]? = some m → hi ≤ k → ¬ cmpR m x < 0) →
   whileN (F1407_s3 N l x) M ((hi : Int), (lo : Int)) = some (.inl (putR x l)) := by
 have ord : ∀ k j (m q : Node), l[k]? = some m → l[j]? = some q → k < j → cmpR m q < 0 := fun k j m q h1 h2 h => by
   obtain ⟨a1, a2⟩ := List.getElem?_eq_some_iff.1 h1
   obtain ⟨b1, b2⟩ := List.getElem?_eq_some_iff.1 h2
   have := List.pairwise_iff_getElem.1 hs k j a1 b1 h
   rw [a2, b2] at this; exact this
 intro d
 induction d with
 | zero =>
   intro lo hi M hd hM hlh hhi hlo hhi2
   obtain ⟨K, rfl⟩ : ∃ K, M = K + 1 := ⟨M - 1, by omega⟩
   have e : lo = hi := by omega
   subst e
   have hdd : decide ((lo : Int) < (lo : Int)) = false := decide_eq_false (by omega)
   have hat := putR_at x lo l hhi hlo (fun m hm => hhi2 lo m hm (Nat.le_refl _))
   rw [hat]
   have h142 : F142 l (lo : Int) [x] = some (Go.Abs.insL l lo x) := insF_some 64 _ lo _ hhi (fits64_ct hlen)
   cases hu : l[lo]? with
   | none =>
     have hge := List.getElem?_eq_none_iff.1 hu
     have hdl : decide ((lo : Int) < (l.length : Int)) = false := decide_eq_false (by omega)
     simp only [whileN, F1407_s3, hdd, hdl, iteO_false, h142, bindO_some]
   | some m =>
     have hlt := (List.getElem?_eq_some_iff.1 hu).1
     have hdl : decide ((lo : Int) < (l.length : Int)) = true := decide_eq_true (by omega)
     have ha := atO_get hu
     have hc := cmp18 N m x (hsz m (List.mem_of_getElem? hu))
     by_cases h0 : cmpR m x = 0
     · simp only [whileN, F1407_s3, hdd, hdl, iteO_false, iteO_true, ha, hc, bindO_some, beq_iff_eq.2 h0, if_pos h0]
     · simp only [whileN, F1407_s3, hdd, hdl, iteO_false, iteO_true, ha, hc, bindO_some, beq_eq_false_iff_ne.2 h0, if_neg h0, h142]
 | succ d ih =>
   intro lo hi M hd hM hlh hhi hlo hhi2
   by_cases hlt : lo < hi
   · obtain ⟨K, rfl⟩ : ∃ K, M = K + 1 := ⟨M - 1, by omega⟩
     have hdd : decide ((lo : Int) < (hi : Int)) = true := decide_eq_true (by omega)
     obtain ⟨h, hh⟩ : ∃ h, h = (lo + hi) / 2 := ⟨_, rfl⟩
     have hm := mid_ct lo hi (by omega)
     rw [← hh] at hm
     have hlt2 : h < l.length := by omega
     obtain ⟨m, hu⟩ : ∃ m, l[h]? = some m := ⟨_, List.getElem?_eq_getElem hlt2⟩
     have ha := atO_get hu
     have hc := cmp18 N m x (hsz m (List.mem_of_getElem? hu))
     have hw : IntKind.i64.wrap ((h : Int) + 1) = ((h + 1 : Nat) : Int) := by rw [wrap_id (by omega)]; omega
     by_cases h0 : cmpR m x < 0
     · have := ih (h + 1) hi K (by omega) (by omega) (by omega) hhi (fun k q hq hk => by
         rcases Nat.lt_or_ge k h with h1 | h1
         · exact cmp_lt1 (ord k h q m hq hu h1) (Int.le_of_lt h0)
         · have e : k = h := by omega
           subst e
           rw [hu] at hq; injection hq with hq; subst hq; exact h0) hhi2
       simp only [whileN, F1407_s3, hdd, iteO_true, hm, ha, hc, bindO_some, decide_eq_true h0, hw]
       exact this
     · have := ih lo h K (by omega) (by omega) (by omega) (by omega) hlo (fun k q hq hk => by
         rcases Nat.lt_or_ge h k with h1 | h1
         · intro h2
           exact h0 (cmp_lt1 (ord h k m q hu hq h1) (Int.le_of_lt h2))
         · have e : k = h := by omega
           subst e
           rw [hu] at hq; injection hq with hq; subst hq; exact h0)
       simp only [whileN, F1407_s3, hdd, iteO_true, hm, ha, hc, bindO_some, decide_eq_false h0, iteO_false]
       exact this
   · exact ih lo hi M (by omega) (by omega) hlh hhi hlo hhi2
theorem srt_ext : ∀ {l r : List Node}, SrtN l → SrtN r → (∀ x, x ∈ l ↔ x ∈ r) → l = r
 | [], [], _, _, _ => rfl
 | [], y :: r, _, _, h => absurd ((h y).2 (by simp)) (by simp)
 | x :: l, [], _, _, h => absurd ((h x).1 (by simp)) (by simp)
 | x :: l, y :: r, hl, hr, h => by
   obtain ⟨l1, l2⟩ := List.pairwise_cons.1 hl
   obtain ⟨r1, r2⟩ := List.pairwise_cons.1 hr
   have irr : ∀ z : Node, ¬ cmpR z z < 0 := fun z hz => by rw [cmpR_self] at hz; omega
   have e : x = y := by
     rcases List.mem_cons.1 ((h x).1 (by simp)) with e | hx
     · exact e
     rcases List.mem_cons.1 ((h y).2 (by simp)) with e | hy
     · exact e.symm
     have h1 := r1 x hx
     have h2 := l1 y hy
     have := cmpR_neg x y
     omega
   subst e
   rw [srt_ext l2 r2 fun z => ⟨fun hz => by
     rcases List.mem_cons.1 ((h z).1 (by simp [hz])) with e | h1
     · exact absurd (e ▸ l1 z hz) (irr z)
     · exact h1, fun hz => by
     rcases List.mem_cons.1 ((h z).2 (by simp [hz])) with e | h1
     · exact absurd (e ▸ r1 z hz) (irr z)
     · exact h1⟩]
def putsN (l xs : List Node) : List Node := xs.foldl (fun l x => putR x l) l
theorem putsN_srt : ∀ (xs l : List Node), SrtN l → SrtN (putsN l xs)
 | [], l, h => h
 | x :: xs, l, h => putsN_srt xs (putR x l) (putR_srt x l h)
theorem putsN_len : ∀ (xs l : List Node), (putsN l xs).length ≤ l.length + xs.length
 | [], l => by simp [putsN]
 | x :: xs, l => by
   have h1 := putsN_len xs (putR x l)
   have h2 := putR_len x l
   have e : putsN l (x :: xs) = putsN (putR x l) xs := rfl
   rw [e, List.length_cons]; omega
theorem putR_iff (n y : Node) (l : List Node) : y ∈ putR n l ↔ y = n ∨ y ∈ l := by
 constructor
 · exact putR_mem n l y
 · rintro (rfl | h)
   · obtain ⟨z, hz, hc⟩ := putR_new y l
     rw [cmpR_zero z y hc] at hz; exact hz
   · exact putR_old n l y h
theorem putsN_iff (y : Node) : ∀ (xs l : List Node), y ∈ putsN l xs ↔ y ∈ l ∨ y ∈ xs
 | [], l => by simp [putsN]
 | x :: xs, l => by
   have e : putsN l (x :: xs) = putsN (putR x l) xs := rfl
   rw [e, putsN_iff y xs, putR_iff, List.mem_cons]
   constructor
   · rintro ((h | h) | h)
     · exact .inr (.inl h)
     · exact .inl h
     · exact .inr (.inr h)
   · rintro (h | h | h)
     · exact .inl (.inr h)
     · exact .inl (.inl h)
     · exact .inr h
theorem putsN_again (xs l : List Node) (h : SrtN l) : putsN l (putsN [] xs) = putsN l xs :=
 srt_ext (putsN_srt _ _ h) (putsN_srt _ _ h) fun y => by rw [putsN_iff, putsN_iff, putsN_iff]; simp
mutual
def leaf : Node → List Node
  | ⟨op, s, nm, k, ks⟩ => bif connB op then leafL ks else [⟨op, s, nm, k, ks⟩]
def leafL : List Node → List Node
  | [] => []
  | k :: ks => leaf k ++ leafL ks
end
theorem leaf_eq (n : Node) : leaf n = bif connB n.op then leafL n.kids else [n] := by cases n; rfl
mutual
theorem leaf_len : ∀ n : Node, (leaf n).length ≤ n.size
  | ⟨op, s, nm, k, ks⟩ => by
    rw [leaf, Node.size_eq]
    have := leafL_len ks
    cases connB op with
    | true => rw [cond_true]; show _ ≤ 1 + (ks.map Node.size).sum; omega
    | false => rw [cond_false]; simp
theorem leafL_len : ∀ ks : List Node, (leafL ks).length ≤ (ks.map Node.size).sum
  | [] => by simp [leafL]
  | k :: ks => by
    have h1 := leaf_len k
    have h2 := leafL_len ks
    rw [leafL, List.length_append, List.map_cons, List.sum_cons]; omega
end
mutual
theorem leaf_size : ∀ n : Node, ∀ x ∈ leaf n, x.size ≤ n.size
  | ⟨op, s, nm, k, ks⟩, x, hx => by
    rw [leaf] at hx
    cases hc : connB op with
    | true =>
      rw [hc, cond_true] at hx
      have := leafL_size ks x hx
      rw [Node.size_eq (⟨op, s, nm, k, ks⟩ : Node)]; show _ ≤ 1 + (ks.map Node.size).sum; omega
    | false => rw [hc, cond_false, List.mem_singleton] at hx; rw [hx]; exact Nat.le_refl _
theorem leafL_size : ∀ ks : List Node, ∀ x ∈ leafL ks, x.size ≤ (ks.map Node.size).sum
  | [], x, hx => by cases hx
  | k :: ks, x, hx => by
    rw [leafL] at hx
    rw [List.map_cons, List.sum_cons]
    rcases List.mem_append.1 hx with hx | hx
    · have := leaf_size k x hx; omega
    · have := leafL_size ks x hx; omega
end
theorem same1414 : ∀ (N : Nat) (n : Node), n.size < N → n.size ≤ 1048576 → F1414 N n = some n
 | 0, n, h, _ => absurd h (Nat.not_lt_zero _)
 | N + 1, n, h, hb => by
   have hk := kids_len n
   have go : ∀ (r : List Nat) (M i : Nat), r.length < M → i + r.length = n.kids.length → foldN (S := List Node) (F1414_s1 (F1414 N)) (F1414_f1 n) M r i n.kids = some n := by
     intro r
     induction r with
     | nil =>
       intro M i hM _
       obtain ⟨K, rfl⟩ : ∃ K, M = K + 1 := ⟨M - 1, by simp at hM; omega⟩
       show F1414_f1 n n.kids = some n
       cases n; rfl
     | cons y r ih =>
       intro M i hM hi
       obtain ⟨K, rfl⟩ : ∃ K, M = K + 1 := ⟨M - 1, by simp at hM; omega⟩
       simp only [List.length_cons] at hM hi
       have hlt : i < n.kids.length := by omega
       have hg := List.getElem?_eq_getElem hlt
       have hs := same1414 N n.kids[i] (by have := kids_size (List.getElem_mem hlt); omega) (by have := kids_size (List.getElem_mem hlt); omega)
       simp only [foldN, F1414_s1, atO_get hg, hs, bindO_some, List.set_getElem_self]
       exact ih K (i + 1) (by omega) (by omega)
   show F1414b (F1414 N) N n = some n
   unfold F1414b
   have hf : fits n.kids.length 64 = true := by simp only [fits, roomMax]; exact decide_eq_true (by omega)
   rw [hf, iteO_true, Int.toNat_natCast]
   exact go (List.range n.kids.length) N 0 (by simp; omega) (by simp)
theorem add_fold (N : Nat) (hN : 8388608 < N) (xs : List Node) : ∀ (l : List Node) (M i : Nat) (out : List Node), l.length < M → SrtN out → out.length + l.length ≤ 4194304 → (∀ m ∈ out, m.size < N) → (∀ m ∈ l, m.size < N) → foldN (S := List Node) (F1407_s2 N) F1407_f2 M l i out = some (.inl (putsN out l))
 | [], M, i, out, hM, _, _, _, _ => by
   obtain ⟨K, rfl⟩ : ∃ K, M = K + 1 := ⟨M - 1, by simp at hM; omega⟩
   rfl
 | x :: l, M, i, out, hM, hs, hl, h1, h2 => by
   obtain ⟨K, rfl⟩ : ∃ K, M = K + 1 := ⟨M - 1, by simp at hM; omega⟩
   simp only [List.length_cons] at hM hl
   have hw := search_ct N out x hs (by omega) h1 out.length 0 out.length N (by omega) (by omega) (Nat.zero_le _) (Nat.le_refl _) (fun k m _ h => absurd h (Nat.not_lt_zero _)) (fun k m hm hk => by
     have := (List.getElem?_eq_some_iff.1 hm).1; omega)
   have hp := putR_len x out
   have ih := add_fold N hN xs l K (i + 1) (putR x out) (by omega) (putR_srt x out hs) (by omega) (fun m hm => by
     rcases putR_mem x out m hm with rfl | hm
     · exact h2 m (by simp)
     · exact h1 m hm) (fun m hm => h2 m (by simp [hm]))
   simp only [foldN, F1407_s2]
   have hw : whileN (F1407_s3 N out x) N ((out.length : Int), 0) = some (.inl (putR x out)) := hw
   rw [hw]
   exact ih
theorem atoms1407 : ∀ (N : Nat) (n : Node), 9000000 + n.size < N → n.size ≤ 1048576 → F1407 N n = some (putsN [] (leaf n))
 | 0, n, h, _ => absurd h (Nat.not_lt_zero _)
 | N + 1, n, h, hb => by
   have hk := kids_len n
   show F1407b (F1407 N) N n = some _
   unfold F1407b
   rw [conn1410, bindO_some, leaf_eq]
   cases hc : connB n.op with
   | false => rw [iteO_false, same1414 N n (by omega) hb]; rfl
   | true =>
     rw [iteO_true, cond_true]
     have go : ∀ (ks : List Node) (M i : Nat) (ys : List Node), ks.length < M → ys.length + (ks.map Node.size).sum ≤ 1048576 → (∀ y ∈ ys, y.size ≤ 1048576) → (∀ k ∈ ks, k.size + 9000000 < N ∧ k.size ≤ 1048576) → foldN (S := List Node) (F1407_s1 (F1407 N) N) F1407_f1 M ks i (putsN [] ys) = some (putsN [] (ys ++ leafL ks)) := by
       intro ks
       induction ks with
       | nil =>
         intro M i ys hM _ _ _
         obtain ⟨K, rfl⟩ : ∃ K, M = K + 1 := ⟨M - 1, by simp at hM; omega⟩
         rw [leafL, List.append_nil]; rfl
       | cons k ks ih =>
         intro M i ys hM hl hy hks
         obtain ⟨K, rfl⟩ : ∃ K, M = K + 1 := ⟨M - 1, by simp at hM; omega⟩
         simp only [List.length_cons, List.map_cons, List.sum_cons] at hM hl
         obtain ⟨k1, k2⟩ := hks k (by simp)
         have hself := atoms1407 N k (by omega) k2
         have hl1 := leaf_len k
         have hp1 := putsN_len (leaf k) []
         have hp2 := putsN_len ys []
         simp only [List.length_nil] at hp1 hp2
         have hadd := add_fold N (by omega) [] (putsN [] (leaf k)) N 0 (putsN [] ys) (by omega) (putsN_srt _ _ .nil) (by omega) (fun m hm => by
           rcases (putsN_iff m ys []).1 hm with hm | hm
           · cases hm
           · have := hy m hm; omega) (fun m hm => by
           rcases (putsN_iff m (leaf k) []).1 hm with hm | hm
           · cases hm
           · have := leaf_size k m hm; omega)
         simp only [foldN, F1407_s1, hself, bindO_some, hadd]
         have e : putsN (putsN [] ys) (putsN [] (leaf k)) = putsN [] (ys ++ leaf k) := by
           rw [putsN_again _ _ (putsN_srt _ _ .nil)]
           unfold putsN; rw [List.foldl_append]
         rw [e, leafL, ← List.append_assoc]
         refine ih K (i + 1) (ys ++ leaf k) (by omega) (by rw [List.length_append]; omega) (fun y h => ?_) (fun k' h => hks k' (by simp [h]))
         rcases List.mem_append.1 h with h | h
         · exact hy y h
         · have := leaf_size k y h; omega
     have := go n.kids N 0 [] (by omega) (by have := Node.size_eq n; simp; omega) (fun _ h => by cases h) (fun k hk' => by have := kids_size hk'; omega)
     rw [List.nil_append] at this
     exact this
theorem atoms1416 : ∀ (N : Nat) (n : Node) (l : List Node), 3000000 + n.size < N → n.size ≤ 1048576 → SrtN l → l.length + n.size ≤ 3000000 → F1416 N l n = some (putsN l (leaf n))
 | 0, n, l, h, _, _, _ => absurd h (Nat.not_lt_zero _)
 | N + 1, n, l, h, hb, hs, hl => by
   have hk := kids_len n
   show F1416b (F1416 N) N l n = some _
   unfold F1416b
   rw [conn1412, bindO_some, leaf_eq]
   cases hc : connB n.op with
   | false => rw [iteO_false, put143 N l n ⟨by omega, hb⟩ hs (by omega) (by omega)]; rfl
   | true =>
     rw [iteO_true, cond_true]
     have go : ∀ (ks : List Node) (M i : Nat) (l : List Node), ks.length < M → SrtN l → l.length + (ks.map Node.size).sum ≤ 3000000 → (∀ k ∈ ks, k.size + 3000000 < N ∧ k.size ≤ 1048576) → foldN (S := List Node) (F1416_s1 (F1416 N)) F1416_f1 M ks i l = some (putsN l (leafL ks)) := by
       intro ks
       induction ks with
       | nil =>
         intro M i l hM _ _ _
         obtain ⟨K, rfl⟩ : ∃ K, M = K + 1 := ⟨M - 1, by simp at hM; omega⟩
         rfl
       | cons k ks ih =>
         intro M i l hM hs hl hks
         obtain ⟨K, rfl⟩ : ∃ K, M = K + 1 := ⟨M - 1, by simp at hM; omega⟩
         simp only [List.length_cons, List.map_cons, List.sum_cons] at hM hl
         obtain ⟨k1, k2⟩ := hks k (by simp)
         have hself := atoms1416 N k l (by omega) k2 hs (by omega)
         have hp := putsN_len (leaf k) l
         have hll := leaf_len k
         simp only [foldN, F1416_s1, hself, bindO_some]
         have e : putsN l (leafL (k :: ks)) = putsN (putsN l (leaf k)) (leafL ks) := by rw [leafL]; unfold putsN; rw [List.foldl_append]
         rw [e]
         exact ih K (i + 1) _ (by omega) (putsN_srt _ _ hs) (by omega) (fun k' h => hks k' (by simp [h]))
     exact go n.kids N 0 l (by omega) hs (by have := Node.size_eq n; omega) (fun k hk' => by have := kids_size hk'; omega)
open Classical in
theorem nodes1406 (N : Nat) (hN : 1048600 < N) (a : List Node) (hl : a.length < N) (hz : ∀ x ∈ a, x.size ≤ 1048576) : F1406 N a a = some true := by
  have go : ∀ (l : List Node) (M i : Nat), l.length < M → a.drop i = l → foldN (S := Unit) (F1406_s1 N a) F1406_f1 M l i () = some true := by
    intro l
    induction l with
    | nil =>
      intro M i hM _
      obtain ⟨K, rfl⟩ : ∃ K, M = K + 1 := ⟨M - 1, by simp at hM; omega⟩
      rfl
    | cons x l ih =>
      intro M i hM hd
      obtain ⟨K, rfl⟩ : ∃ K, M = K + 1 := ⟨M - 1, by simp at hM; omega⟩
      obtain ⟨hx, hxs⟩ := drop_cons hd
      have hm := List.mem_of_getElem? hx
      have he := eq21 N x x (by have := hz x hm; omega) (hz x hm)
      rw [decide_eq_true rfl] at he
      simp only [foldN, F1406_s1, atO_get hx, he, bindO_some, iteO_true]
      exact ih K (i + 1) (by simp at hM; omega) hxs
  unfold F1406
  rw [beq_self_eq_true, iteO_true]
  exact go a N 0 hl rfl
def big : Nat := 4611686018427387904
theorem awake1403 (M : Nat) : F1403 (M + 30) = some true := by kernel_rfl
theorem lawCt (n : Node) (atoms : List Node) (truths : List Bool) (hb : n.size ≤ 1048576) (hz : ∀ a ∈ atoms, a.size ≤ 1048576) (hl : atoms.length ≤ 1048576) : F1402 4611686018427387904 n atoms truths = some true := by
 obtain ⟨N, hNe⟩ : ∃ N : Nat, N = 4611686018427387904 := ⟨_, rfl⟩
 have ha : F1403 N = some true := by rw [hNe]; exact awake1403 4611686018427387874
 rw [← hNe]
 unfold F1402
 rw [ha, bindO_some, iteO_true, size27 N n (by omega) (by omega), bindO_some]
 by_cases h4 : n.size ≤ 400
 case neg => rw [decide_eq_true (by omega), iteO_true]
 rw [decide_eq_false (by omega), iteO_false]
 by_cases h5 : atoms.length ≤ 40
 case neg => rw [decide_eq_true (by omega), iteO_true]
 rw [decide_eq_false (by omega), iteO_false]
 by_cases h6 : truths.length ≤ 40
 case neg => rw [decide_eq_true (by omega), iteO_true]
 rw [decide_eq_false (by omega), iteO_false, foldN_all (step := F1402_s1 N) (fin := F1402_f1 N atoms n truths) (fun x => decide (x.size ≤ 200)) true atoms N 0 (by omega) (fun x hx i => by
   simp only [F1402_s1, size27 N x (by omega) (by have := hz x hx; omega), bindO_some]
   by_cases h : x.size ≤ 200
   · rw [decide_eq_false (by omega), decide_eq_true h]; rfl
   · rw [decide_eq_true (by omega), decide_eq_false h]; rfl)]
 cases atoms.all (fun x => decide (x.size ≤ 200)) with
 | false => rfl
 | true =>
   obtain ⟨r, r1, r2⟩ := truth3_both N (by omega) n (by omega) atoms truths (by omega) hz
   have a1 := atoms1407 N n (by omega) (by omega)
   have a2 : F1408 N n = some (putsN [] (leaf n)) := by unfold F1408; rw [atoms1416 N n [] (by omega) (by omega) .nil (by simp; omega)]; rfl
   have hp := putsN_len (leaf n) []
   have hl := leaf_len n
   simp only [List.length_nil] at hp
   have a3 := nodes1406 N (by omega) (putsN [] (leaf n)) (by omega) (fun x hx => by
     rcases (putsN_iff x (leaf n) []).1 hx with hx | hx
     · cases hx
     · have := leaf_size n x hx; omega)
   simp only [cond_true, F1402_f1, r1, r2, a1, a2, a3, bindO_some, beq_self_eq_true, iteO_true]
end Go.Abs.Try
