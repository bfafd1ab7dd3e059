import Derived.Test.YtjjajifecniidaaGreatUP11toUP11b
import Derived.Test.YtjjajifecniidaaGreatUP1toUP10
import Derived.Test.YtjjajifecniidaaGreatIns
set_option linter.unusedSimpArgs false
set_option linter.unusedVariables false
namespace Go.Abs.Try
set_option maxRecDepth 100000
end Go.Abs.Try
namespace Go.Abs.Try
set_option maxRecDepth 100000
def dot (g : Lin → Int) : List Lin → List Int → Int
 | f :: fs, p :: ps => p * g f + dot g fs ps
 | _, _ => 0
theorem dot_congr {g h : Lin → Int} : ∀ {fs : List Lin} {ps : List Int}, (∀ f ∈ fs, g f = h f) → dot g fs ps = dot h fs ps
 | [], ps, _ => by cases ps <;> rfl
 | f :: fs, [], _ => rfl
 | f :: fs, p :: ps, e => by rw [dot, dot, e f (by simp), dot_congr fun k hk => e k (by simp [hk])]
def atC (a : Node) (f : Lin) : Int := coefL f.linMonos a
theorem coefL_fits {l : List Mono} (h : ∀ m ∈ l, fitsC m.monoCoef = true) (a : Node) : F53 (coefL l a) := by
 induction l with
 | nil => exact ⟨by show (-9007199254740992 : Int) ≤ 0; decide, by show (0 : Int) ≤ 9007199254740992; decide⟩
 | cons m l ih =>
   rw [coefL]
   cases cmpR m.monoAtom a == 0 with
   | true => exact fitsC_F53 (h m (by simp))
   | false => exact ih fun k hk => h k (by simp [hk])
end Go.Abs.Try
namespace Go.Abs.Try
set_option maxRecDepth 100000
theorem cmb_zero {u v : Int} (h : cmb u v = 0) : u = 0 ∧ v = 0 := by
 unfold cmb at h
 split at h
 · exact ⟨by assumption, h⟩
 · exact absurd h (by assumption)
mutual
theorem cmpR_zero : ∀ a b : Node, cmpR a b = 0 → a = b
  | ⟨o, s, nm, k, ks⟩, ⟨o', s', nm', k', ks'⟩, h => by
    rw [cmpR_eq] at h
    obtain ⟨h1, h⟩ := cmb_zero h
    obtain ⟨h2, h⟩ := cmb_zero h
    obtain ⟨h3, h⟩ := cmb_zero h
    obtain ⟨h4, h⟩ := cmb_zero h
    obtain ⟨h5, h⟩ := cmb_zero h
    have e1 := sg_zero h1; have e2 := sg_zero h2; have e3 := ba_inj (cB_zero h3); have e4 := sg_zero h4; have e5 := sg_zero h5
    simp only at e1 e2 e3 e4 e5 h
    have e6 := cmpL_zero ks ks' (by omega) h
    subst e1; subst e2; subst e3; subst e4; subst e6; rfl
theorem cmpL_zero : ∀ a b : List Node, a.length = b.length → cmpL a b = 0 → a = b
  | [], [], _, _ => rfl
  | [], _ :: _, h, _ => by simp at h
  | _ :: _, [], h, _ => by simp at h
  | a :: l, b :: r, hl, h => by
    rw [cmpL] at h
    obtain ⟨h1, h2⟩ := cmb_zero h
    rw [cmpR_zero a b h1, cmpL_zero l r (by simpa using hl) h2]
end
end Go.Abs.Try
namespace Go.Abs.Try
set_option maxRecDepth 100000
def addR (v : Int) (a : Node) : List Mono → List Mono
 | [] => [⟨v, a⟩]
 | m :: l => if cmpR m.monoAtom a < 0 then m :: addR v a l else if cmpR m.monoAtom a = 0 then ⟨m.monoCoef + v, m.monoAtom⟩ :: l else ⟨v, a⟩ :: m :: l
theorem addR_mem (v : Int) (a : Node) : ∀ (l : List Mono), ∀ m ∈ addR v a l, m.monoAtom = a ∨ ∃ k ∈ l, m.monoAtom = k.monoAtom
 | [], m, h => by simp [addR] at h; subst h; exact .inl rfl
 | k :: l, m, h => by
   unfold addR at h
   split at h
   · rcases List.mem_cons.1 h with rfl | h
     · exact .inr ⟨m, by simp, rfl⟩
     · rcases addR_mem v a l m h with h | ⟨q, h1, h2⟩
       · exact .inl h
       · exact .inr ⟨q, by simp [h1], h2⟩
   · split at h
     · rcases List.mem_cons.1 h with rfl | h
       · exact .inr ⟨k, by simp, rfl⟩
       · exact .inr ⟨m, by simp [h], rfl⟩
     · rcases List.mem_cons.1 h with rfl | h
       · exact .inl rfl
       · exact .inr ⟨m, h, rfl⟩
theorem addR_len (v : Int) (a : Node) : ∀ (l : List Mono), (addR v a l).length ≤ l.length + 1
 | [] => by simp [addR]
 | k :: l => by
   have ih := addR_len v a l
   unfold addR
   split
   · simp; omega
   · split <;> simp
theorem addR_srt (v : Int) (a : Node) : ∀ (l : List Mono), Srt l → Srt (addR v a l)
 | [], _ => by simp [addR, Srt]
 | k :: l, h => by
   have h0 := List.pairwise_cons.1 h
   unfold addR
   split
   · rename_i h1
     refine List.pairwise_cons.2 ⟨fun m hm => ?_, addR_srt v a l h0.2⟩
     rcases addR_mem v a l m hm with h2 | ⟨q, h2, h3⟩
     · rw [h2]; exact h1
     · rw [h3]; exact h0.1 q h2
   · split
     · exact List.pairwise_cons.2 ⟨fun m hm => h0.1 m hm, h0.2⟩
     · rename_i h1 h2
       have h3 : cmpR a k.monoAtom < 0 := by rw [cmpR_neg k.monoAtom a]; omega
       refine List.pairwise_cons.2 ⟨fun m hm => ?_, h⟩
       rcases List.mem_cons.1 hm with rfl | hm
       · exact h3
       · exact cmp_lt1 h3 (Int.le_of_lt (h0.1 m hm))
theorem addR_coef (v : Int) (a x : Node) : ∀ (l : List Mono), Srt l → coefL (addR v a l) x = coefL l x + (if cmpR a x = 0 then v else 0)
 | [], _ => by
   by_cases h : cmpR a x = 0
   · rw [addR, coefL_head h, if_pos h]; simp [coefL]
   · rw [addR, coefL_tail h, if_neg h]; simp [coefL]
 | k :: l, hs => by
   have h0 := List.pairwise_cons.1 hs
   unfold addR
   split
   · rename_i h1
     by_cases h : cmpR k.monoAtom x = 0
     · have h2 : cmpR a x ≠ 0 := fun e => by
         have := cmp_eq h (cmp_sym e)
         omega
       rw [coefL_head h, coefL_head h, if_neg h2]; omega
     · rw [coefL_tail h, coefL_tail h, addR_coef v a x l h0.2]
   · split
     · rename_i h1 h2
       by_cases h : cmpR k.monoAtom x = 0
       · have h3 : cmpR a x = 0 := cmp_eq (cmp_sym h2) h
         rw [coefL_head (m := ⟨k.monoCoef + v, k.monoAtom⟩) h, coefL_head h, if_pos h3]
       · have h3 : cmpR a x ≠ 0 := fun e => h (cmp_eq h2 e)
         rw [coefL_tail (m := ⟨k.monoCoef + v, k.monoAtom⟩) h, coefL_tail h, if_neg h3]; omega
     · rename_i h1 h2
       by_cases h : cmpR a x = 0
       · have h3 : cmpR a k.monoAtom < 0 := by rw [cmpR_neg k.monoAtom a]; omega
         have h4 : cmpR x k.monoAtom < 0 := by
           have : cmpR x a ≤ 0 := by rw [cmp_sym h]; exact Int.le_refl 0
           exact cmp_lt2 this h3
         have h5 : coefL (k :: l) x = 0 := coefL_none fun m hm => by
           rcases List.mem_cons.1 hm with rfl | hm
           · intro e; rw [cmp_sym e] at h4; omega
           · exact srt_above hs (Int.le_of_lt h4) m hm
         rw [coefL_head (m := ⟨v, a⟩) h, h5, if_pos h]; show v = 0 + v; omega
       · rw [coefL_tail (m := ⟨v, a⟩) h, if_neg h]; omega
theorem addR_at (v : Int) (a : Node) : ∀ (i : Nat) (us : List Mono), i ≤ us.length → (∀ k m, us[k]? = some m → k < i → cmpR m.monoAtom a < 0) → (∀ m, us[i]? = some m → ¬ cmpR m.monoAtom a < 0) →
   addR v a us = (match us[i]? with
     | some m => if cmpR m.monoAtom a = 0 then us.set i ⟨m.monoCoef + v, m.monoAtom⟩ else insL us i ⟨v, a⟩
     | none => insL us i ⟨v, a⟩)
 | 0, [], _, _, _ => rfl
 | 0, m :: us, _, _, h => by
   have h1 := h m rfl
   rw [addR, if_neg h1]
   show _ = if cmpR m.monoAtom a = 0 then _ else _
   split <;> rfl
 | i + 1, [], hi, _, _ => by simp at hi
 | i + 1, m :: us, hi, hp, h => by
   have h1 := hp 0 m rfl (by omega)
   have ih := addR_at v a i us (by simpa using hi) (fun k q hq hk => hp (k + 1) q (by simpa using hq) (by omega)) (fun q hq => h q (by simpa using hq))
   rw [addR, if_pos h1, ih]
   have e : (m :: us)[i + 1]? = us[i]? := by simp
   rw [e]
   cases us[i]? with
   | none => rfl
   | some q =>
     simp only
     split <;> rfl
end Go.Abs.Try
namespace Go.Abs.Try
set_option maxRecDepth 100000
theorem mid_eq (i j : Nat) (h : i + j < 4611686018427387904) : IntKind.i64.wrap ((IntKind.u64.wrap (IntKind.i64.wrap ((i : Int) + (j : Int)))).fdiv (2 ^ (min (1 : Int).toNat (IntKind.u64).bits))) = (((i + j) / 2 : Nat) : Int) := by
 have e1 : IntKind.i64.wrap ((i : Int) + (j : Int)) = ((i + j : Nat) : Int) := by rw [wrap_id (by omega)]; omega
 have e2 : IntKind.u64.wrap ((i + j : Nat) : Int) = ((i + j : Nat) : Int) := by
   rw [IntKind.wrap_u64]
   exact Int.emod_eq_of_lt (by omega) (by omega)
 have e3 : (2 : Int) ^ (min (1 : Int).toNat (IntKind.u64).bits) = 2 := by decide
 rw [e1, e2, e3]
 have e4 : (((i + j : Nat) : Int)).fdiv 2 = (((i + j) / 2 : Nat) : Int) := by
   rw [Int.fdiv_eq_ediv_of_nonneg _ (by omega)]; omega
 rw [e4, wrap_id (by omega)]
def sumsOf (us : List Mono) : List LinearSum := us.map fun m => packS m.monoCoef
def atomsOf (us : List Mono) : List Node := us.map (·.monoAtom)
theorem atomsOf_len (us : List Mono) : (atomsOf us).length = us.length := by simp [atomsOf]
theorem sumsOf_len (us : List Mono) : (sumsOf us).length = us.length := by simp [sumsOf]
theorem atomsOf_get {us : List Mono} {k : Nat} {m : Mono} (h : us[k]? = some m) : (atomsOf us)[k]? = some m.monoAtom := by rw [atomsOf, List.getElem?_map, h]; rfl
theorem sumsOf_get {us : List Mono} {k : Nat} {m : Mono} (h : us[k]? = some m) : (sumsOf us)[k]? = some (packS m.monoCoef) := by rw [sumsOf, List.getElem?_map, h]; rfl
theorem insL_map {α β : Type} (f : α → β) (l : List α) (k : Nat) (x : α) : insL (l.map f) k (f x) = (insL l k x).map f := by simp [insL, List.map_take, List.map_drop]
theorem insL_get {α : Type} (l : List α) (k : Nat) (x : α) (h : k ≤ l.length) : (insL l k x)[k]? = some x := by
 rw [insL, List.getElem?_append_right (by simp; omega)]
 have : k - (l.take k).length = 0 := by simp; omega
 rw [this]; rfl
theorem insL_set {α : Type} (l : List α) (k : Nat) (x y : α) (h : k ≤ l.length) : (insL l k x).set k y = insL l k y := by
 have : (l.take k).length = k := by simp; omega
 rw [insL, insL, List.set_append_right _ _ (by omega), this, Nat.sub_self]; rfl
theorem fits64_m {n : Nat} (h : n ≤ 4194304) : fits (n + 1) 64 = true := by
 simp only [fits, roomMax]; exact decide_eq_true (by omega)
theorem fits16_m {n : Nat} (h : n ≤ 4194304) : fits (n + 1) 16 = true := by
 simp only [fits, roomMax]; exact decide_eq_true (by omega)
theorem search (N : Nat) (hN : 8388608 ≤ N) (us : List Mono) (p : Mult) (x : Mono) (hs : Srt us) (hlen : us.length ≤ 4194304) (hsz : ∀ m ∈ us, m.monoAtom.size < N) (hp : I64 p.multCoef) (hx : F53 x.monoCoef)
   (hb : ∀ m ∈ us, cmpR m.monoAtom x.monoAtom = 0 → m.monoCoef.natAbs ≤ 83076749736557242056487941267521536 * 1024) : ∀ (d lo hi M : Nat), hi - lo ≤ d → d < M → lo ≤ hi → hi ≤ us.length →
   (∀ k m, us[k]? = some m → k < lo → cmpR m.monoAtom x.monoAtom < 0) → (∀ k m, us[k]? = some m → hi ≤ k → ¬ cmpR m.monoAtom x.monoAtom < 0) →
   whileN (F1019_s3 N (atomsOf us, sumsOf us) p x) M ((hi : Int), (lo : Int)) = some (.inl (atomsOf (addR (p.multCoef * x.monoCoef) x.monoAtom us), sumsOf (addR (p.multCoef * x.monoCoef) x.monoAtom us))) := by
 have ord : ∀ k j (m q : Mono), us[k]? = some m → us[j]? = some q → k < j → cmpR m.monoAtom q.monoAtom < 0 := fun k j m q h1 h2 h => by
   obtain ⟨a1, a2⟩ := List.getElem?_eq_some_iff.1 h1
   obtain ⟨b1, b2⟩ := List.getElem?_eq_some_iff.1 h2
   have := List.pairwise_iff_getElem.1 hs k j a1 b1 h
   rw [a2, b2] at this; exact this
 intro d
 induction d with
 | zero =>
   intro lo hi M hd hM hlh hhi hlo hhi2
   obtain ⟨K, rfl⟩ : ∃ K, M = K + 1 := ⟨M - 1, by omega⟩
   have e : lo = hi := by omega
   subst e
   have hdd : decide ((lo : Int) < (lo : Int)) = false := decide_eq_false (by omega)
   have hat := addR_at (p.multCoef * x.monoCoef) x.monoAtom lo us hhi hlo (fun m hm => hhi2 lo m hm (Nat.le_refl _))
   rw [hat]
   have h142 : F142 (atomsOf us) (lo : Int) [x.monoAtom] = some (insL (atomsOf us) lo x.monoAtom) := insF_some 64 _ lo _ (by rw [atomsOf_len]; exact hhi) (by rw [atomsOf_len]; exact fits64_m hlen)
   have h1021 : F1021 (sumsOf us) (lo : Int) [(⟨0, 0⟩ : LinearSum)] = some (insL (sumsOf us) lo ⟨0, 0⟩) := insF_some 16 _ lo _ (by rw [sumsOf_len]; exact hhi) (by rw [sumsOf_len]; exact fits16_m hlen)
   have hget : atO (insL (sumsOf us) lo (⟨0, 0⟩ : LinearSum)) (lo : Int) = some ⟨0, 0⟩ := atO_get (insL_get _ _ _ (by rw [sumsOf_len]; exact hhi))
   have honce := once128 hp hx
   have hset : (insL (sumsOf us) lo (⟨0, 0⟩ : LinearSum)).set lo (packS (p.multCoef * x.monoCoef)) = sumsOf (insL us lo ⟨p.multCoef * x.monoCoef, x.monoAtom⟩) := by
     rw [insL_set _ _ _ _ (by rw [sumsOf_len]; exact hhi)]
     exact insL_map (fun m : Mono => packS m.monoCoef) us lo ⟨p.multCoef * x.monoCoef, x.monoAtom⟩
   have hset2 : insL (atomsOf us) lo x.monoAtom = atomsOf (insL us lo ⟨p.multCoef * x.monoCoef, x.monoAtom⟩) := insL_map (·.monoAtom) us lo ⟨p.multCoef * x.monoCoef, x.monoAtom⟩
   cases hu : us[lo]? with
   | none =>
     have hge := List.getElem?_eq_none_iff.1 hu
     have hdl : decide ((lo : Int) < ((atomsOf us).length : Int)) = false := decide_eq_false (by rw [atomsOf_len]; omega)
     simp only [whileN, F1019_s3, hdd, hdl, iteO_false, h142, h1021, hget, honce, bindO_some, Int.toNat_natCast, hset, hset2]
   | some m =>
     have hlt := (List.getElem?_eq_some_iff.1 hu).1
     have hdl : decide ((lo : Int) < ((atomsOf us).length : Int)) = true := decide_eq_true (by rw [atomsOf_len]; omega)
     have hmem : m ∈ us := List.mem_of_getElem? hu
     have ha := atO_get (atomsOf_get hu)
     have hc := cmp18 N m.monoAtom x.monoAtom (hsz m hmem)
     by_cases h0 : cmpR m.monoAtom x.monoAtom = 0
     · have hs2 := atO_get (sumsOf_get hu)
       have hmore := more128 (hb m hmem h0) hp hx
       have e1 : (sumsOf us).set lo (packS (m.monoCoef + p.multCoef * x.monoCoef)) = sumsOf (us.set lo ⟨m.monoCoef + p.multCoef * x.monoCoef, m.monoAtom⟩) := by rw [sumsOf, sumsOf, List.map_set]
       have e2 : atomsOf us = atomsOf (us.set lo ⟨m.monoCoef + p.multCoef * x.monoCoef, m.monoAtom⟩) := by
         rw [atomsOf, atomsOf, List.map_set]
         have : (us.map (·.monoAtom))[lo]? = some m.monoAtom := atomsOf_get hu
         obtain ⟨a1, a2⟩ := List.getElem?_eq_some_iff.1 this
         rw [← a2, List.set_getElem_self]
       simp only [whileN, F1019_s3, hdd, hdl, iteO_false, iteO_true, ha, hc, bindO_some, beq_iff_eq.2 h0, hs2, hmore, Int.toNat_natCast, if_pos h0, e1]
       rw [← e2]
     · simp only [whileN, F1019_s3, hdd, hdl, iteO_false, iteO_true, ha, hc, bindO_some, beq_eq_false_iff_ne.2 h0, if_neg h0, h142, h1021, hget, honce, Int.toNat_natCast, hset, hset2]
 | succ d ih =>
   intro lo hi M hd hM hlh hhi hlo hhi2
   by_cases hlt : lo < hi
   · obtain ⟨K, rfl⟩ : ∃ K, M = K + 1 := ⟨M - 1, by omega⟩
     have hdd : decide ((lo : Int) < (hi : Int)) = true := decide_eq_true (by omega)
     obtain ⟨h, hh⟩ : ∃ h, h = (lo + hi) / 2 := ⟨_, rfl⟩
     have hm := mid_eq lo hi (by omega)
     rw [← hh] at hm
     have hlt2 : h < us.length := by omega
     obtain ⟨m, hu⟩ : ∃ m, us[h]? = some m := ⟨_, List.getElem?_eq_getElem hlt2⟩
     have hmem : m ∈ us := List.mem_of_getElem? hu
     have ha := atO_get (atomsOf_get hu)
     have hc := cmp18 N m.monoAtom x.monoAtom (hsz m hmem)
     have hw : IntKind.i64.wrap ((h : Int) + 1) = ((h + 1 : Nat) : Int) := by rw [wrap_id (by omega)]; omega
     by_cases h0 : cmpR m.monoAtom x.monoAtom < 0
     · have := ih (h + 1) hi K (by omega) (by omega) (by omega) hhi (fun k q hq hk => by
         rcases Nat.lt_or_ge k h with h1 | h1
         · exact cmp_lt1 (ord k h q m hq hu h1) (Int.le_of_lt h0)
         · have e : k = h := by omega
           subst e
           rw [hu] at hq; injection hq with hq; subst hq; exact h0) hhi2
       simp only [whileN, F1019_s3, hdd, iteO_true, hm, ha, hc, bindO_some, decide_eq_true h0, hw]
       exact this
     · have := ih lo h K (by omega) (by omega) (by omega) (by omega) hlo (fun k q hq hk => by
         rcases Nat.lt_or_ge h k with h1 | h1
         · intro h2
           exact h0 (cmp_lt1 (ord h k m q hu hq h1) (Int.le_of_lt h2))
         · have e : k = h := by omega
           subst e
           rw [hu] at hq; injection hq with hq; subst hq; exact h0)
       simp only [whileN, F1019_s3, hdd, iteO_true, hm, ha, hc, bindO_some, decide_eq_false h0, iteO_false]
       exact this
   · exact ih lo hi M (by omega) (by omega) hlh hhi hlo hhi2
end Go.Abs.Try
namespace Go.Abs.Try
set_option maxRecDepth 100000
theorem coefL_snoc {x : Mono} (b : Node) : ∀ (ds : List Mono), Srt (ds ++ [x]) → coefL (ds ++ [x]) b = coefL ds b + (if cmpR x.monoAtom b = 0 then x.monoCoef else 0)
 | [], _ => by
   by_cases h : cmpR x.monoAtom b = 0
   · rw [List.nil_append, coefL_head h, if_pos h]; simp [coefL]
   · rw [List.nil_append, coefL_tail h, if_neg h]; simp [coefL]
 | d :: ds, hs => by
   have h0 := List.pairwise_cons.1 hs
   have h1 : cmpR d.monoAtom x.monoAtom < 0 := h0.1 x (by simp)
   by_cases h : cmpR d.monoAtom b = 0
   · have h2 : cmpR x.monoAtom b ≠ 0 := fun e => by
       have := cmp_eq h (cmp_sym e)
       omega
     rw [List.cons_append, coefL_head h, coefL_head h, if_neg h2]; omega
   · rw [List.cons_append, coefL_tail h, coefL_tail h, coefL_snoc b ds h0.2]
def CC : Nat := 83076749736557242056487941267521536
theorem inner (N : Nat) (hN : 8388608 ≤ N) (p : Mult) (hp : I64 p.multCoef) (monos : List Mono) (hsm : Srt monos) (hfit : ∀ m ∈ monos, F53 m.monoCoef) (Q : Node → Prop) (hQ : ∀ n, Q n → n.size < N) (hqm : ∀ m ∈ monos, Q m.monoAtom)
   (us0 : List Mono) (hb0 : ∀ a, (coefL us0 a).natAbs ≤ CC * 1024) (fin : List Node × List LinearSum → Option (Sum (List Node × List LinearSum × Int × Int) (Lin × Bool))) :
   ∀ (rest ds us : List Mono) (M i : Nat), monos = ds ++ rest → rest.length < M → Srt us → us.length + rest.length ≤ 4194304 → (∀ m ∈ us, Q m.monoAtom) → (∀ a, coefL us a = coefL us0 a + p.multCoef * coefL ds a) →
   ∃ us', foldN (F1019_s2 N p) fin M rest i (atomsOf us, sumsOf us) = fin (atomsOf us', sumsOf us') ∧ Srt us' ∧ us'.length ≤ us.length + rest.length ∧ (∀ m ∈ us', Q m.monoAtom) ∧ ∀ a, coefL us' a = coefL us0 a + p.multCoef * coefL monos a
 | [], ds, us, M, i, he, hM, hs, hl, hq, hc => by
   obtain ⟨K, rfl⟩ : ∃ K, M = K + 1 := ⟨M - 1, by simp at hM; omega⟩
   have he : monos = ds := by simpa using he
   subst he
   exact ⟨us, rfl, hs, by simp, hq, hc⟩
 | x :: rest, ds, us, M, i, he, hM, hs, hl, hq, hc => by
   obtain ⟨K, rfl⟩ : ∃ K, M = K + 1 := ⟨M - 1, by simp at hM; omega⟩
   have hxm : x ∈ monos := by rw [he]; simp
   have he2 : monos = (ds ++ [x]) ++ rest := by rw [he]; simp
   have hsx : Srt (ds ++ [x]) := by
     have : Srt ((ds ++ [x]) ++ rest) := he2 ▸ hsm
     exact (List.pairwise_append.1 this).1
   have hdx : ∀ d ∈ ds, cmpR d.monoAtom x.monoAtom < 0 := fun d hd => (List.pairwise_append.1 hsx).2.2 d hd x (by simp)
   have hl1 : us.length + (rest.length + 1) ≤ 4194304 := by simpa using hl
   have hst : F1019_s2 N p (atomsOf us, sumsOf us) i x = some (.inl (atomsOf (addR (p.multCoef * x.monoCoef) x.monoAtom us), sumsOf (addR (p.multCoef * x.monoCoef) x.monoAtom us))) := by
     have := search N hN us p x hs (by omega) (fun m hm => hQ _ (hq m hm)) hp (hfit x hxm) (fun m hm h0 => by
       rw [← coefL_self hs m hm, hc]
       have : coefL ds m.monoAtom = 0 := coefL_none fun d hd e => by
         have h1 := hdx d hd
         have h2 := cmp_eq e h0
         omega
       rw [this, Int.mul_zero, Int.add_zero]
       exact hb0 _) us.length 0 us.length N (by omega) (by omega) (by omega) (Nat.le_refl _) (fun k m _ hk => by omega) (fun k m hm hk => by
         have := (List.getElem?_eq_some_iff.1 hm).1
         omega)
     show whileN (F1019_s3 N (atomsOf us, sumsOf us) p x) N (((atomsOf us).length : Int), 0) = _
     rw [atomsOf_len]
     exact this
   have hlen := addR_len (p.multCoef * x.monoCoef) x.monoAtom us
   obtain ⟨us', h1, h2, h3, h4, h5⟩ := inner N hN p hp monos hsm hfit Q hQ hqm us0 hb0 fin rest (ds ++ [x]) (addR (p.multCoef * x.monoCoef) x.monoAtom us) K (i + 1) he2 (by simp at hM; omega) (addR_srt _ _ _ hs) (by omega)
     (fun m hm => by
       rcases addR_mem _ _ _ m hm with e | ⟨k, hk, e⟩
       · rw [e]; exact hqm x hxm
       · rw [e]; exact hq k hk)
     (fun a => by
       rw [addR_coef _ _ _ _ hs, hc, coefL_snoc a ds hsx]
       split
       · rw [Int.mul_add]; omega
       · rw [Int.add_zero, Int.add_zero])
   refine ⟨us', ?_, h2, by simp only [List.length_cons]; omega, h4, h5⟩
   simp only [foldN, hst, bindO_some]
   exact h1
def fm (cons : List Con) (m : Mult) : Lin := (cons.getD m.multIndex.toNat default).conForm
structure Okc (N : Nat) (Q : Node → Prop) (cons : List Con) (m : Mult) : Prop where
 lo : 0 ≤ m.multIndex
 hi : m.multIndex < (cons.length : Int)
 co : I64 m.multCoef
theorem outer (N : Nat) (hN : 8388608 ≤ N) (Q : Node → Prop) (hQ : ∀ n, Q n → n.size < N) (cons : List Con) (hg : ∀ c ∈ cons, Srt c.conForm.linMonos ∧ (∀ m ∈ c.conForm.linMonos, F53 m.monoCoef ∧ Q m.monoAtom) ∧ F53 c.conForm.linConst ∧ c.conForm.linMonos.length ≤ 2000)
   (fin : List Node × List LinearSum × Int × Int → Option (Lin × Bool)) : ∀ (rest : List Mult) (us : List Mono) (c : Int) (t M i : Nat), (∀ m ∈ rest, Okc N Q cons m) → rest.length < M → Srt us → us.length + rest.length * 2000 ≤ 4194304 → (∀ m ∈ us, Q m.monoAtom) →
   t + rest.length ≤ 1023 → (∀ a, (coefL us a).natAbs ≤ CC * t) → c.natAbs ≤ CC * t →
   ∃ us' c', foldN (F1019_s1 N cons) fin M rest i (atomsOf us, sumsOf us, (packS c).linearSumHi, (packS c).linearSumLo) = fin (atomsOf us', sumsOf us', (packS c').linearSumHi, (packS c').linearSumLo) ∧ Srt us' ∧ us'.length ≤ us.length + rest.length * 2000 ∧
     (∀ m ∈ us', Q m.monoAtom) ∧ (∀ a, coefL us' a = coefL us a + dot (atC a) (rest.map (fm cons)) (rest.map (·.multCoef))) ∧ c' = c + dot Lin.linConst (rest.map (fm cons)) (rest.map (·.multCoef)) ∧ (∀ a, (coefL us' a).natAbs ≤ CC * 1023) ∧ c'.natAbs ≤ CC * 1023
 | [], us, c, t, M, i, ho, hM, hs, hl, hq, ht, hb, hc => by
   obtain ⟨K, rfl⟩ : ∃ K, M = K + 1 := ⟨M - 1, by simp at hM; omega⟩
   have ht' : t ≤ 1023 := by simpa using ht
   have hm : CC * t ≤ CC * 1023 := Nat.mul_le_mul_left _ ht'
   exact ⟨us, c, rfl, hs, by simp, hq, fun a => by simp [dot], by simp [dot], fun a => Nat.le_trans (hb a) hm, Nat.le_trans hc hm⟩
 | m :: rest, us, c, t, M, i, ho, hM, hs, hl, hq, ht, hb, hc => by
   obtain ⟨K, rfl⟩ : ∃ K, M = K + 1 := ⟨M - 1, by simp at hM; omega⟩
   have hm := ho m (by simp)
   simp only [List.length_cons] at hl ht hM
   obtain ⟨k, hk⟩ : ∃ k : Nat, m.multIndex = (k : Int) := ⟨m.multIndex.toNat, by have := hm.lo; omega⟩
   have hklt : k < cons.length := by have := hm.hi; omega
   have hget : cons[k]? = some cons[k] := List.getElem?_eq_getElem hklt
   have hat : atO cons m.multIndex = some cons[k] := by rw [hk]; exact atO_get hget
   have hfm : fm cons m = cons[k].conForm := by rw [fm, hk, Int.toNat_natCast, List.getD_eq_getElem?_getD, hget]; rfl
   obtain ⟨g1, g2, g3, g4⟩ := hg _ (List.getElem_mem hklt)
   have hCt : CC * t ≤ CC * 1024 := Nat.mul_le_mul_left _ (by omega)
   obtain ⟨us1, e1, e2, e3, e4, e5⟩ := inner N hN m hm.co cons[k].conForm.linMonos g1 (fun x hx => (g2 x hx).1) Q hQ (fun x hx => (g2 x hx).2) us (fun a => Nat.le_trans (hb a) hCt)
     (F1019_f2 (atomsOf us, sumsOf us, (packS c).linearSumHi, (packS c).linearSumLo) m cons[k]) cons[k].conForm.linMonos [] us N 0 rfl (by omega) hs (by omega) hq (fun a => by simp [coefL])
   have hmore := more128 (s := c) (Nat.le_trans hc hCt) hm.co g3
   have hstep : F1019_s1 N cons (atomsOf us, sumsOf us, (packS c).linearSumHi, (packS c).linearSumLo) i m = some (.inl (atomsOf us1, sumsOf us1, (packS (c + m.multCoef * cons[k].conForm.linConst)).linearSumHi, (packS (c + m.multCoef * cons[k].conForm.linConst)).linearSumLo)) := by
     simp only [F1019_s1, hat, bindO_some]
     rw [e1]
     show bindO (F128 (packS c) m.multCoef cons[k].conForm.linConst) _ = _
     rw [hmore]; rfl
   have hCC : CC * (t + 1) = CC * t + CC := by rw [Nat.mul_add, Nat.mul_one]
   have hw : ∀ z : Int, F53 z → (m.multCoef * z).natAbs ≤ CC := fun z hz => abs_mul hm.co hz
   obtain ⟨us', c', f1, f2, f3, f4, f5, f6, f7, f8⟩ := outer N hN Q hQ cons hg fin rest us1 (c + m.multCoef * cons[k].conForm.linConst) (t + 1) K (i + 1) (fun x hx => ho x (by simp [hx])) (by omega) e2 (by omega) e4 (by omega)
     (fun a => by
       have h1 := hb a
       have h2 := hw _ (coefL_fits (l := cons[k].conForm.linMonos) (fun x hx => (fitsC_iff _).2 (g2 x hx).1) a)
       rw [e5 a]; omega)
     (by have h2 := hw _ g3; omega)
   refine ⟨us', c', ?_, f2, by simp only [List.length_cons]; omega, f4, fun a => ?_, ?_, f7, f8⟩
   · simp only [foldN, hstep, bindO_some]
     exact f1
   · rw [f5 a, e5 a, List.map_cons, List.map_cons, dot, hfm, atC]; omega
   · rw [f6, List.map_cons, List.map_cons, dot, hfm]; omega
end Go.Abs.Try
namespace Go.Abs.Try
set_option maxRecDepth 100000
theorem last (N : Nat) (us : List Mono) (c : Int) (hb : ∀ m ∈ us, m.monoCoef.natAbs ≤ CC * 1023) (hc : c.natAbs ≤ CC * 1023) (hlen : us.length ≤ 4194304) : ∀ (rest : List Nat) (M i : Nat) (out : List Mono), i + rest.length = us.length → rest.length < M → out.length ≤ i →
   ∃ r, foldN (F1019_s5 (atomsOf us, sumsOf us, (packS c).linearSumHi, (packS c).linearSumLo)) (F1019_f5 (atomsOf us, sumsOf us, (packS c).linearSumHi, (packS c).linearSumLo)) M rest i out = some r ∧
     r.2 = (allW (us.drop i) && fitsW c) ∧ (r.2 = true → r.1 = ⟨out ++ nz (us.drop i), c⟩)
 | [], M, i, out, hi, hM, ho => by
   obtain ⟨K, rfl⟩ : ∃ K, M = K + 1 := ⟨M - 1, by simp at hM; omega⟩
   have hd : us.drop i = [] := List.drop_eq_nil_of_le (by simp at hi; omega)
   obtain ⟨n, h1, h2⟩ := num129 (s := c) (by unfold CC at hc; omega)
   refine ⟨(⟨out, n⟩, fitsW c), ?_, by rw [hd]; rfl, fun h => ?_⟩
   · show bindO (F129 (packS c)) _ = _
     rw [h1]; rfl
   · rw [hd, h2 h]; simp [nz]
 | x :: rest, M, i, out, hi, hM, ho => by
   obtain ⟨K, rfl⟩ : ∃ K, M = K + 1 := ⟨M - 1, by simp at hM; omega⟩
   simp only [List.length_cons] at hi hM
   have hlt : i < us.length := by omega
   obtain ⟨m, hu⟩ : ∃ m, us[i]? = some m := ⟨_, List.getElem?_eq_getElem hlt⟩
   have hmem : m ∈ us := List.mem_of_getElem? hu
   have hd : us.drop i = m :: us.drop (i + 1) := by
     have := List.drop_eq_getElem_cons hlt
     rw [this]
     obtain ⟨_, h2⟩ := List.getElem?_eq_some_iff.1 hu
     rw [h2]
   obtain ⟨n, h1, h2⟩ := num129 (s := m.monoCoef) (by have := hb m hmem; unfold CC at this; omega)
   have ha := atO_get (sumsOf_get hu)
   have hat := atO_get (atomsOf_get hu)
   have hall : allW (us.drop i) = (fitsW m.monoCoef && allW (us.drop (i + 1))) := by rw [hd]; rfl
   cases hf : fitsW m.monoCoef with
   | false =>
     rw [hf] at h1 hall
     refine ⟨(⟨[], 0⟩, false), ?_, by rw [hall]; rfl, fun h => by cases h⟩
     simp only [foldN, F1019_s5, ha, h1, bindO_some, iteO_false]
   | true =>
     rw [hf] at h1 hall
     have hn := h2 hf
     by_cases h0 : m.monoCoef = 0
     · obtain ⟨r, e1, e2, e3⟩ := last N us c hb hc hlen rest K (i + 1) out (by omega) (by omega) (by omega)
       have hnz : nz (us.drop i) = nz (us.drop (i + 1)) := by rw [hd]; simp [nz, h0]
       refine ⟨r, ?_, by rw [e2, hall, Bool.true_and], fun h => by rw [e3 h, hnz]⟩
       have hz : (n == 0) = true := by rw [hn, h0]; rfl
       simp only [foldN, F1019_s5, ha, h1, bindO_some, iteO_true, hz]
       exact e1
     · obtain ⟨r, e1, e2, e3⟩ := last N us c hb hc hlen rest K (i + 1) (out ++ [m]) (by omega) (by omega) (by simp; omega)
       have hnz : nz (us.drop i) = m :: nz (us.drop (i + 1)) := by rw [hd]; simp [nz, h0]
       refine ⟨r, ?_, by rw [e2, hall, Bool.true_and], fun h => by rw [e3 h, hnz, List.append_assoc]; rfl⟩
       have hz : (n == 0) = false := beq_eq_false_iff_ne.2 (by rw [hn]; exact h0)
       have hm : (⟨n, m.monoAtom⟩ : Mono) = m := by rw [hn]
       simp only [foldN, F1019_s5, ha, h1, hat, bindO_some, iteO_true, iteO_false, hz, fits72_le (n := out.length + 1) (by omega), hm]
       exact e1
theorem srt_of : ∀ (l : List Mono) (p : Option Node), validL p l = true → Srt l ∧ ∀ m ∈ l, fitsC m.monoCoef = true ∧ m.monoCoef ≠ 0 ∧ atomB m.monoAtom = true
 | [], _, _ => ⟨by simp [Srt], by simp⟩
 | m :: l, p, h => by
   simp only [validL, Bool.and_eq_true, Bool.not_eq_true', beq_eq_false_iff_ne] at h
   obtain ⟨h1, h2, h3, h4, h5⟩ := h
   obtain ⟨i1, i2⟩ := srt_of l (some m.monoAtom) h5
   refine ⟨List.pairwise_cons.2 ⟨fun k hk => ?_, i1⟩, fun k hk => ?_⟩
   · cases l with
     | nil => cases hk
     | cons q l =>
       have hq : cmpR m.monoAtom q.monoAtom < 0 := by
         simp only [validL, Bool.and_eq_true, prevB, Bool.not_eq_true', decide_eq_false_iff_not] at h5
         have := h5.2.2.2.1
         omega
       rcases List.mem_cons.1 hk with rfl | hk
       · exact hq
       · exact cmp_lt1 hq (Int.le_of_lt ((List.pairwise_cons.1 i1).1 k hk))
   · rcases List.mem_cons.1 hk with rfl | hk
     · exact ⟨h2, h1, h3⟩
     · exact i2 k hk
end Go.Abs.Try
namespace Go.Abs.Try
set_option maxRecDepth 100000
def validC (c : Con) : Bool := (c.conRel == 0 || c.conRel == 1) && validB c.conForm
theorem valid107 (N : Nat) (c : Con) (hN : 4611686018400000000 ≤ N ∧ N ≤ 4611686018427387904) (hg : Good c.conForm) : F107 N c = some (validC c) := by
 simp only [F107, valid64 N c.conForm hN hg, bindO_some, validC]
 cases c.conRel == 0 <;> cases c.conRel == 1 <;> rfl
theorem tmod_nat (a b : Nat) : ((a : Int).tmod (b : Int)) = ((a % b : Nat) : Int) := by rw [Int.tmod_eq_emod_of_nonneg (by omega)]; simp
theorem gcd_step (a b : Nat) : Nat.gcd b (a % b) = Nat.gcd a b := by
 rw [Nat.gcd_comm b, ← Nat.gcd_rec, Nat.gcd_comm]
theorem gcd148a : ∀ (n a b M : Nat), b ≤ n → n < M → whileN F148_s2 M ((a : Int), (b : Int)) = some (.inl (Nat.gcd a b : Int))
 | 0, a, b, M, h, hM => by
   obtain ⟨K, rfl⟩ : ∃ K, M = K + 1 := ⟨M - 1, by omega⟩
   obtain rfl : b = 0 := by omega
   simp [whileN, F148_s2, iteO, bindO]
 | n + 1, a, b, M, h, hM => by
   obtain ⟨K, rfl⟩ : ∃ K, M = K + 1 := ⟨M - 1, by omega⟩
   by_cases hb : b = 0
   · subst hb; simp [whileN, F148_s2, iteO, bindO]
   · have e1 : ((b : Int) == 0) = false := beq_eq_false_iff_ne.2 (by omega)
     have e2 : decide ((b : Int) = 0) = false := decide_eq_false (by omega)
     have hlt := Nat.mod_lt a (by omega : b > 0)
     have ih := gcd148a n b (a % b) K (by omega) (by omega)
     simp only [whileN, F148_s2, e1, e2, iteO_false, bindO_some, tmod_nat]
     rw [ih, gcd_step]
theorem gcd148b : ∀ (n a b M : Nat), b ≤ n → n < M → whileN F148_s3 M ((a : Int), (b : Int)) = some (.inl (Nat.gcd a b : Int)) := gcd148a
def gcdN (l : List Mono) : Nat := l.foldl (fun g m => Nat.gcd g m.monoCoef.natAbs) 0
theorem gcd_small : ∀ (l : List Mono) (g : Nat), g ≤ 9007199254740992 → (∀ m ∈ l, fitsC m.monoCoef = true ∧ m.monoCoef ≠ 0) → l.foldl (fun g m => Nat.gcd g m.monoCoef.natAbs) g ≤ 9007199254740992
 | [], g, h, _ => h
 | m :: l, g, h, hl => by
   have hm := hl m (by simp)
   have hf := (fitsC_iff _).1 hm.1
   refine gcd_small l _ (Nat.le_trans (Nat.gcd_le_right _ (by omega)) (by omega)) fun k hk => hl k (by simp [hk])
theorem gcd148 (N : Nat) (f : Lin) (hN : 4611686018400000000 ≤ N ∧ N ≤ 4611686018427387904) (hl : f.linMonos.length < N) (hm : ∀ m ∈ f.linMonos, fitsC m.monoCoef = true) : F148 N f = some (gcdN f.linMonos : Int) := by
 have key : ∀ (l : List Mono) (M i g : Nat), l.length < M → (∀ m ∈ l, fitsC m.monoCoef = true) → foldN (F148_s1 N) F148_f1 M l i (g : Int) = some ((l.foldl (fun g m => Nat.gcd g m.monoCoef.natAbs) g : Nat) : Int) := by
   intro l
   induction l with
   | nil =>
     intro M i g hM _
     obtain ⟨K, rfl⟩ : ∃ K, M = K + 1 := ⟨M - 1, by simp at hM; omega⟩
     rfl
   | cons m l ih =>
     intro M i g hM hl
     obtain ⟨K, rfl⟩ : ∃ K, M = K + 1 := ⟨M - 1, by simp at hM; omega⟩
     have hf := (fitsC_iff _).1 (hl m (by simp))
     have h1 := ih K (i + 1) (Nat.gcd g m.monoCoef.natAbs) (by simp at hM; omega) fun k hk => hl k (by simp [hk])
     have hs : F148_s1 N (g : Int) i m = some (.inl (Nat.gcd g m.monoCoef.natAbs : Int)) := by
       by_cases hneg : m.monoCoef < 0
       · have hw : IntKind.i64.wrap (0 - m.monoCoef) = (m.monoCoef.natAbs : Int) := by rw [wrap_id (by omega)]; omega
         simp only [F148_s1, decide_eq_true hneg, iteO_true, hw]
         exact gcd148a m.monoCoef.natAbs g m.monoCoef.natAbs N (Nat.le_refl _) (by omega)
       · have hw : m.monoCoef = (m.monoCoef.natAbs : Int) := by omega
         simp only [F148_s1, decide_eq_false hneg, iteO_false]
         have := gcd148b m.monoCoef.natAbs g m.monoCoef.natAbs N (Nat.le_refl _) (by omega)
         rw [← hw] at this
         exact this
     simp only [foldN, hs, bindO_some, List.foldl_cons]
     exact h1
 exact key f.linMonos N 0 0 hl hm
end Go.Abs.Try
namespace Go.Abs.Try
set_option maxRecDepth 100000
theorem awake26 (M : Nat) : F26 (M + 30) = some true := by kernel_rfl
def divM (d : Int) (l : List Mono) : List Mono := l.map fun m => ⟨m.monoCoef.tdiv d, m.monoAtom⟩
def floorI (a b : Int) : Int := if a.tmod b < 0 then a.tdiv b - 1 else a.tdiv b
def firstNeg : List Mono → Bool
 | m :: _ => decide (m.monoCoef < 0)
 | [] => false
def gcdI (c : Con) : Int := (gcdN c.conForm.linMonos : Nat)
def byR (c : Con) : Int := bif firstNeg c.conForm.linMonos then -gcdI c else gcdI c
def roundR (c : Con) : Con :=
 bif c.conForm.linMonos.isEmpty then c else
 bif c.conRel == 0 then (bif c.conForm.linConst.tmod (gcdI c) == 0 then ⟨⟨divM (byR c) c.conForm.linMonos, c.conForm.linConst.tdiv (byR c)⟩, c.conRel⟩ else ⟨⟨[], 1⟩, 0⟩)
 else ⟨⟨divM (gcdI c) c.conForm.linMonos, -floorI (-c.conForm.linConst) (gcdI c)⟩, c.conRel⟩
theorem fits72_ok {n : Nat} (h : n ≤ 1048577) : fits n 72 = true := by
 simp only [fits, roomMax]; exact decide_eq_true (by omega)
theorem foldl_appM (g : Mono → Mono) : ∀ (l s : List Mono), l.foldl (fun s x => s ++ [g x]) s = s ++ l.map g
 | [], s => by simp
 | x :: xs, s => by rw [List.foldl_cons, foldl_appM g xs]; simp
theorem app_foldM {β : Type} (g : Mono → Mono) (ks : List Mono) (hb : ks.length ≤ 1048576) (step : List Mono → Nat → Mono → Option (Sum (List Mono) β)) (hstep : ∀ s i x, x ∈ ks → s.length + 1 ≤ 1048577 → step s i x = some (.inl (s ++ [g x]))) (fin : List Mono → Option β)
   (N : Nat) (hN : ks.length < N) : foldN step fin N ks 0 [] = fin (ks.map g) := by
 have := foldN_inl (step := step) (fin := fin) (fun (s : List Mono) (k : Mono) => s ++ [g k]) (fun l s => (∀ k ∈ l, k ∈ ks) ∧ s.length + l.length = ks.length)
   (fun x xs i s ⟨h1, h2⟩ => by
     simp only [List.length_cons] at h2
     exact ⟨hstep s i x (h1 x (by simp)) (by omega), fun k hk => h1 k (by simp [hk]), by simp; omega⟩) ks N 0 [] hN ⟨fun _ h => h, by simp⟩
 rw [this.1, foldl_appM, List.nil_append]
theorem wrap_div {a d : Int} (h : fitsC a = true) : IntKind.i64.wrap (a.tdiv d) = a.tdiv d := by
 have hf := (fitsC_iff _).1 h
 have := Int.natAbs_tdiv_le_natAbs a d
 exact wrap_id (by omega)
theorem fits_div {a d : Int} (h : fitsC a = true) : fitsC (a.tdiv d) = true := by
 have hf := (fitsC_iff _).1 h
 have := Int.natAbs_tdiv_le_natAbs a d
 exact (fitsC_iff _).2 (by omega)
theorem floor149 (a b : Int) (hb : b ≠ 0) (ha : fitsC a = true) : F149 a b = some (floorI a b) := by
 have hf := (fitsC_iff _).1 ha
 have := Int.natAbs_tdiv_le_natAbs a b
 have hw : IntKind.i64.wrap (a.tdiv b - 1) = a.tdiv b - 1 := wrap_id (by omega)
 simp only [F149, decide_eq_false hb, iteO_false, wrap_div ha, hw, floorI]
 by_cases h : a.tmod b < 0
 · rw [decide_eq_true h, if_pos h]; rfl
 · rw [decide_eq_false h, if_neg h]; rfl
theorem floor_small (a b : Int) (ha : fitsC a = true) : -9007199254740993 ≤ floorI a b ∧ floorI a b ≤ 9007199254740992 := by
 have hf := (fitsC_iff _).1 ha
 have := Int.natAbs_tdiv_le_natAbs a b
 unfold floorI
 split <;> omega
def Ok (c : Con) : Prop := Good c.conForm ∧ (∀ m ∈ c.conForm.linMonos, fitsC m.monoCoef = true ∧ m.monoCoef ≠ 0 ∧ atomB m.monoAtom = true) ∧ fitsC c.conForm.linConst = true
theorem gcd_ne : ∀ (l : List Mono) (g : Nat), (∀ m ∈ l, m.monoCoef ≠ 0) → l.foldl (fun g m => Nat.gcd g m.monoCoef.natAbs) g = 0 → g = 0 ∧ l = []
 | [], g, _, h => ⟨h, rfl⟩
 | m :: l, g, hl, h => by
   have := gcd_ne l _ (fun k hk => hl k (by simp [hk])) h
   have h2 := Nat.eq_zero_of_gcd_eq_zero_right this.1
   exact absurd (Int.natAbs_eq_zero.1 h2) (hl m (by simp))
theorem gcdI_pos (c : Con) (h : Ok c) (hne : c.conForm.linMonos ≠ []) : 0 < gcdI c ∧ gcdI c ≤ 9007199254740992 := by
 have h1 : gcdN c.conForm.linMonos ≠ 0 := fun e => hne (gcd_ne _ 0 (fun m hm => (h.2.1 m hm).2.1) e).2
 have h2 := gcd_small c.conForm.linMonos 0 (by omega) fun m hm => ⟨(h.2.1 m hm).1, (h.2.1 m hm).2.1⟩
 unfold gcdI gcdN at *
 omega
theorem round108 (N : Nat) (c : Con) (hN : 4611686018400000000 ≤ N ∧ N ≤ 4611686018427387904) (h : Ok c) : F108 N c = some (roundR c) := by
 have hg := h.1
 have hl := hg.1
 have hr := gcd148 N c.conForm hN (by omega) fun m hm => (h.2.1 m hm).1
 have hconst := (fitsC_iff _).1 h.2.2
 simp only [F108, hr, bindO_some, roundR]
 cases he : c.conForm.linMonos with
 | nil => rfl
 | cons m0 ms =>
   have hne : c.conForm.linMonos ≠ [] := by rw [he]; simp
   have hp := gcdI_pos c h hne
   have hgi : ((gcdN (m0 :: ms) : Nat) : Int) = gcdI c := by rw [gcdI, he]
   have e1 : (gcdI c == 0) = false := beq_eq_false_iff_ne.2 (by omega)
   have e2 : decide (gcdI c = 0) = false := decide_eq_false (by omega)
   have e3 : decide (IntKind.i64.wrap (0 - gcdI c) = 0) = false := by rw [wrap_id (by omega)]; exact decide_eq_false (by omega)
   have e3n : decide (-gcdI c = 0) = false := decide_eq_false (by omega)
   have hw : IntKind.i64.wrap (0 - gcdI c) = -gcdI c := by rw [wrap_id (by omega)]; omega
   have hall := h.2.1
   rw [he] at hall
   have hlen : (m0 :: ms).length ≤ 1048576 := by rw [← he]; exact hl
   rw [hgi]
   simp only [e1, e2, iteO_false, List.isEmpty_cons, cond_false]
   cases hrel : c.conRel == 0 with
   | true =>
     simp only [iteO_true, cond_true]
     cases hmod : c.conForm.linConst.tmod (gcdI c) == 0 with
     | false => rfl
     | true =>
       have ha : atO (m0 :: ms) 0 = some m0 := atO_lit (i := 0) rfl rfl
       simp only [iteO_true, cond_true, ha, bindO_some]
       cases hn : decide (m0.monoCoef < 0) with
       | true =>
         have hby : byR c = -gcdI c := by simp only [byR, he, firstNeg, hn, cond_true]
         have := app_foldM (fun m => (⟨m.monoCoef.tdiv (-gcdI c), m.monoAtom⟩ : Mono)) (m0 :: ms) hlen (F108_s2 (gcdI c)) (fun s i x hx hs => by
           simp only [F108_s2, e3n, hw, iteO_false, fits72_ok hs, iteO_true, wrap_div (hall x hx).1]) (F108_f2 c (gcdI c)) N (by omega)
         simp only [iteO_true]
         rw [this]
         simp only [F108_f2, e3n, iteO_false, hw, wrap_div h.2.2, hby, divM]
       | false =>
         have hby : byR c = gcdI c := by simp only [byR, he, firstNeg, hn, cond_false]
         have := app_foldM (fun m => (⟨m.monoCoef.tdiv (gcdI c), m.monoAtom⟩ : Mono)) (m0 :: ms) hlen (F108_s3 (gcdI c)) (fun s i x hx hs => by
           simp only [F108_s3, fits72_ok hs, iteO_true, wrap_div (hall x hx).1]) (F108_f3 c (gcdI c)) N (by omega)
         simp only [iteO_false]
         rw [this]
         simp only [F108_f3, wrap_div h.2.2, hby, divM]
   | false =>
     have hnc : fitsC (-c.conForm.linConst) = true := (fitsC_iff _).2 (by omega)
     have hwc : IntKind.i64.wrap (0 - c.conForm.linConst) = -c.conForm.linConst := by rw [wrap_id (by omega)]; omega
     have hfl := floor_small (-c.conForm.linConst) (gcdI c) hnc
     have hwf : IntKind.i64.wrap (0 - floorI (-c.conForm.linConst) (gcdI c)) = -floorI (-c.conForm.linConst) (gcdI c) := by rw [wrap_id (by omega)]; omega
     have := app_foldM (fun m => (⟨m.monoCoef.tdiv (gcdI c), m.monoAtom⟩ : Mono)) (m0 :: ms) hlen (F108_s4 (gcdI c)) (fun s i x hx hs => by
       simp only [F108_s4, e2, iteO_false, fits72_ok hs, iteO_true, wrap_div (hall x hx).1]) (F108_f4 c (gcdI c)) N (by omega)
     simp only [iteO_false, cond_false]
     rw [this]
     simp only [F108_f4, hwc, floor149 _ _ (show gcdI c ≠ 0 by omega) hnc, bindO_some, hwf, divM]
end Go.Abs.Try
namespace Go.Abs.Try
set_option maxRecDepth 100000
def big : Nat := 4611686018427387904
def zC : Con := ⟨⟨[], 0⟩, 0⟩
theorem lightS (N : Nat) (hN : 4611686018400000000 ≤ N ∧ N ≤ 4611686018427387904) : ∀ (fs : List Lin) (M i : Nat) (s : Nat), fs.length < M → (∀ f ∈ fs, Good f) → s + (fs.map fun f => f.linMonos.length).sum ≤ 4194304 →
   ∃ b, foldN (F32_s1 N) F32_f1 M fs i (s : Int) = some b ∧ (b = true → s + (fs.map fun f => f.linMonos.length).sum ≤ 40)
 | [], M, i, s, hM, _, _ => by
   obtain ⟨K, rfl⟩ : ∃ K, M = K + 1 := ⟨M - 1, by simp at hM; omega⟩
   refine ⟨_, rfl, fun h => ?_⟩
   have := of_decide_eq_true h
   simp; omega
 | f :: fs, M, i, s, hM, hg, hs => by
   obtain ⟨K, rfl⟩ : ∃ K, M = K + 1 := ⟨M - 1, by simp at hM; omega⟩
   have hf := hg f (by simp)
   have hl := hf.1
   simp only [List.map_cons, List.sum_cons] at hs
   have h1 : F32_s1 N (s : Int) i f = bif f.linMonos.all (fun m => !decide ((m.monoAtom.size : Int) > 200)) then F32_f2 (s : Int) f () else some (.inr false) := by
     unfold F32_s1
     exact foldN_all (step := F32_s2 N) (fin := F32_f2 (s : Int) f) (fun m => !decide ((m.monoAtom.size : Int) > 200)) (.inr false) f.linMonos N 0 (by omega) fun x hx i => by
       have hs := hf.2 x hx
       simp only [F32_s2, size27 N x.monoAtom (by omega) (by omega), bindO_some]
       cases decide ((x.monoAtom.size : Int) > 200) <;> rfl
   simp only [foldN, h1]
   cases f.linMonos.all (fun m => !decide ((m.monoAtom.size : Int) > 200)) with
   | true =>
     have hw : IntKind.i64.wrap ((s : Int) + (f.linMonos.length : Int)) = ((s + f.linMonos.length : Nat) : Int) := by rw [wrap_id (by omega)]; omega
     obtain ⟨b, h2, h3⟩ := lightS N hN fs K (i + 1) (s + f.linMonos.length) (by simp at hM; omega) (fun k hk => hg k (by simp [hk])) (by omega)
     refine ⟨b, ?_, fun h => by have := h3 h; simp only [List.map_cons, List.sum_cons]; omega⟩
     simp only [cond_true, F32_f2, hw, bindO_some]
     exact h2
   | false => exact ⟨false, rfl, fun h => by cases h⟩
theorem forms1003 (N : Nat) (hN : 4611686018400000000 ≤ N ∧ N ≤ 4611686018427387904) (cons : List Con) (hl : cons.length ≤ 1048576) : F1003 N cons = some (cons.map (·.conForm)) := by
 have : ∀ (l : List Con) (M i : Nat) (out : List Lin), l.length < M → out.length + l.length ≤ 1048576 → foldN F1003_s1 F1003_f1 M l i out = some (out ++ l.map (·.conForm)) := by
   intro l
   induction l with
   | nil =>
     intro M i out hM _
     obtain ⟨K, rfl⟩ : ∃ K, M = K + 1 := ⟨M - 1, by simp at hM; omega⟩
     simp [foldN, F1003_f1]
   | cons c l ih =>
     intro M i out hM ho
     obtain ⟨K, rfl⟩ : ∃ K, M = K + 1 := ⟨M - 1, by simp at hM; omega⟩
     simp only [List.length_cons] at hM ho
     have hf : fits (out.length + 1) 32 = true := by simp only [fits, roomMax]; exact decide_eq_true (by omega)
     simp only [foldN, F1003_s1, hf, iteO_true, bindO_some]
     rw [ih K (i + 1) (out ++ [c.conForm]) (by omega) (by simp; omega)]
     simp
 have h := this cons N 0 [] (by omega) (by simpa using hl)
 simpa [F1003] using h
def badM (cons : List Con) (m : Mult) : Bool := decide (m.multIndex < 0) || (decide (m.multIndex ≥ (cons.length : Int)) || ((m.multCoef == 0) || (decide (m.multCoef < 0) && ((cons.getD m.multIndex.toNat default).conRel == 1))))
def relM (cons : List Con) (m : Mult) : Int := (cons.getD m.multIndex.toNat default).conRel
theorem atM {cons : List Con} {m : Mult} (h1 : ¬ m.multIndex < 0) (h2 : ¬ m.multIndex ≥ (cons.length : Int)) : atO cons m.multIndex = some (cons.getD m.multIndex.toNat default) := by
 obtain ⟨k, hk⟩ : ∃ k : Nat, m.multIndex = (k : Int) := ⟨m.multIndex.toNat, by omega⟩
 have hlt : k < cons.length := by omega
 rw [hk, Int.toNat_natCast, List.getD_eq_getElem?_getD, List.getElem?_eq_getElem hlt]
 exact atO_get (List.getElem?_eq_getElem hlt)
theorem go1010 (cons : List Con) (m : Mult) (r : Int) (i : Nat) : F1010_s1 cons r i m = (bif badM cons m then some (.inr (zC, 1)) else some (.inl (max r (relM cons m)))) := by
 unfold F1010_s1 badM relM
 by_cases h1 : m.multIndex < 0
 · rw [decide_eq_true h1]; rfl
 · rw [decide_eq_false h1]
   by_cases h2 : m.multIndex ≥ (cons.length : Int)
   · rw [decide_eq_true h2]; rfl
   · rw [decide_eq_false h2, atM h1 h2]
     cases m.multCoef == 0 with
     | true => rfl
     | false =>
       cases decide (m.multCoef < 0) with
       | false => rfl
       | true =>
         simp only [iteO_true, iteO_false, bindO_some, Bool.false_or, Bool.true_and]
         cases (cons.getD m.multIndex.toNat default).conRel == 1 <;> rfl
theorem loop1010 (cons : List Con) (fin : Int → Option (Con × Int)) : ∀ (l : List Mult) (M i : Nat) (r : Int), l.length < M → foldN (F1010_s1 cons) fin M l i r = bif l.any (badM cons) then some (zC, 1) else fin (l.foldl (fun r m => max r (relM cons m)) r)
 | [], M, i, r, hM => by
   obtain ⟨K, rfl⟩ : ∃ K, M = K + 1 := ⟨M - 1, by simp at hM; omega⟩
   rfl
 | m :: l, M, i, r, hM => by
   obtain ⟨K, rfl⟩ : ∃ K, M = K + 1 := ⟨M - 1, by simp at hM; omega⟩
   simp only [foldN, go1010, List.any_cons, List.foldl_cons]
   cases badM cons m with
   | true => rfl
   | false =>
     simp only [cond_false, bindO_some, Bool.false_or]
     exact loop1010 cons fin l K (i + 1) _ (by simp at hM; omega)
end Go.Abs.Try
