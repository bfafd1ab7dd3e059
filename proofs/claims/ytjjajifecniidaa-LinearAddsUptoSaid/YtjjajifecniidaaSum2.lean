import Derived.Test.YtjjajifecniidaaSum
namespace Go.Abs.Try
set_option linter.unusedSimpArgs false
set_option linter.unusedVariables false
set_option maxRecDepth 100000
def tri (w : Quantaleref04Wide) : Bool × Int × Int := (w.quantaleref04WideNeg, w.quantaleref04WideHi, w.quantaleref04WideLo)
abbrev BB : Nat := 83076749736557242056487941267521536
def dot (g : Lin → Int) : List Lin → List Int → Int
  | f :: fs, p :: ps => p * g f + dot g fs ps
  | _, _ => 0
theorem getD_drop {l : List Int} {i : Nat} (hi : i < l.length) : l.drop i = l[i] :: l.drop (i + 1) := List.drop_eq_getElem_cons hi
theorem wfold {β : Type} {step : Bool × Int × Int → Nat → Lin → Option (Sum (Bool × Int × Int) β)} {fin : Bool × Int × Int → Option β} (by' : List Int) (g : Lin → Int) (Q : Lin → Prop) (hI : ∀ p ∈ by', I64 p)
    (hstep : ∀ (u : Int) (i : Nat) (f : Lin) (p : Int), by'[i]? = some p → u.natAbs ≤ 1024 * BB → I64 p → Q f ∧ F53 (g f) → step (tri (packW u)) i f = some (.inl (tri (packW (u + p * g f))))) :
    ∀ (l : List Lin) (M i : Nat) (u : Int), (∀ f ∈ l, Q f ∧ F53 (g f)) → i + l.length = by'.length → by'.length ≤ 1024 → l.length < M → u.natAbs ≤ i * BB → foldN step fin M l i (tri (packW u)) = fin (tri (packW (u + dot g l (by'.drop i)))) ∧ (u + dot g l (by'.drop i)).natAbs ≤ 1024 * BB
  | [], M, i, u, _, hi, hb, hM, hu => by
    obtain ⟨K, rfl⟩ : ∃ K, M = K + 1 := ⟨M - 1, by simp at hM; omega⟩
    have hle : i * BB ≤ 1024 * BB := Nat.mul_le_mul_right _ (by simp at hi; omega)
    have e : dot g [] (by'.drop i) = 0 := rfl
    rw [e, Int.add_zero]
    exact ⟨rfl, Nat.le_trans hu hle⟩
  | f :: l, M, i, u, hg, hi, hb, hM, hu => by
    obtain ⟨K, rfl⟩ : ∃ K, M = K + 1 := ⟨M - 1, by simp at hM; omega⟩
    simp only [List.length_cons] at hi hM
    have hlt : i < by'.length := by omega
    have hp := hI _ (List.getElem_mem hlt)
    have hgf := hg f (by simp)
    have hle : i * BB ≤ 1024 * BB := Nat.mul_le_mul_right _ (by omega)
    have hs := hstep u i f by'[i] (List.getElem?_eq_getElem hlt) (Nat.le_trans hu hle) hp hgf
    have hm := abs_mul hp hgf.2
    have hu' : (u + by'[i] * g f).natAbs ≤ (i + 1) * BB := by
      have := Int.natAbs_add_le u (by'[i] * g f)
      rw [Nat.add_mul, Nat.one_mul]
      exact Nat.le_trans this (Nat.add_le_add hu hm)
    have ih := wfold (fin := fin) by' g Q hI hstep l K (i + 1) (u + by'[i] * g f) (fun k hk => hg k (by simp [hk])) (by omega) hb (by omega) hu'
    rw [getD_drop hlt, dot, ← Int.add_assoc]
    simp only [foldN, hs, bindO_some]
    exact ih
theorem wstep {p c u : Int} (hu : u.natAbs ≤ 1024 * BB) (hp : I64 p) (hc : F53 c) : F133 p c = some (packW (p * c)) ∧ F132 (packW u) (packW (p * c)) = some (packW (u + p * c)) := by
  have hm := abs_mul hp hc
  have hB : BB = 83076749736557242056487941267521536 := rfl
  exact ⟨times133 p c hp hc.i64, plus132 u (p * c) (by omega)⟩
theorem tri_eta (w : Quantaleref04Wide) : (⟨(tri w).1, (tri w).2.1, (tri w).2.2⟩ : Quantaleref04Wide) = w := rfl
def putsAll (l : List Node) (fs : List Lin) : List Node := fs.foldl (fun l f => putsR l f.linMonos) l
theorem putsAll_srt : ∀ (fs : List Lin) (l : List Node), SrtN l → SrtN (putsAll l fs)
  | [], _, h => h
  | f :: fs, l, h => putsAll_srt fs _ (putsR_srt _ _ h)
theorem putsAll_mem : ∀ (fs : List Lin) (l : List Node), ∀ x ∈ putsAll l fs, x ∈ l ∨ ∃ f ∈ fs, ∃ m ∈ f.linMonos, x = m.monoAtom
  | [], _, x, h => .inl h
  | f :: fs, l, x, h => by
    rcases putsAll_mem fs _ x h with h | ⟨k, hk, m, hm, e⟩
    · rcases putsR_mem _ _ x h with h | ⟨m, hm, e⟩
      · exact .inl h
      · exact .inr ⟨f, by simp, m, hm, e⟩
    · exact .inr ⟨k, by simp [hk], m, hm, e⟩
theorem putsAll_old : ∀ (fs : List Lin) (l : List Node), ∀ x ∈ l, x ∈ putsAll l fs
  | [], _, x, h => h
  | f :: fs, l, x, h => putsAll_old fs _ x (putsR_old _ _ x h)
theorem putsAll_new : ∀ (fs : List Lin) (l : List Node), ∀ f ∈ fs, ∀ m ∈ f.linMonos, ∃ x ∈ putsAll l fs, cmpR x m.monoAtom = 0
  | k :: fs, l, f, hf, m, hm => by
    rcases List.mem_cons.1 hf with rfl | hf
    · obtain ⟨x, h1, h2⟩ := putsR_new f.linMonos l m hm
      exact ⟨x, putsAll_old fs _ x h1, h2⟩
    · exact putsAll_new fs _ f hf m hm
theorem dot_congr {g h : Lin → Int} : ∀ {fs : List Lin} {ps : List Int}, (∀ f ∈ fs, g f = h f) → dot g fs ps = dot h fs ps
  | [], ps, _ => by cases ps <;> rfl
  | f :: fs, [], _ => rfl
  | f :: fs, p :: ps, e => by rw [dot, dot, e f (by simp), dot_congr fun k hk => e k (by simp [hk])]
theorem dot_zero {g : Lin → Int} : ∀ {fs : List Lin} {ps : List Int}, (∀ f ∈ fs, g f = 0) → dot g fs ps = 0
  | [], ps, _ => by cases ps <;> rfl
  | f :: fs, [], _ => rfl
  | f :: fs, p :: ps, e => by rw [dot, e f (by simp), dot_zero fun k hk => e k (by simp [hk])]; simp
def atC (a : Node) (f : Lin) : Int := coefL f.linMonos a
/-- the sums of all atoms -/
def sums (fs : List Lin) (ps : List Int) : List Mono := (putsAll [] fs).map fun a => ⟨dot (atC a) fs ps, a⟩
theorem sums_srt (fs : List Lin) (ps : List Int) : Srt (sums fs ps) := by
  rw [Srt, sums, List.pairwise_map]
  exact putsAll_srt fs [] (by simp [SrtN])
theorem sums_coef (fs : List Lin) (ps : List Int) (x : Node) : coefL (sums fs ps) x = dot (atC x) fs ps := by
  by_cases h : ∃ m ∈ sums fs ps, cmpR m.monoAtom x = 0
  · obtain ⟨m, hm, e⟩ := h
    rw [← coefL_congr e, coefL_self (sums_srt fs ps) m hm]
    obtain ⟨a, _, rfl⟩ := List.mem_map.1 hm
    exact dot_congr fun f _ => coefL_congr e _
  · rw [coefL_none fun m hm e => h ⟨m, hm, e⟩, dot_zero]
    intro f hf
    refine coefL_none fun m hm e => ?_
    obtain ⟨a, ha, e2⟩ := putsAll_new fs [] f hf m hm
    exact h ⟨⟨dot (atC a) fs ps, a⟩, List.mem_map.2 ⟨a, ha, rfl⟩, cmp_eq e2 e⟩
theorem atoms_fold (N : Nat) (hN : N = 4611686018427387904) (fin : List Node → Option (Lin × Bool)) : ∀ (fs : List Lin) (M i : Nat) (l : List Node), fs.length < M → (∀ f ∈ fs, Good f) → SrtN l → l.length + (fs.map fun f => f.linMonos.length).sum ≤ 4194304 →
    foldN (F90_s2 N) fin M fs i l = fin (putsAll l fs)
  | [], M, i, l, hM, _, _, _ => by
    obtain ⟨K, rfl⟩ : ∃ K, M = K + 1 := ⟨M - 1, by simp at hM; omega⟩
    rfl
  | f :: fs, M, i, l, hM, hg, hs, hl => by
    obtain ⟨K, rfl⟩ : ∃ K, M = K + 1 := ⟨M - 1, by simp at hM; omega⟩
    simp only [List.length_cons, List.map_cons, List.sum_cons] at hM hl
    have h1 := putsR_len f.linMonos l
    have ih := atoms_fold N hN fin fs K (i + 1) (putsR l f.linMonos) (by omega) (fun k hk => hg k (by simp [hk])) (putsR_srt _ _ hs) (by omega)
    simp only [foldN, F90_s2, atoms131 N hN l f (hg f (by simp)) hs (by omega), bindO_some]
    exact ih
theorem narrow (v : Int) (hv : v.natAbs ≤ 1024 * BB) : F134 (packW v) = some (bif fitsW v then v else 0, fitsW v) := by
  have hB : BB = 83076749736557242056487941267521536 := rfl
  exact narrow134 v (by omega)
theorem coefL_fits {l : List Mono} (h : ∀ m ∈ l, fitsC m.monoCoef = true) (a : Node) : F53 (coefL l a) := by
  induction l with
  | nil => exact ⟨by show (-9007199254740992 : Int) ≤ 0; decide, by show (0 : Int) ≤ 9007199254740992; decide⟩
  | cons m l ih =>
    rw [coefL]
    cases cmpR m.monoAtom a == 0 with
    | true => exact fitsC_F53 (h m (by simp))
    | false => exact ih fun k hk => h k (by simp [hk])
structure Forms (fs : List Lin) (ps : List Int) : Prop where
  len : fs.length = ps.length
  few : ps.length ≤ 1024
  good : ∀ f ∈ fs, Good f
  fit : ∀ f ∈ fs, ∀ m ∈ f.linMonos, fitsC m.monoCoef = true
  con : ∀ f ∈ fs, F53 f.linConst
  i64 : ∀ p ∈ ps, I64 p
  tot : (fs.map fun f => f.linMonos.length).sum ≤ 4194304
theorem one90 (N : Nat) (hN : N = 4611686018427387904) {fs : List Lin} {ps : List Int} (h : Forms fs ps) (s : (List Mono) × Bool) (i : Nat) (a : Node) (ha : a.size ≤ 1048576) (hl : s.1.length ≤ 8388607) :
    F90_s5 N ps fs s i a = some (.inl (if (bif fitsW (dot (atC a) fs ps) then dot (atC a) fs ps else 0) = 0 then s.1 else s.1 ++ [⟨bif fitsW (dot (atC a) fs ps) then dot (atC a) fs ps else 0, a⟩], s.2 && fitsW (dot (atC a) fs ps))) := by
  have hw := wfold (β := Sum ((List Mono) × Bool) (Lin × Bool)) (step := F90_s6 N ps a) (fin := F90_f6 N s a) ps (atC a) Good h.i64 (fun u i f p hp hu h1 h2 => by
    obtain ⟨e1, e2⟩ := wstep hu h1 h2.2
    have hc : F135 N f a = some (atC a f) := coef135 N hN f h2.1 a
    simp only [F90_s6, atO_get hp, hc, bindO_some, tri_eta, e1, e2]
    rfl) fs N 0 0 (fun f hf => ⟨h.good f hf, coefL_fits (h.fit f hf) a⟩) (by simpa using h.len) h.few (by have := h.len; have := h.few; omega) (by simp)
  rw [List.drop_zero, Int.zero_add] at hw
  have e0 : tri (packW 0) = (false, 0, 0) := by decide
  rw [e0] at hw
  show foldN (S := Bool × Int × Int) (F90_s6 N ps a) (F90_f6 N s a) N fs 0 (false, 0, 0) = _
  rw [hw.1]
  have h83 := same83 N a (by omega) ha
  have hf : fits (s.1.length + 1) 72 = true := fits72_le (by omega)
  simp only [F90_f6, tri_eta, narrow _ hw.2, bindO_some, h83, hf, iteO_true]
  generalize (bif fitsW (dot (atC a) fs ps) then dot (atC a) fs ps else 0) = n
  by_cases h0 : n = 0
  · have e : (n == 0) = true := beq_iff_eq.2 h0
    rw [e, if_pos h0]
    cases s.2 <;> rfl
  · have e : (n == 0) = false := beq_eq_false_iff_ne.2 h0
    rw [e, if_neg h0]
    cases s.2 <;> rfl
/-- the loop over all atoms -/
theorem rounds90 (N : Nat) (hN : N = 4611686018427387904) {fs : List Lin} {ps : List Int} (h : Forms fs ps) (c : Int × Bool) : ∀ (l : List Node) (M i : Nat) (out : List Mono) (ok : Bool), l.length < M → (∀ a ∈ l, a.size ≤ 1048576) → out.length + l.length ≤ 8388607 →
    ∃ o, foldN (F90_s5 N ps fs) (F90_f5 c) M l i (out, ok) = some (⟨o, c.1⟩, ok && allW (l.map fun a => ⟨dot (atC a) fs ps, a⟩)) ∧ (allW (l.map fun a => ⟨dot (atC a) fs ps, a⟩) = true → o = out ++ nz (l.map fun a => ⟨dot (atC a) fs ps, a⟩))
  | [], M, i, out, ok, hM, _, _ => by
    obtain ⟨K, rfl⟩ : ∃ K, M = K + 1 := ⟨M - 1, by simp at hM; omega⟩
    exact ⟨out, by simp [foldN, F90_f5, allW], by simp [nz]⟩
  | a :: l, M, i, out, ok, hM, hs, ho => by
    obtain ⟨K, rfl⟩ : ∃ K, M = K + 1 := ⟨M - 1, by simp at hM; omega⟩
    simp only [List.length_cons] at hM ho
    have h1 := one90 N hN h (out, ok) i a (hs a (by simp)) (by simp only; omega)
    simp only [foldN, h1, bindO_some]
    obtain ⟨o, h2, h3⟩ := rounds90 N hN h c l K (i + 1) (if (bif fitsW (dot (atC a) fs ps) then dot (atC a) fs ps else 0) = 0 then out else out ++ [⟨bif fitsW (dot (atC a) fs ps) then dot (atC a) fs ps else 0, a⟩]) (ok && fitsW (dot (atC a) fs ps)) (by omega) (fun k hk => hs k (by simp [hk])) (by split <;> (try simp only [List.length_append, List.length_cons, List.length_nil]) <;> omega)
    refine ⟨o, ?_, fun hw => ?_⟩
    · rw [h2, Bool.and_assoc]; rfl
    · simp only [List.map_cons, allW, List.all_cons, Bool.and_eq_true] at hw
      rw [h3 hw.2]
      simp only [hw.1, cond_true, List.map_cons, nz]
      by_cases h0 : dot (atC a) fs ps = 0
      · simp [h0]
      · simp [h0]
theorem sum90 (N : Nat) (hN : N = 4611686018427387904) {fs : List Lin} {ps : List Int} (h : Forms fs ps) :
    ∃ r, F90 N fs ps = some r ∧ r.2 = (allW (sums fs ps) && fitsW (dot Lin.linConst fs ps)) ∧ (r.2 = true → r.1 = ⟨nz (sums fs ps), dot Lin.linConst fs ps⟩) := by
  have hlen := h.len
  have hfew := h.few
  have ht := h.tot
  have hsz : ∀ a ∈ putsAll [] fs, a.size ≤ 1048576 := by
    intro a ha
    rcases putsAll_mem fs [] a ha with h1 | ⟨f, hf, m, hm, rfl⟩
    · cases h1
    · exact (h.good f hf).2 m hm
  have hl : (putsAll [] fs).length ≤ 4194304 := by
    have : ∀ (fs : List Lin) (l : List Node), (putsAll l fs).length ≤ l.length + (fs.map fun f => f.linMonos.length).sum := by
      intro fs
      induction fs with
      | nil => intro l; simp [putsAll]
      | cons f fs ih =>
        intro l
        have h1 := ih (putsR l f.linMonos)
        have h2 := putsR_len f.linMonos l
        show (putsAll (putsR l f.linMonos) fs).length ≤ _
        simp only [List.map_cons, List.sum_cons]; omega
    have := this fs []
    simp at this; omega
  have ha := atoms_fold N hN (F90_f2 N ps fs) fs N 0 [] (by omega) h.good (by simp [SrtN]) (by simpa using ht)
  have e0 : tri (packW 0) = (false, 0, 0) := by decide
  have hw := wfold (β := Lin × Bool) (step := F90_s3 ps) (fin := F90_f3 N ps fs (putsAll [] fs)) ps Lin.linConst (fun _ => True) h.i64 (fun u i f p hp hu h1 h2 => by
    obtain ⟨e1, e2⟩ := wstep hu h1 h2.2
    simp only [F90_s3, atO_get hp, bindO_some, tri_eta, e1, e2]
    rfl) fs N 0 0 (fun f hf => ⟨trivial, h.con f hf⟩) (by simpa using hlen) hfew (by omega) (by simp)
  rw [List.drop_zero, Int.zero_add, e0] at hw
  have h2 : F90_f2 N ps fs (putsAll [] fs) = F90_f3 N ps fs (putsAll [] fs) (tri (packW (dot Lin.linConst fs ps))) := hw.1
  obtain ⟨o, h3, h4⟩ := rounds90 N hN h (bif fitsW (dot Lin.linConst fs ps) then dot Lin.linConst fs ps else 0, fitsW (dot Lin.linConst fs ps)) (putsAll [] fs) N 0 [] (fitsW (dot Lin.linConst fs ps)) (by omega) hsz (by simpa using by omega)
  refine ⟨(⟨o, bif fitsW (dot Lin.linConst fs ps) then dot Lin.linConst fs ps else 0⟩, fitsW (dot Lin.linConst fs ps) && allW (sums fs ps)), ?_, ?_, ?_⟩
  · rw [F90, ha, h2]
    simp only [F90_f3, tri_eta, narrow _ hw.2, bindO_some]
    exact h3
  · exact Bool.and_comm _ _
  · intro hok
    simp only [Bool.and_eq_true] at hok
    have := h4 hok.2
    simp only [this, hok.1, cond_true]
    rfl
end Go.Abs.Try
