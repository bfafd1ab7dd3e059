import Derived.Test.YtjjajifecniidaaGreatUPSumtoUStp5
import Derived.Test.YtjjajifecniidaaGreatUP11toUP11b
set_option linter.unusedSimpArgs false
set_option linter.unusedVariables false
namespace Go.Abs.Try
set_option maxRecDepth 100000
theorem gcd_dvd : ∀ (l : List Mono) (s : Nat), l.foldl (fun g m => Nat.gcd g m.monoCoef.natAbs) s ∣ s ∧ ∀ m ∈ l, l.foldl (fun g m => Nat.gcd g m.monoCoef.natAbs) s ∣ m.monoCoef.natAbs
 | [], s => ⟨Nat.dvd_refl _, by simp⟩
 | x :: xs, s => by
   obtain ⟨h1, h2⟩ := gcd_dvd xs (Nat.gcd s x.monoCoef.natAbs)
   rw [List.foldl_cons]
   refine ⟨Nat.dvd_trans h1 (Nat.gcd_dvd_left _ _), fun m hm => ?_⟩
   rcases List.mem_cons.1 hm with rfl | hm
   · exact Nat.dvd_trans h1 (Nat.gcd_dvd_right _ _)
   · exact h2 m hm
theorem div_ne (a d : Int) (ha : a ≠ 0) (h : d.natAbs ∣ a.natAbs) : a.tdiv d ≠ 0 := by
 intro e
 have h1 : d ∣ a := Int.natAbs_dvd_natAbs.1 h
 have h2 := Int.tdiv_mul_cancel h1
 rw [e] at h2
 omega
theorem validL_div (d : Int) : ∀ (l : List Mono) (p : Option Node), validL p l = true → (∀ m ∈ l, m.monoCoef.tdiv d ≠ 0) → validL p (divM d l) = true
 | [], _, _, _ => rfl
 | m :: ms, p, h, hl => by
   simp only [validL, Bool.and_eq_true, Bool.not_eq_true', beq_eq_false_iff_ne] at h
   have ih := validL_div d ms (some m.monoAtom) h.2.2.2.2 fun k hk => hl k (by simp [hk])
   simp only [divM, List.map_cons, validL, Bool.and_eq_true, Bool.not_eq_true', beq_eq_false_iff_ne]
   exact ⟨hl m (by simp), fits_div h.2.1, h.2.2.1, h.2.2.2.1, ih⟩
theorem floor_fits (a b : Int) (ha : fitsC a = true) (hb : 0 < b) : fitsC (-floorI a b) = true := by
 have hf := (fitsC_iff _).1 ha
 have h1 := Int.natAbs_tdiv_le_natAbs a b
 have h2 := Int.mul_tdiv_add_tmod a b
 rw [fitsC_iff]
 unfold floorI
 by_cases hm : a.tmod b < 0
 · rw [if_pos hm]
   by_cases hq : a.tdiv b = -9007199254740992
   · rw [hq] at h2; omega
   · omega
 · rw [if_neg hm]; omega
theorem gcdI_nat (c : Con) : (gcdI c).natAbs = gcdN c.conForm.linMonos := by unfold gcdI; omega
theorem byR_nat (c : Con) : (byR c).natAbs = gcdN c.conForm.linMonos := by
 unfold byR gcdI; cases firstNeg c.conForm.linMonos <;> simp only [cond_true, cond_false] <;> omega
theorem good_div (d : Int) (l : List Mono) (k k' : Int) (h : Good ⟨l, k⟩) : Good ⟨divM d l, k'⟩ := by
 refine ⟨by simpa [divM] using h.1, fun m hm => ?_⟩
 obtain ⟨x, hx, rfl⟩ := List.mem_map.1 hm
 exact h.2 x hx
theorem round_ok (c : Con) (h : Ok c) (hv : validC c = true) : Good (roundR c).conForm ∧ validC (roundR c) = true := by
 have hg : Good ⟨c.conForm.linMonos, c.conForm.linConst⟩ := h.1
 simp only [validC, validB, Bool.and_eq_true] at hv
 unfold roundR
 cases he : c.conForm.linMonos.isEmpty with
 | true =>
   simp only [cond_true]
   refine ⟨h.1, ?_⟩
   simp only [validC, validB, Bool.and_eq_true]
   exact hv
 | false =>
   have hne : c.conForm.linMonos ≠ [] := fun e => by rw [e] at he; cases he
   have hp := gcdI_pos c h hne
   have hdv : ∀ d : Int, d.natAbs = gcdN c.conForm.linMonos → ∀ m ∈ c.conForm.linMonos, m.monoCoef.tdiv d ≠ 0 := fun d hd m hm => div_ne _ _ (h.2.1 m hm).2.1 (by rw [hd]; exact (gcd_dvd c.conForm.linMonos 0).2 m hm)
   simp only [cond_false]
   cases hrel : c.conRel == 0 with
   | true =>
     simp only [cond_true]
     cases c.conForm.linConst.tmod (gcdI c) == 0 with
     | false => exact ⟨⟨by simp, by simp⟩, rfl⟩
     | true =>
       simp only [cond_true]
       refine ⟨good_div _ _ _ _ hg, ?_⟩
       simp only [validC, validB, Bool.and_eq_true]
       exact ⟨hv.1, validL_div _ _ _ hv.2.1 (hdv _ (byR_nat c)), fits_div hv.2.2⟩
   | false =>
     have hconst := (fitsC_iff _).1 h.2.2
     simp only [cond_false]
     refine ⟨good_div _ _ _ _ hg, ?_⟩
     simp only [validC, validB, Bool.and_eq_true]
     exact ⟨hv.1, validL_div _ _ _ hv.2.1 (hdv _ (gcdI_nat c)), floor_fits _ _ ((fitsC_iff _).2 (by omega)) hp.1⟩
end Go.Abs.Try
namespace Go.Abs.Try
set_option maxRecDepth 100000
abbrev Rg (N : Nat) : Prop := 4611686018400000000 ≤ N ∧ N ≤ 4611686018427387904
theorem step1388 (N : Nat) (s : List Mult) (cons : List Con) : F1388 N s cons = F1010 N cons s := rfl
structure OkCon (pool : List Node) (c : Con) : Prop where
 good : Good c.conForm
 val : validC c = true
 mem : ∀ m ∈ c.conForm.linMonos, m.monoAtom ∈ pool
theorem srt_len : ∀ (l : List Mono) (pool : List Node), Srt l → (∀ m ∈ l, m.monoAtom ∈ pool) → l.length ≤ pool.length
 | [], _, _, _ => by simp
 | m :: l, pool, hs, hm => by
   classical
   obtain ⟨h1, h2⟩ := List.pairwise_cons.1 hs
   have hmem := hm m (by simp)
   have := srt_len l (pool.erase m.monoAtom) h2 fun k hk => by
     have hne : k.monoAtom ≠ m.monoAtom := fun e => by
       have h3 := h1 k hk
       rw [e] at h3
       have h4 := cmpR_neg m.monoAtom m.monoAtom
       omega
     exact (List.mem_erase_of_ne hne).2 (hm k (by simp [hk]))
   rw [List.length_erase_of_mem hmem] at this
   have := List.length_pos_of_mem hmem
   simp only [List.length_cons]; omega
theorem OkCon.len {pool : List Node} {c : Con} (h : OkCon pool c) : c.conForm.linMonos.length ≤ pool.length := by
 have h2 := h.val
 simp only [validC, validB, Bool.and_eq_true] at h2
 exact srt_len _ _ (srt_of _ none h2.2.1).1 h.mem
theorem valid_of : ∀ (l : List Mono) (p : Option Node), Srt l → (∀ m ∈ l, fitsC m.monoCoef = true ∧ m.monoCoef ≠ 0 ∧ atomB m.monoAtom = true) → (∀ q, p = some q → ∀ m ∈ l, cmpR q m.monoAtom < 0) → validL p l = true
 | [], _, _, _, _ => rfl
 | m :: l, p, hs, hm, hp => by
   obtain ⟨h1, h2⟩ := List.pairwise_cons.1 hs
   obtain ⟨a1, a2, a3⟩ := hm m (by simp)
   have ih := valid_of l (some m.monoAtom) h2 (fun k hk => hm k (by simp [hk])) (fun q hq k hk => by injection hq with hq; subst hq; exact h1 k hk)
   have e0 : (m.monoCoef == 0) = false := beq_eq_false_iff_ne.2 a2
   have e1 : prevB p m.monoAtom = true := by
     cases p with
     | none => rfl
     | some q =>
       have := hp q rfl m (by simp)
       simp only [prevB, Bool.not_eq_true', decide_eq_false_iff_not]; omega
   simp only [validL, e0, a1, a3, e1, ih, Bool.not_false, Bool.and_self]
theorem round_mem (c : Con) {pool : List Node} (h : ∀ m ∈ c.conForm.linMonos, m.monoAtom ∈ pool) : ∀ m ∈ (roundR c).conForm.linMonos, m.monoAtom ∈ pool := by
 have hd : ∀ d, ∀ m ∈ divM d c.conForm.linMonos, m.monoAtom ∈ pool := fun d m hm => by
   obtain ⟨k, hk, rfl⟩ := List.mem_map.1 hm
   exact h k hk
 unfold roundR
 cases c.conForm.linMonos.isEmpty with
 | true => exact h
 | false =>
   simp only [cond_false]
   cases c.conRel == 0 with
   | true =>
     simp only [cond_true]
     cases c.conForm.linConst.tmod (gcdI c) == 0 with
     | true => exact hd _
     | false => exact fun m hm => by cases hm
   | false => exact hd _
end Go.Abs.Try
namespace Go.Abs.Try
set_option maxRecDepth 100000
def lsum (w : Node → Int) : List Mono → Int
 | [] => 0
 | m :: l => m.monoCoef * w m.monoAtom + lsum w l
theorem lsum_nz (w : Node → Int) : ∀ l : List Mono, lsum w (nz l) = lsum w l
 | [] => rfl
 | m :: l => by
   have ih := lsum_nz w l
   by_cases h : m.monoCoef = 0
   · have : nz (m :: l) = nz l := by simp [nz, h]
     rw [this, ih, lsum, h]; simp
   · have : nz (m :: l) = m :: nz l := by simp [nz, h]
     rw [this, lsum, lsum, ih]
theorem lsum_map (w : Node → Int) (p : Int) : ∀ l : List Mono, lsum w (l.map fun m => (⟨p * m.monoCoef, m.monoAtom⟩ : Mono)) = p * lsum w l
 | [] => by simp [lsum]
 | m :: l => by rw [List.map_cons, lsum, lsum, lsum_map w p l, Int.mul_add, Int.mul_assoc]
end Go.Abs.Try
namespace Go.Abs.Try
set_option maxRecDepth 100000
def fval (w : Node → Int) (f : Lin) : Int := lsum w f.linMonos + f.linConst
def holds (w : Node → Int) (c : Con) : Prop := (c.conRel = 0 → fval w c.conForm = 0) ∧ (c.conRel = 1 → fval w c.conForm ≤ 0)
def sU (g : Node → Int) : List Node → Int
 | [] => 0
 | a :: U => g a + sU g U
theorem sU_add (g h : Node → Int) : ∀ U, sU (fun a => g a + h a) U = sU g U + sU h U
 | [] => rfl
 | a :: U => by simp only [sU, sU_add g h U]; omega
theorem sU_mul (k : Int) (g : Node → Int) : ∀ U, sU (fun a => k * g a) U = k * sU g U
 | [] => by simp [sU]
 | a :: U => by simp only [sU, sU_mul k g U, Int.mul_add]
theorem sU_congr {g h : Node → Int} : ∀ {U : List Node}, (∀ a ∈ U, g a = h a) → sU g U = sU h U
 | [], _ => rfl
 | a :: U, e => by
   have ih := sU_congr (g := g) (h := h) (U := U) fun b hb => e b (by simp [hb])
   have h1 := e a (by simp)
   simp only [sU, h1, ih]
theorem sU_zero : ∀ {g : Node → Int} {U : List Node}, (∀ a ∈ U, g a = 0) → sU g U = 0
 | _, [], _ => rfl
 | g, a :: U, e => by
   have ih := sU_zero (g := g) (U := U) fun b hb => e b (by simp [hb])
   have h1 := e a (by simp)
   simp only [sU, h1, ih]; rfl
theorem sU_one (w : Node → Int) (x : Node) (k : Int) : ∀ {U : List Node}, U.Nodup → x ∈ U → sU (fun a => (bif cmpR x a == 0 then k else 0) * w a) U = k * w x
 | a :: U, hn, hx => by
   obtain ⟨h1, h2⟩ := List.nodup_cons.1 hn
   by_cases e : x = a
   · subst e
     have h0 : sU (fun a => (bif cmpR x a == 0 then k else 0) * w a) U = 0 := sU_zero fun b hb => by
       have : (cmpR x b == 0) = false := beq_eq_false_iff_ne.2 fun h => h1 (cmpR_zero x b h ▸ hb)
       rw [this]; simp
     have h3 : (cmpR x x == 0) = true := beq_iff_eq.2 (cmpR_self x)
     simp only [sU, h0, h3, cond_true]; omega
   · have h3 : (cmpR x a == 0) = false := beq_eq_false_iff_ne.2 fun h => e (cmpR_zero x a h)
     have hx' : x ∈ U := by
       rcases List.mem_cons.1 hx with h | h
       · exact absurd h e
       · exact h
     simp only [sU, h3, cond_false, sU_one w x k h2 hx']; omega
theorem nodup_of : ∀ l : List Node, ∃ U : List Node, U.Nodup ∧ ∀ a ∈ l, a ∈ U
 | [] => ⟨[], by simp, by simp⟩
 | a :: l => by
   obtain ⟨U, h1, h2⟩ := nodup_of l
   by_cases h : a ∈ U
   · exact ⟨U, h1, fun b hb => by 
       rcases List.mem_cons.1 hb with rfl | hb
       · exact h
       · exact h2 b hb⟩
   · exact ⟨a :: U, List.nodup_cons.2 ⟨h, h1⟩, fun b hb => by
       rcases List.mem_cons.1 hb with rfl | hb
       · simp
       · simp [h2 b hb]⟩
theorem lsum_U (w : Node → Int) {U : List Node} (hU : U.Nodup) : ∀ {l : List Mono}, Srt l → (∀ m ∈ l, m.monoAtom ∈ U) → lsum w l = sU (fun a => coefL l a * w a) U
 | [], _, _ => by rw [sU_zero fun a _ => by simp [coefL]]; rfl
 | m :: l, hs, hm => by
   have ih := lsum_U w hU (List.pairwise_cons.1 hs).2 fun k hk => hm k (by simp [hk])
   have e : ∀ a ∈ U, coefL (m :: l) a * w a = (bif cmpR m.monoAtom a == 0 then m.monoCoef else 0) * w a + coefL l a * w a := fun a _ => by
     by_cases h : cmpR m.monoAtom a = 0
     · have h0 : coefL l a = 0 := coefL_none (srt_above hs (by have := cmp_sym h; omega))
       have h3 : (cmpR m.monoAtom a == 0) = true := beq_iff_eq.2 h
       rw [coefL_head h, h0, h3]; simp
     · have h3 : (cmpR m.monoAtom a == 0) = false := beq_eq_false_iff_ne.2 h
       rw [coefL_tail h, h3]; simp
   rw [sU_congr e, sU_add, sU_one w _ _ hU (hm m (by simp)), ← ih, lsum]
theorem dot_U (w : Node → Int) (U : List Node) : ∀ (fs : List Lin) (ps : List Int), sU (fun a => dot (atC a) fs ps * w a) U = dot (fun f => sU (fun a => atC a f * w a) U) fs ps
 | [], _ => sU_zero fun a _ => by simp [dot]
 | f :: fs, [] => sU_zero fun a _ => by simp [dot]
 | f :: fs, p :: ps => by
   have e : ∀ a ∈ U, dot (atC a) (f :: fs) (p :: ps) * w a = p * (atC a f * w a) + dot (atC a) fs ps * w a := fun a _ => by
     simp only [dot, Int.add_mul, Int.mul_assoc]
   rw [sU_congr e, sU_add, sU_mul, dot_U w U fs ps]; rfl
theorem dot_add (g h : Lin → Int) : ∀ (fs : List Lin) (ps : List Int), dot (fun f => g f + h f) fs ps = dot g fs ps + dot h fs ps
 | [], _ => rfl
 | f :: fs, [] => rfl
 | f :: fs, p :: ps => by simp only [dot, dot_add g h fs ps, Int.mul_add]; omega
theorem total_prog (N : Nat) (hN : Rg N) (pool : List Node) (hpl : pool.length ≤ 2000) (cons : List Con) (s : List Mult) (hc : ∀ c ∈ cons, OkCon pool c) (ho : ∀ m ∈ s, 0 ≤ m.multIndex ∧ m.multIndex < (cons.length : Int) ∧ I64 m.multCoef) (hs : s.length ≤ 300) :
   ∃ ok us c, (∃ r, F1019 N cons s = some r ∧ r.2 = ok ∧ (ok = true → r.1 = ⟨nz us, c⟩)) ∧ Srt us ∧ us.length ≤ 600000 ∧ (∀ m ∈ us, m.monoAtom.size ≤ 1048576 ∧ atomB m.monoAtom = true ∧ m.monoAtom ∈ pool) ∧ (ok = true → (∀ m ∈ us, fitsC m.monoCoef = true) ∧ fitsC c = true) ∧
     ∀ w, lsum w us + c = dot (fval w) (s.map (fm cons)) (s.map (·.multCoef)) := by
 have hN8 : 8388608 ≤ N := by omega
 have hv : ∀ c ∈ cons, Srt c.conForm.linMonos ∧ (∀ m ∈ c.conForm.linMonos, F53 m.monoCoef ∧ (m.monoAtom.size ≤ 1048576 ∧ atomB m.monoAtom = true ∧ m.monoAtom ∈ pool)) ∧ F53 c.conForm.linConst ∧ c.conForm.linMonos.length ≤ 2000 := fun c h => by
   have h1 := hc c h
   have h2 := h1.val
   simp only [validC, validB, Bool.and_eq_true] at h2
   obtain ⟨h4, h5⟩ := srt_of _ none h2.2.1
   exact ⟨h4, fun m hm => ⟨fitsC_F53 (h5 m hm).1, h1.good.2 m hm, (h5 m hm).2.2, h1.mem m hm⟩, fitsC_F53 h2.2.2, by have := h1.len; omega⟩
 obtain ⟨us, c, f1, f2, f3, f4, f5, f6, f7, f8⟩ := outer N hN8 (fun n => n.size ≤ 1048576 ∧ atomB n = true ∧ n ∈ pool) (fun n h => by have := h.1; omega) cons hv (F1019_f1 N) s [] 0 0 N 0 (fun m hm => ⟨(ho m hm).1, (ho m hm).2.1, (ho m hm).2.2⟩) (by omega) (by simp [Srt]) (by simp; omega) (by simp) (by omega)
   (fun a => by simp [coefL]) (by simp)
 obtain ⟨r, g1, g2, g3⟩ := last N us c (fun m hm => by rw [← coefL_self f2 m hm]; exact f7 _) f8 (by simp at f3; omega) (List.range us.length) N 0 [] (by simp) (by simp at f3 ⊢; omega) (by simp)
 refine ⟨allW us && fitsW c, us, c, ⟨r, ?_, by simpa using g2, fun h => ?_⟩, f2, by simp at f3; omega, f4, fun h => ?_, fun w => ?_⟩
 · show foldN (F1019_s1 N cons) (F1019_f1 N) N s 0 ([], [], 0, 0) = _
   refine f1.trans ?_
   show foldN (F1019_s5 _) (F1019_f5 _) N (List.range (((atomsOf us, sumsOf us, (packS c).linearSumHi, (packS c).linearSumLo) : List Node × List LinearSum × Int × Int).2.1.length : Int).toNat) 0 [] = _
   rw [Int.toNat_natCast]
   show foldN (F1019_s5 _) (F1019_f5 _) N (List.range (sumsOf us).length) 0 [] = _
   rw [sumsOf_len]
   exact g1
 · have := g3 (by rw [g2]; simpa using h)
   simpa using this
 · rw [Bool.and_eq_true] at h
   exact ⟨fun m hm => List.all_eq_true.1 h.1 m hm, h.2⟩
 · obtain ⟨U, hU, hU2⟩ := nodup_of pool
   rw [lsum_U w hU f2 fun m hm => hU2 _ (f4 m hm).2.2]
   have e1 : sU (fun a => coefL us a * w a) U = sU (fun a => dot (atC a) (s.map (fm cons)) (s.map (·.multCoef)) * w a) U := sU_congr fun a _ => by rw [f5 a]; simp [coefL]
   rw [e1, dot_U, f6, Int.zero_add, ← dot_add]
   refine dot_congr fun f hf => ?_
   obtain ⟨m, hm, rfl⟩ := List.mem_map.1 hf
   obtain ⟨h1, h2, _⟩ := ho m hm
   have hk : m.multIndex.toNat < cons.length := by omega
   have hcm : cons[m.multIndex.toNat] ∈ cons := List.getElem_mem hk
   have hfm : fm cons m = cons[m.multIndex.toNat].conForm := by rw [fm, List.getD_eq_getElem?_getD, List.getElem?_eq_getElem hk]; rfl
   rw [hfm]
   show sU (fun a => coefL cons[m.multIndex.toNat].conForm.linMonos a * w a) U + _ = fval w _
   rw [fval, lsum_U w hU (hv _ hcm).1 fun k hk => hU2 _ ((hv _ hcm).2.1 k hk).2.2.2]
end Go.Abs.Try
namespace Go.Abs.Try
set_option maxRecDepth 100000
theorem lsum_div (w : Node → Int) (d : Int) : ∀ l : List Mono, (∀ m ∈ l, d ∣ m.monoCoef) → lsum w (divM d l) * d = lsum w l
 | [], _ => by simp [divM, lsum]
 | m :: l, h => by
   have ih := lsum_div w d l fun k hk => h k (by simp [hk])
   have h1 : m.monoCoef.tdiv d * d = m.monoCoef := Int.tdiv_mul_cancel (h m (by simp))
   show (m.monoCoef.tdiv d * w m.monoAtom + lsum w (divM d l)) * d = m.monoCoef * w m.monoAtom + lsum w l
   rw [Int.add_mul, ih, Int.mul_right_comm, h1]
theorem lsum_dvd (w : Node → Int) (d : Int) : ∀ l : List Mono, (∀ m ∈ l, d ∣ m.monoCoef) → d ∣ lsum w l := fun l h => by
 rw [← lsum_div w d l h]; exact Int.dvd_mul_left _ _
theorem floor_lt (a b : Int) (hb : 0 < b) : a < (floorI a b + 1) * b := by
 have h1 := Int.mul_tdiv_add_tmod a b
 have h2 := Int.tmod_lt_of_pos a hb
 unfold floorI
 split
 · have e : (a.tdiv b - 1 + 1) * b = b * a.tdiv b := by rw [Int.sub_add_cancel, Int.mul_comm]
   rw [e]; omega
 · have e : (a.tdiv b + 1) * b = b * a.tdiv b + b := by rw [Int.add_mul, Int.one_mul, Int.mul_comm]
   rw [e]; omega
theorem coef_dvd (c : Con) (d : Int) (hd : d.natAbs = gcdN c.conForm.linMonos) : ∀ m ∈ c.conForm.linMonos, d ∣ m.monoCoef := fun m hm => by
 rw [← Int.natAbs_dvd_natAbs, hd]; exact (gcd_dvd c.conForm.linMonos 0).2 m hm
theorem round_holds (w : Node → Int) (c : Con) (h : Ok c) (hr : c.conRel = 0 ∨ c.conRel = 1) (hh : holds w c) : holds w (roundR c) := by
 unfold roundR
 cases he : c.conForm.linMonos.isEmpty with
 | true => exact hh
 | false =>
   have hne : c.conForm.linMonos ≠ [] := fun e => by rw [e] at he; cases he
   have hp := gcdI_pos c h hne
   simp only [cond_false]
   rcases hr with hr | hr
   · have e0 : (c.conRel == 0) = true := beq_iff_eq.2 hr
     have hv : lsum w c.conForm.linMonos + c.conForm.linConst = 0 := hh.1 hr
     rw [e0, cond_true]
     have hd := coef_dvd c (byR c) (byR_nat c)
     have hg := coef_dvd c (gcdI c) (gcdI_nat c)
     have hl := lsum_div w (byR c) _ hd
     have hcd : gcdI c ∣ c.conForm.linConst := by
       have h1 := lsum_dvd w (gcdI c) _ hg
       have e : c.conForm.linConst = -lsum w c.conForm.linMonos := by omega
       rw [e]; exact Int.dvd_neg.2 h1
     have ht : (c.conForm.linConst.tmod (gcdI c) == 0) = true := beq_iff_eq.2 (Int.tmod_eq_zero_of_dvd hcd)
     rw [ht, cond_true]
     refine ⟨fun _ => ?_, fun h1 => by have h1 : c.conRel = 1 := h1; omega⟩
     have hcb : byR c ∣ c.conForm.linConst := by
       rw [← Int.natAbs_dvd_natAbs, byR_nat, ← gcdI_nat, Int.natAbs_dvd_natAbs]; exact hcd
     have hc2 : c.conForm.linConst.tdiv (byR c) * byR c = c.conForm.linConst := Int.tdiv_mul_cancel hcb
     have hb0 : byR c ≠ 0 := fun e => by
       have h1 := byR_nat c
       have h2 := gcdI_nat c
       rw [e] at h1
       simp only [Int.natAbs_zero] at h1
       omega
     show lsum w (divM (byR c) c.conForm.linMonos) + c.conForm.linConst.tdiv (byR c) = 0
     have : (lsum w (divM (byR c) c.conForm.linMonos) + c.conForm.linConst.tdiv (byR c)) * byR c = 0 := by rw [Int.add_mul, hl, hc2, hv]
     rcases Int.mul_eq_zero.1 this with h1 | h1
     · exact h1
     · exact absurd h1 hb0
   · have e0 : (c.conRel == 0) = false := beq_eq_false_iff_ne.2 (by omega)
     have hv : lsum w c.conForm.linMonos + c.conForm.linConst ≤ 0 := hh.2 hr
     rw [e0, cond_false]
     refine ⟨fun h1 => by have h1 : c.conRel = 0 := h1; omega, fun _ => ?_⟩
     have hg := coef_dvd c (gcdI c) (gcdI_nat c)
     have hl := lsum_div w (gcdI c) _ hg
     have hf := floor_lt (-c.conForm.linConst) (gcdI c) hp.1
     show lsum w (divM (gcdI c) c.conForm.linMonos) + -floorI (-c.conForm.linConst) (gcdI c) ≤ 0
     have : lsum w (divM (gcdI c) c.conForm.linMonos) < floorI (-c.conForm.linConst) (gcdI c) + 1 := by
       refine Int.lt_of_mul_lt_mul_right (a := gcdI c) ?_ (by omega)
       rw [hl]; omega
     omega
theorem max_ge (cons : List Con) : ∀ (l : List Mult) (r : Int), r ≤ l.foldl (fun r m => max r (relM cons m)) r ∧ ∀ m ∈ l, relM cons m ≤ l.foldl (fun r m => max r (relM cons m)) r
 | [], r => ⟨Int.le_refl _, fun m hm => by cases hm⟩
 | x :: l, r => by
   obtain ⟨h1, h2⟩ := max_ge cons l (max r (relM cons x))
   simp only [List.foldl_cons]
   refine ⟨by omega, fun m hm => ?_⟩
   rcases List.mem_cons.1 hm with rfl | hm
   · omega
   · exact h2 m hm
theorem dot_holds (w : Node → Int) (cons : List Con) (hh : ∀ c ∈ cons, holds w c) (hrel : ∀ c ∈ cons, c.conRel = 0 ∨ c.conRel = 1) : ∀ l : List Mult, (∀ m ∈ l, badM cons m = false) →
   dot (fval w) (l.map (fm cons)) (l.map (·.multCoef)) ≤ 0 ∧ ((∀ m ∈ l, relM cons m = 0) → dot (fval w) (l.map (fm cons)) (l.map (·.multCoef)) = 0)
 | [], _ => ⟨Int.le_refl _, fun _ => rfl⟩
 | m :: l, hb => by
   obtain ⟨h1, h2⟩ := dot_holds w cons hh hrel l fun k hk => hb k (by simp [hk])
   have hbm := hb m (by simp)
   simp only [badM, Bool.or_eq_false_iff, decide_eq_false_iff_not] at hbm
   have hlt : m.multIndex.toNat < cons.length := by have := hbm.1; have := hbm.2.1; omega
   have hget : cons.getD m.multIndex.toNat default = cons[m.multIndex.toNat] := by rw [List.getD_eq_getElem?_getD, List.getElem?_eq_getElem hlt]; rfl
   have hmem : cons.getD m.multIndex.toNat default ∈ cons := by rw [hget]; exact List.getElem_mem hlt
   have hc := hh _ hmem
   have ef : fval w (fm cons m) = fval w (cons.getD m.multIndex.toNat default).conForm := rfl
   simp only [List.map_cons, dot]
   rcases hrel _ hmem with hr | hr
   · have hz := hc.1 hr
     rw [ef, hz, Int.mul_zero]
     exact ⟨by omega, fun h => by rw [h2 fun k hk => h k (by simp [hk])]; rfl⟩
   · have hz := hc.2 hr
     have hcf := hbm.2.2
     have hne : m.multCoef ≠ 0 := by have := hcf.1; exact beq_eq_false_iff_ne.1 this
     have hpos : 0 < m.multCoef := by
       have h3 := hcf.2
       have e : ((cons.getD m.multIndex.toNat default).conRel == 1) = true := beq_iff_eq.2 hr
       rw [e, Bool.and_true, decide_eq_false_iff_not] at h3
       omega
     have h4 : m.multCoef * fval w (fm cons m) ≤ 0 := by
       rw [ef]; exact Int.mul_nonpos_of_nonneg_of_nonpos (Int.le_of_lt hpos) hz
     refine ⟨by omega, fun h => ?_⟩
     have h5 : relM cons m = 0 := h m (by simp)
     have h6 : relM cons m = 1 := hr
     omega
theorem step_sound (N : Nat) (hN : Rg N) (pool : List Node) (hpl : pool.length ≤ 2000) (cons : List Con) (s : List Mult) (hc : ∀ c ∈ cons, OkCon pool c) (hs : s.length ≤ 300) (hI : ∀ m ∈ s, I64 m.multCoef) :
   (∃ c e, F1010 N cons s = some (c, e) ∧ e ≠ 0) ∨ (∃ c, F1010 N cons s = some (c, 0) ∧ OkCon pool c ∧ ∀ w, (∀ c ∈ cons, holds w c) → holds w c) := by
 have hrel : ∀ c ∈ cons, c.conRel = 0 ∨ c.conRel = 1 := fun c h => by
   have := (hc c h).val
   simp only [validC, Bool.and_eq_true, Bool.or_eq_true, beq_iff_eq] at this
   exact this.1
 have l10 : F1010 N cons s = bif s.any (badM cons) then some (zC, 1) else F1010_f1 N cons s (s.foldl (fun r m => max r (relM cons m)) 0) := loop1010 cons _ s N 0 0 (by omega)
 cases hbad : s.any (badM cons) with
 | true =>
   rw [hbad] at l10
   exact .inl ⟨_, _, l10, by decide⟩
 | false =>
   rw [hbad] at l10
   simp only [cond_false] at l10
   by_cases hs0 : s = []
   · subst hs0
     exact .inl ⟨zC, 1, by rw [l10]; rfl, by decide⟩
   · have hpos : 0 < s.length := List.length_pos_iff.2 hs0
     have hnb : ∀ m ∈ s, badM cons m = false := fun m hm => by
       cases h : badM cons m with
       | false => rfl
       | true =>
         have : s.any (badM cons) = true := List.any_eq_true.2 ⟨m, hm, h⟩
         rw [hbad] at this; cases this
     obtain ⟨ok, S, d, ⟨r, t1, t2, t3⟩, hS, hSl, hSa, hSf, hSw⟩ := total_prog N hN pool hpl cons s hc (fun m hm => by
         have := hnb m hm
         simp only [badM, Bool.or_eq_false_iff, decide_eq_false_iff_not] at this
         exact ⟨by have := this.1; omega, by have := this.2.1; omega, hI m hm⟩) hs
     have e0 : ((s.length : Int) == 0) = false := beq_eq_false_iff_ne.2 (by omega)
     have hmax := max_ge cons s 0
     have h01 : ∀ (l : List Mult) (r : Int), (∀ m ∈ l, m ∈ s) → (r = 0 ∨ r = 1) → (l.foldl (fun r m => max r (relM cons m)) r = 0 ∨ l.foldl (fun r m => max r (relM cons m)) r = 1) := by
       intro l
       induction l with
       | nil => exact fun _ _ h => h
       | cons m l ih =>
         intro r hl hr
         have hbm := hnb m (hl m (by simp))
         simp only [badM, Bool.or_eq_false_iff, decide_eq_false_iff_not] at hbm
         have hlt : m.multIndex.toNat < cons.length := by have := hbm.1; have := hbm.2.1; omega
         have hmem : cons.getD m.multIndex.toNat default ∈ cons := by
           rw [List.getD_eq_getElem?_getD, List.getElem?_eq_getElem hlt]; exact List.getElem_mem hlt
         refine ih _ (fun x hx => hl x (by simp [hx])) ?_
         show max r (relM cons m) = 0 ∨ max r (relM cons m) = 1
         rcases hrel _ hmem with h | h <;> rcases hr with h2 | h2 <;> (rw [relM, h, h2]; decide)
     obtain ⟨rel, hrel2⟩ : ∃ rel, rel = s.foldl (fun r m => max r (relM cons m)) 0 := ⟨_, rfl⟩
     have hr01 : rel = 0 ∨ rel = 1 := by rw [hrel2]; exact h01 s 0 (fun _ h => h) (.inl rfl)
     rw [← hrel2] at l10 hmax
     cases ok with
     | false => exact .inl ⟨zC, 2, by rw [l10]; simp only [F1010_f1, e0, iteO_false, t1, bindO_some, t2]; rfl, by decide⟩
     | true =>
       have hSf := hSf rfl
       have hnzm : ∀ m ∈ nz S, m ∈ S := fun m hm => (List.mem_filter.1 hm).1
       have hgood : Good (⟨nz S, d⟩ : Lin) := ⟨by have := List.length_filter_le (fun m : Mono => !(m.monoCoef == 0)) S; simp only [nz]; omega, fun m hm => (hSa m (hnzm m hm)).1⟩
       have hok : Ok ⟨⟨nz S, d⟩, rel⟩ := ⟨hgood, fun m hm => ⟨hSf.1 m (hnzm m hm), nz_ne m hm, (hSa m (hnzm m hm)).2.1⟩, hSf.2⟩
       have hval : validC ⟨⟨nz S, d⟩, rel⟩ = true := by
         simp only [validC, validB, Bool.and_eq_true, Bool.or_eq_true, beq_iff_eq]
         exact ⟨hr01, valid_of _ none (nz_srt hS) hok.2.1 (fun _ h => by cases h), hSf.2⟩
       obtain ⟨rg1, rg2⟩ := round_ok _ hok hval
       have f10 : F1010 N cons s = some (roundR ⟨⟨nz S, d⟩, rel⟩, 0) := by
         rw [l10]; simp only [F1010_f1, e0, iteO_false, t1, bindO_some, t2, iteO_true, t3 rfl, round108 N _ hN hok]
       refine .inr ⟨_, f10, ⟨rg1, rg2, round_mem _ fun m hm => (hSa m (hnzm m hm)).2.2⟩, fun w hh => round_holds w _ hok hr01 ?_⟩
       obtain ⟨d1, d2⟩ := dot_holds w cons hh hrel s hnb
       have ev : fval w (⟨nz S, d⟩ : Lin) = dot (fval w) (s.map (fm cons)) (s.map (·.multCoef)) := by rw [← hSw w, fval, lsum_nz]
       refine ⟨fun h0 => ?_, fun _ => by show fval w (⟨nz S, d⟩ : Lin) ≤ 0; omega⟩
       have h0 : rel = 0 := h0
       show fval w (⟨nz S, d⟩ : Lin) = 0
       rw [ev]
       refine d2 fun m hm => ?_
       have h3 := hmax.2 m hm
       have hbm := hnb m hm
       simp only [badM, Bool.or_eq_false_iff, decide_eq_false_iff_not] at hbm
       have hlt : m.multIndex.toNat < cons.length := by have := hbm.1; have := hbm.2.1; omega
       have hmem : cons.getD m.multIndex.toNat default ∈ cons := by
         rw [List.getD_eq_getElem?_getD, List.getElem?_eq_getElem hlt]; exact List.getElem_mem hlt
       rcases hrel _ hmem with h | h
       · exact h
       · have h6 : relM cons m = 1 := h
         omega
theorem contra_sound (N : Nat) (c : Con) (hN : Rg N) (hg : Good c.conForm) : ∃ b, F59 N c = some b ∧ (b = true → ∀ w, ¬ holds w c) := by
 simp only [F59, valid107 N c hN hg, bindO_some]
 cases validC c with
 | false => exact ⟨_, rfl, fun h => by cases h⟩
 | true =>
   simp only [iteO_true]
   by_cases hl : (c.conForm.linMonos.length : Int) > 0
   · rw [decide_eq_true hl]; exact ⟨_, rfl, fun h => by cases h⟩
   · rw [decide_eq_false hl, iteO_false]
     have e : c.conForm.linMonos = [] := List.length_eq_zero_iff.1 (by omega)
     have ev : ∀ w, fval w c.conForm = c.conForm.linConst := fun w => by rw [fval, e]; simp [lsum]
     have p1 : ∃ b, iteO (c.conRel == 1) (some (decide (c.conForm.linConst > 0))) (some false) = some b ∧ (b = true → ∀ w, ¬ holds w c) := by
       cases hr : c.conRel == 1 with
       | false => exact ⟨_, rfl, fun h => by cases h⟩
       | true =>
         refine ⟨_, rfl, fun h w hh => ?_⟩
         have h1 := hh.2 (beq_iff_eq.1 hr)
         rw [ev] at h1
         have := of_decide_eq_true h
         omega
     cases hr : c.conRel == 0 with
     | false => exact p1
     | true =>
       cases hz : c.conForm.linConst == 0 with
       | true => exact p1
       | false =>
         refine ⟨_, rfl, fun _ w hh => ?_⟩
         have h1 := hh.1 (beq_iff_eq.1 hr)
         rw [ev] at h1
         exact beq_eq_false_iff_ne.1 hz h1
end Go.Abs.Try
namespace Go.Abs.Try
set_option maxRecDepth 100000
mutual
def wgt : Deriv → Nat
  | ⟨st, _, f, ks⟩ => f.linMonos.length + (st.map fun s => s.length + 1).sum + wgtL ks
def wgtL : List Deriv → Nat
  | [] => 0
  | k :: ks => (wgt k + 1) + wgtL ks
end
theorem wgtL_eq : ∀ l : List Deriv, wgtL l = (l.map fun k => wgt k + 1).sum
 | [] => by simp only [wgtL, List.map_nil, List.sum_nil]
 | k :: ks => by simp only [wgtL, List.map_cons, List.sum_cons, wgtL_eq ks]
theorem wgt_eq (d : Deriv) : wgt d = d.derivForm.linMonos.length + (d.derivSteps.map fun s => s.length + 1).sum + (d.derivKids.map fun k => wgt k + 1).sum := by
 cases d; simp only [wgt, wgtL_eq]
mutual
def ht : Deriv → Nat
  | ⟨_, _, _, ks⟩ => htL ks + 1
def htL : List Deriv → Nat
  | [] => 0
  | k :: ks => max (ht k) (htL ks)
end
theorem ht_eq (d : Deriv) : ht d = htL d.derivKids + 1 := by cases d; simp only [ht]
theorem ht_mem {k : Deriv} : ∀ {l : List Deriv}, k ∈ l → ht k ≤ htL l
 | x :: l, h => by
   simp only [htL]
   rcases List.mem_cons.1 h with rfl | h
   · omega
   · have := ht_mem h; omega
inductive Her (P : Deriv → Prop) : Deriv → Prop
 | mk (d : Deriv) (h : P d) (hk : ∀ k ∈ d.derivKids, Her P k) : Her P d
theorem Her.own {P : Deriv → Prop} {d : Deriv} (h : Her P d) : P d := by cases h; assumption
theorem Her.kid {P : Deriv → Prop} {d : Deriv} (h : Her P d) {k : Deriv} (hk : k ∈ d.derivKids) : Her P k := by cases h with | mk _ _ h => exact h k hk
theorem sum_mem {α : Type} {f : α → Nat} {x : α} : ∀ {l : List α}, x ∈ l → f x ≤ (l.map f).sum
 | y :: l, h => by
   rcases List.mem_cons.1 h with rfl | h
   · simp
   · have := sum_mem (f := f) h; simp only [List.map_cons, List.sum_cons]; omega
theorem sum_len {α : Type} {f : α → Nat} : ∀ l : List α, l.length ≤ (l.map fun x => f x + 1).sum
 | [] => by simp
 | y :: l => by have := sum_len (f := f) l; simp only [List.map_cons, List.sum_cons, List.length_cons]; omega
theorem wgt_kid {d k : Deriv} (h : k ∈ d.derivKids) : wgt k + 1 ≤ wgt d := by
 have := sum_mem (f := fun k => wgt k + 1) h
 rw [wgt_eq d]; omega
theorem ht_kid {d k : Deriv} (h : k ∈ d.derivKids) : ht k < ht d := by rw [ht_eq d]; have := ht_mem h; omega
theorem dkids_len (d : Deriv) : d.derivKids.length ≤ wgt d := by
 have := sum_len (f := wgt) d.derivKids
 rw [wgt_eq d]; omega
theorem dsteps_len (d : Deriv) : d.derivSteps.length ≤ wgt d := by
 have := sum_len (f := List.length) d.derivSteps
 rw [wgt_eq d]; omega
theorem wrapN (n : Nat) (h : n ≤ 1152921504606846976) : IntKind.i64.wrap (n : Int) = (n : Int) := wrap_id (by omega)
theorem foldN_sum {α R : Type} (f : α → Nat) (step : Int → Nat → α → Option (Sum Int R)) (fin : Int → Option R) : ∀ (l : List α) (M i s : Nat), l.length < M → s + (l.map f).sum ≤ 1152921504606846976 →
   (∀ x ∈ l, ∀ (s i : Nat), s + f x ≤ 1152921504606846976 → step (s : Int) i x = some (.inl ((s + f x : Nat) : Int))) → foldN step fin M l i (s : Int) = fin ((s + (l.map f).sum : Nat) : Int)
 | [], M, i, s, hM, _, _ => by
   obtain ⟨K, rfl⟩ : ∃ K, M = K + 1 := ⟨M - 1, by simp at hM; omega⟩
   rfl
 | x :: l, M, i, s, hM, hb, h => by
   obtain ⟨K, rfl⟩ : ∃ K, M = K + 1 := ⟨M - 1, by simp at hM; omega⟩
   simp only [List.map_cons, List.sum_cons] at hb
   have h1 := h x (by simp) s i (by omega)
   have ih := foldN_sum f step fin l K (i + 1) (s + f x) (by simp at hM; omega) (by omega) fun y hy => h y (by simp [hy])
   have e : s + ((x :: l).map f).sum = s + f x + (l.map f).sum := by simp only [List.map_cons, List.sum_cons]; omega
   rw [e, ← ih]
   simp only [foldN, h1, bindO_some]
theorem foldN_some {S α R : Type} (step : S → Nat → α → Option (Sum S R)) (fin : S → Option R) (I : List α → S → Prop) (Q : R → Prop) (hf : ∀ s, I [] s → ∃ r, fin s = some r ∧ Q r)
   (hs : ∀ x l s i, I (x :: l) s → (∃ s', step s i x = some (.inl s') ∧ I l s') ∨ ∃ r, step s i x = some (.inr r) ∧ Q r) : ∀ (l : List α) (M i : Nat) (s : S), l.length < M → I l s → ∃ r, foldN step fin M l i s = some r ∧ Q r
 | [], M, i, s, hM, hI => by
   obtain ⟨K, rfl⟩ : ∃ K, M = K + 1 := ⟨M - 1, by simp at hM; omega⟩
   exact hf s hI
 | x :: l, M, i, s, hM, hI => by
   obtain ⟨K, rfl⟩ : ∃ K, M = K + 1 := ⟨M - 1, by simp at hM; omega⟩
   rcases hs x l s i hI with ⟨s', h1, h2⟩ | ⟨r, h1, h2⟩
   · obtain ⟨r, h3, h4⟩ := foldN_some step fin I Q hf hs l K (i + 1) s' (by simp at hM; omega) h2
     exact ⟨r, by simp only [foldN, h1, bindO_some]; exact h3, h4⟩
   · exact ⟨r, by simp only [foldN, h1, bindO_some], h2⟩
theorem wgt1006 : ∀ (N : Nat) (d : Deriv), wgt d ≤ 1152921504606846976 → 1152921504606846976 + ht d < N → F1006 N d = some (wgt d : Int)
 | 0, _, _, h => by omega
 | N + 1, d, hw, hN => by
   have hk := dkids_len d
   have hs := dsteps_len d
   have hh : 1 ≤ ht d := by rw [ht_eq d]; omega
   have he := wgt_eq d
   have h1 := foldN_sum (R := Int) (fun s : List Mult => s.length + 1) F1006_s1 (F1006_f1 (F1006 N) N d) d.derivSteps N 0 d.derivForm.linMonos.length (by omega) (by omega) fun x hx s i hb => by
     have e : (x.length : Int) + 1 = ((x.length + 1 : Nat) : Int) := rfl
     simp only [F1006_s1, e, wrapN (x.length + 1) (by omega), ← Int.natCast_add]
     rw [wrapN _ (by omega)]
   have h2 := foldN_sum (R := Int) (fun k => wgt k + 1) (F1006_s2 (F1006 N)) F1006_f2 d.derivKids N 0 (d.derivForm.linMonos.length + (d.derivSteps.map fun s => s.length + 1).sum) (by omega) (by omega) fun x hx s i hb => by
     have hx1 := wgt_kid hx
     have hx2 := ht_kid hx
     have e : (wgt x : Int) + 1 = ((wgt x + 1 : Nat) : Int) := rfl
     simp only [F1006_s2, wgt1006 N x (by omega) (by omega), bindO_some, e, wrapN (wgt x + 1) (by omega), ← Int.natCast_add]
     rw [wrapN _ (by omega)]
   show foldN F1006_s1 (F1006_f1 (F1006 N) N d) N d.derivSteps 0 (d.derivForm.linMonos.length : Int) = _
   rw [h1]
   show foldN (F1006_s2 (F1006 N)) F1006_f2 N d.derivKids 0 _ = _
   rw [h2, he]; rfl
theorem weight1014 : ∀ (N : Nat) (d : Deriv) (lv : Nat), wgt d ≤ 1000 → 4611686018400000000 + ht d ≤ N → lv + ht d ≤ 4000000 → ∃ c q : Nat, F1014 N d (lv : Int) = some ((c : Int), (q : Int)) ∧ c ≤ wgt d + 1 ∧ (60 < q ↔ 60 + 1 < lv + ht d) ∧ q ≤ 4000000
 | 0, _, _, _, h, _ => by omega
 | N + 1, d, lv, hw, hN, hl => by
   have hk := dkids_len d
   have he := wgt_eq d
   have hte := ht_eq d
   have hsl := sum_len (f := List.length) d.derivSteps
   have key : ∀ (step : Int × Int → Nat → Deriv → Option (Sum (Int × Int) (Int × Int))) (fin : Int × Int → Option (Int × Int)),
       (∀ s i x, step s i x = bindO (F1014 N x (IntKind.i64.wrap ((lv : Int) + 1))) fun r4 => iteO (decide ((IntKind.i64.wrap (s.1 + r4.1)) > 2000)) (some (.inr (IntKind.i64.wrap (s.1 + r4.1), max s.2 r4.2))) (iteO (decide ((max s.2 r4.2) > 60)) (some (.inr (IntKind.i64.wrap (s.1 + r4.1), max s.2 r4.2))) (some (.inl (IntKind.i64.wrap (s.1 + r4.1), max s.2 r4.2))))) →
       (∀ s, fin s = some (s.1, s.2)) → ∀ (l : List Deriv) (M i c q : Nat), l.length < M → c + (l.map fun k => wgt k + 1).sum ≤ 1001 → q ≤ 60 → (∀ k ∈ l, k ∈ d.derivKids) →
       ∃ c' q' : Nat, foldN step fin M l i ((c : Int), (q : Int)) = some ((c' : Int), (q' : Int)) ∧ c' ≤ c + (l.map fun k => wgt k + 1).sum ∧ (60 < q' ↔ 60 < lv + htL l ∧ l ≠ []) ∧ q' ≤ 4000000 := by
     intro step fin hst hfin l
     induction l with
     | nil =>
       intro M i c q hM _ hq _
       obtain ⟨K, rfl⟩ : ∃ K, M = K + 1 := ⟨M - 1, by simp at hM; omega⟩
       exact ⟨c, q, hfin _, by simp, ⟨fun h => by omega, fun h => absurd rfl h.2⟩, by omega⟩
     | cons x l ih =>
       intro M i c q hM h2 hq hI
       obtain ⟨K, rfl⟩ : ∃ K, M = K + 1 := ⟨M - 1, by simp at hM; omega⟩
       have hx := hI x (by simp)
       have hx1 := wgt_kid hx
       have hx2 := ht_kid hx
       simp only [List.map_cons, List.sum_cons] at h2
       obtain ⟨c1, q1, f1, f2, f3, f4⟩ := weight1014 N x (lv + 1) (by omega) (by omega) (by omega)
       have e1 : IntKind.i64.wrap ((lv : Int) + 1) = ((lv + 1 : Nat) : Int) := wrapN (lv + 1) (by omega)
       have e2 : IntKind.i64.wrap ((c : Int) + (c1 : Int)) = ((c + c1 : Nat) : Int) := by rw [← Int.natCast_add, wrapN _ (by omega)]
       have e3 : max (q : Int) (q1 : Int) = ((max q q1 : Nat) : Int) := by omega
       have e4 : decide (((c + c1 : Nat) : Int) > 2000) = false := decide_eq_false (by omega)
       have hst' := hst ((c : Int), (q : Int)) i x
       rw [e1, f1] at hst'
       simp only [bindO_some, e2, e3, e4, iteO_false] at hst'
       have hh : htL (x :: l) = max (ht x) (htL l) := by simp only [htL]
       by_cases hb : q1 ≤ 60
       · have e5 : decide (((max q q1 : Nat) : Int) > 60) = false := decide_eq_false (by omega)
         rw [e5, iteO_false] at hst'
         obtain ⟨c', q', i1, i2, i3, i4⟩ := ih K (i + 1) (c + c1) (max q q1) (by simp at hM; omega) (by omega) (by omega) fun k hk => hI k (by simp [hk])
         refine ⟨c', q', by simp only [foldN, hst', bindO_some]; exact i1, by simp only [List.map_cons, List.sum_cons]; omega, ?_, i4⟩
         rw [i3, hh]
         have hx3 : ¬ 60 + 1 < lv + 1 + ht x := fun h => by have := f3.2 h; omega
         constructor
         · rintro ⟨a, b⟩; exact ⟨by omega, by simp⟩
         · rintro ⟨a, b⟩
           have hlt : 60 < lv + htL l := by omega
           refine ⟨hlt, fun e => ?_⟩
           subst e
           have h0 : 1 ≤ ht x := by rw [ht_eq x]; omega
           simp only [htL] at hlt; omega
       · have e5 : decide (((max q q1 : Nat) : Int) > 60) = true := decide_eq_true (by omega)
         rw [e5, iteO_true] at hst'
         refine ⟨c + c1, max q q1, by simp only [foldN, hst', bindO_some], by simp only [List.map_cons, List.sum_cons]; omega, ?_, by omega⟩
         have := f3.1 (by omega)
         exact ⟨fun _ => ⟨by omega, by simp⟩, fun _ => by omega⟩
   have hz : htL d.derivKids = 0 ↔ d.derivKids = [] := by
     cases d.derivKids with
     | nil => simp [htL]
     | cons x l => have h0 : 1 ≤ ht x := by rw [ht_eq x]; omega
                   simp only [htL]; constructor
                   · intro h; omega
                   · intro h; cases h
   have fin' : ∀ (b : Option (Int × Int)) (c0 : Nat), c0 + (d.derivKids.map fun k => wgt k + 1).sum ≤ wgt d + 1 → (lv ≤ 60 → ∃ c' q' : Nat, b = some ((c' : Int), (q' : Int)) ∧ c' ≤ c0 + (d.derivKids.map fun k => wgt k + 1).sum ∧ (60 < q' ↔ 60 < lv + htL d.derivKids ∧ d.derivKids ≠ []) ∧ q' ≤ 4000000) →
       ∃ c q : Nat, iteO (decide ((lv : Int) > 60)) (some ((c0 : Int), (lv : Int))) (iteO (decide ((c0 : Int) > 2000)) (some ((c0 : Int), (lv : Int))) b) = some ((c : Int), (q : Int)) ∧ c ≤ wgt d + 1 ∧ (60 < q ↔ 60 + 1 < lv + ht d) ∧ q ≤ 4000000 := by
     intro b c0 hc0 hb
     by_cases hlv : lv ≤ 60
     · have e5 : decide ((lv : Int) > 60) = false := decide_eq_false (by omega)
       have e6 : decide ((c0 : Int) > 2000) = false := decide_eq_false (by omega)
       obtain ⟨c', q', h1, h2, h3, h4⟩ := hb hlv
       refine ⟨c', q', by rw [e5, e6, iteO_false, iteO_false, h1], by omega, ?_, h4⟩
       rw [h3, hte]
       constructor
       · rintro ⟨a, b⟩; omega
       · intro a
         refine ⟨by omega, fun e => ?_⟩
         have := hz.2 e
         omega
     · have e5 : decide ((lv : Int) > 60) = true := decide_eq_true (by omega)
       exact ⟨c0, lv, by rw [e5, iteO_true], by omega, by omega, by omega⟩
   show ∃ c q : Nat, F1014b (F1014 N) N d (lv : Int) = some ((c : Int), (q : Int)) ∧ _
   cases hsp : d.derivSplit with
   | true =>
     have e : IntKind.i64.wrap ((d.derivSteps.length : Int) + 1) = ((d.derivSteps.length + 1 : Nat) : Int) := wrapN (d.derivSteps.length + 1) (by omega)
     simp only [F1014b, hsp, iteO_true, e]
     exact fin' _ (d.derivSteps.length + 1) (by omega) fun hlv => key (F1014_s1 (F1014 N) (lv : Int)) F1014_f1 (fun _ _ _ => rfl) (fun _ => rfl) d.derivKids N 0 (d.derivSteps.length + 1) lv (by omega) (by omega) hlv fun _ h => h
   | false =>
     simp only [F1014b, hsp, iteO_false]
     exact fin' _ d.derivSteps.length (by omega) fun hlv => key (F1014_s2 (F1014 N) (lv : Int)) F1014_f2 (fun _ _ _ => rfl) (fun _ => rfl) d.derivKids N 0 d.derivSteps.length lv (by omega) (by omega) hlv fun _ h => h
end Go.Abs.Try
namespace Go.Abs.Try
set_option maxRecDepth 100000
structure DOk (pool : List Node) (d : Deriv) : Prop where
 good : Good d.derivForm
 mem : ∀ m ∈ d.derivForm.linMonos, m.monoAtom ∈ pool
 i64 : ∀ s ∈ d.derivSteps, ∀ m ∈ s, I64 m.multCoef
mutual
def poolD : Deriv → List Node
  | ⟨_, _, f, ks⟩ => f.linMonos.map (·.monoAtom) ++ poolL ks
def poolL : List Deriv → List Node
  | [] => []
  | k :: ks => poolD k ++ poolL ks
end
theorem poolD_eq (d : Deriv) : poolD d = d.derivForm.linMonos.map (·.monoAtom) ++ poolL d.derivKids := by cases d; simp only [poolD]
mutual
theorem poolD_len : ∀ d : Deriv, (poolD d).length ≤ wgt d
  | ⟨_, _, f, ks⟩ => by
    have := poolL_len ks
    simp only [poolD, wgt, List.length_append, List.length_map]; omega
theorem poolL_len : ∀ l : List Deriv, (poolL l).length ≤ wgtL l
  | [] => by simp [poolL]
  | k :: ks => by
    have h1 := poolD_len k
    have h2 := poolL_len ks
    simp only [poolL, wgtL, List.length_append]; omega
end
theorem poolL_mem {k : Deriv} {a : Node} (ha : a ∈ poolD k) : ∀ {l : List Deriv}, k ∈ l → a ∈ poolL l
 | x :: l, h => by
   simp only [poolL, List.mem_append]
   rcases List.mem_cons.1 h with rfl | h
   · exact .inl ha
   · exact .inr (poolL_mem ha h)
structure DIn (d : Deriv) : Prop where
 good : Good d.derivForm
 i64 : ∀ s ∈ d.derivSteps, ∀ m ∈ s, I64 m.multCoef
theorem her_pool {pool : List Node} {d : Deriv} (h : Her DIn d) : (∀ a ∈ poolD d, a ∈ pool) → Her (DOk pool) d := by
 induction h with
 | mk d h hk ih =>
   intro hp
   rw [poolD_eq] at hp
   exact .mk d ⟨h.good, fun m hm => hp _ (by simp only [List.mem_append, List.mem_map]; exact .inl ⟨m, hm, rfl⟩), h.i64⟩ fun k hk' => ih k hk' fun a ha => hp a (by simp only [List.mem_append]; exact .inr (poolL_mem ha hk'))
mutual
theorem ht_wgt : ∀ d : Deriv, ht d ≤ wgt d + 1
  | ⟨_, _, f, ks⟩ => by have := htL_wgt ks; simp only [ht, wgt]; omega
theorem htL_wgt : ∀ l : List Deriv, htL l ≤ wgtL l
  | [] => by simp [htL]
  | k :: ks => by have h1 := ht_wgt k; have h2 := htL_wgt ks; simp only [htL, wgtL]; omega
end
end Go.Abs.Try
namespace Go.Abs.Try
set_option maxRecDepth 100000
def ngM (f : Lin) : List Mono := f.linMonos.map fun m => ⟨(-1) * m.monoCoef, m.monoAtom⟩
theorem mrg_nil (p q : Int) (l : List Mono) : mrg p q l [] = l.map fun m => (⟨p * m.monoCoef, m.monoAtom⟩ : Mono) := by
 cases l <;> simp [mrg]
theorem fits_neg {x : Int} (h : fitsC x = true) : fitsC ((-1) * x) = true := by
 rw [fitsC_iff] at h ⊢; omega
theorem ng_ok {f : Lin} (h : ∀ m ∈ f.linMonos, fitsC m.monoCoef = true ∧ m.monoCoef ≠ 0 ∧ atomB m.monoAtom = true) : ∀ m ∈ ngM f, fitsC m.monoCoef = true ∧ m.monoCoef ≠ 0 ∧ atomB m.monoAtom = true := fun m hm => by
 obtain ⟨k, hk, rfl⟩ := List.mem_map.1 hm
 obtain ⟨a, b, c⟩ := h k hk
 exact ⟨fits_neg a, by show (-1) * k.monoCoef ≠ 0; omega, c⟩
theorem nz_id : ∀ {l : List Mono}, (∀ m ∈ l, m.monoCoef ≠ 0) → nz l = l
 | [], _ => rfl
 | m :: l, h => by
   have h0 : (m.monoCoef == 0) = false := beq_eq_false_iff_ne.2 (h m (by simp))
   have := nz_id fun k hk => h k (List.mem_cons_of_mem m hk)
   unfold nz at this ⊢
   simp only [List.filter_cons, h0, Bool.not_false, if_true, this]
theorem fits40 {n : Nat} (h : n ≤ 20000) : fits (n + 1) 40 = true := by
 simp only [fits, roomMax]; exact decide_eq_true (by omega)
theorem cut_all {α : Type} (l : List α) : cutL l 0 (l.length : Int) = l := by simp [cutL]
theorem inS_all (n : Nat) : inS 0 (n : Int) n = true := by simp only [inS]; exact decide_eq_true (by omega)
end Go.Abs.Try
namespace Go.Abs.Try
set_option maxRecDepth 100000
theorem neg_prog (N : Nat) (hN : Rg N) (f : Lin) (hg : Good f) (hv : validB f = true) : F88 N f ⟨[], 0⟩ (-1) 0 = some (⟨ngM f, (-1) * f.linConst⟩, true) := by
 simp only [validB, Bool.and_eq_true] at hv
 obtain ⟨hs, hm⟩ := srt_of _ none hv.1
 have hF := fitsC_F53 hv.2
 have hng := ng_ok hm
 have hI1 : I64 (-1) := ⟨by decide, by decide⟩
 have hI0 : I64 0 := ⟨by decide, by decide⟩
 have hgz : ∀ k : Int, Good (⟨[], k⟩ : Lin) := fun k => ⟨by simp, by simp⟩
 obtain ⟨r, h1, h2, h3⟩ := merge88 N f ⟨[], 0⟩ (-1) 0 hI1 hI0 (by omega) hg (hgz 0) (fun m hx => (hm m hx).1) (by simp) hF ⟨by decide, by decide⟩
 have em : mrg (-1) 0 f.linMonos [] = ngM f := mrg_nil _ _ _
 have eall : allW (ngM f) = true := List.all_eq_true.2 fun m hx => (hng m hx).1
 have enz : nz (ngM f) = ngM f := nz_id fun m hx => (hng m hx).2.1
 have e0 : (-1) * f.linConst + 0 * (0 : Int) = (-1) * f.linConst := by omega
 have efc : fitsW ((-1) * f.linConst) = true := fits_neg hv.2
 simp only [em, eall, e0, efc, Bool.and_self] at h2 h3
 have h3 := h3 h2
 rw [enz] at h3
 rw [h1, ← h3, ← h2]
def Unsat (cons : List Con) : Prop := ∀ w, ¬ ∀ c ∈ cons, holds w c
theorem refutes_sound : ∀ (N : Nat) (d : Deriv) (cons : List Con) (pool : List Node), Her (DOk pool) d → 4611686018400000000 + ht d ≤ N ∧ N ≤ 4611686018427387904 → wgt d ≤ 300 → pool.length ≤ 2000 → (∀ c ∈ cons, OkCon pool c) → cons.length + wgt d ≤ 5000 →
   ∃ b, F1387 N d cons = some b ∧ (b = true → Unsat cons)
 | 0, _, _, _, _, h, _, _, _, _ => by omega
 | N + 1, d, cons, pool, hd, hN, hw, hpl, hc, hcl => by
   have hkl := dkids_len d
   have hh : 1 ≤ ht d := by rw [ht_eq d]; omega
   have hNr : Rg N := ⟨by omega, by omega⟩
   have hsl := sum_len (f := List.length) d.derivSteps
   have he := wgt_eq d
   have hdo := hd.own
   show ∃ b, foldN (F1387_s1 N) (F1387_f1 (F1387 N) N d) N d.derivSteps 0 (cons, false) = some b ∧ (b = true → Unsat cons)
   refine foldN_some (F1387_s1 N) _ (fun l s => (∀ c ∈ s.1, OkCon pool c) ∧ s.1.length + l.length ≤ cons.length + d.derivSteps.length ∧ (∀ x ∈ l, x ∈ d.derivSteps) ∧ (∀ w, (∀ c ∈ cons, holds w c) → ∀ c ∈ s.1, holds w c) ∧ (s.2 = true → Unsat cons)) (fun b => b = true → Unsat cons) ?_ ?_ d.derivSteps N 0 (cons, false) (by omega) ⟨hc, by simp, fun _ h => h, fun _ h => h, fun h => by cases h⟩
   · rintro ⟨cs, k⟩ ⟨hcs, hlen, _, hsem, hk⟩
     simp only [List.length_nil, Nat.add_zero] at hcs hlen hsem hk
     have hv64 := valid64 N d.derivForm hNr hdo.good
     cases hsp : d.derivSplit with
     | true =>
       simp only [F1387_f1, hsp, iteO_true]
       by_cases h2 : d.derivKids.length = 2
       · have e2 : ((d.derivKids.length : Int) == 2) = true := beq_iff_eq.2 (by omega)
         simp only [e2, iteO_true, hv64, bindO_some]
         cases hvb : validB d.derivForm with
         | false => exact ⟨_, rfl, fun h => by cases h⟩
         | true =>
           obtain ⟨k0, k1, hkk⟩ : ∃ k0 k1, d.derivKids = [k0, k1] := by
             match hq : d.derivKids, h2 with
             | [a, b], _ => exact ⟨a, b, rfl⟩
           have m0 : k0 ∈ d.derivKids := by rw [hkk]; simp
           have m1 : k1 ∈ d.derivKids := by rw [hkk]; simp
           have w0 := wgt_kid m0; have w1 := wgt_kid m1
           have t0 := ht_kid m0; have t1 := ht_kid m1
           have ksum : (d.derivKids.map fun k => wgt k + 1).sum = (wgt k0 + 1) + (wgt k1 + 1) := by rw [hkk]; simp
           have n1 := neg_prog N hNr d.derivForm hdo.good hvb
           have a0 : atO d.derivKids 0 = some k0 := by rw [hkk]; rfl
           have a1 : atO d.derivKids 1 = some k1 := by rw [hkk]; rfl
           have hfc : fitsC d.derivForm.linConst = true := by simp only [validB, Bool.and_eq_true] at hvb; exact hvb.2
           have hfc2 := (fitsC_iff _).1 hfc
           have ewr : IntKind.i64.wrap ((-1) * d.derivForm.linConst + 1) = 1 - d.derivForm.linConst := by
             rw [wrap_id (by omega)]; omega
           obtain ⟨hs, hm⟩ := srt_of _ none (by simp only [validB, Bool.and_eq_true] at hvb; exact hvb.1)
           have ok0 : OkCon pool ⟨d.derivForm, 1⟩ := ⟨hdo.good, by simp only [validC, hvb]; rfl, hdo.mem⟩
           obtain ⟨b0, p0, q0⟩ := refutes_sound N k0 (cs ++ [⟨d.derivForm, 1⟩]) pool (hd.kid m0) (by omega) (by omega) hpl (fun c hx => by
             rcases List.mem_append.1 hx with hx | hx
             · exact hcs c hx
             · rw [List.mem_singleton.1 hx]; exact ok0) (by simp only [List.length_append, List.length_cons, List.length_nil]; omega)
           simp only [iteO_true, n1, bindO_some, ewr, fits112, inS_all, cut_all, fits40 (n := cs.length) (by omega), a0, a1]
           cases hf1 : fitsC (1 - d.derivForm.linConst) with
           | false => exact ⟨_, rfl, fun h => by cases h⟩
           | true =>
             have ok1 : OkCon pool ⟨⟨ngM d.derivForm, 1 - d.derivForm.linConst⟩, 1⟩ := by
               refine ⟨⟨by have := hdo.good.1; simpa [ngM] using this, fun m hx => ?_⟩, ?_, fun m hx => ?_⟩
               · obtain ⟨k, hk, rfl⟩ := List.mem_map.1 hx
                 exact hdo.good.2 k hk
               · have := valid_of (ngM d.derivForm) none (map_srt (-1) hs) (ng_ok hm) (fun _ h => by cases h)
                 simp only [validC, validB, this, hf1]; rfl
               · obtain ⟨k, hk, rfl⟩ := List.mem_map.1 hx
                 exact hdo.mem k hk
             obtain ⟨b1, p1, q1⟩ := refutes_sound N k1 (cs ++ [⟨⟨ngM d.derivForm, 1 - d.derivForm.linConst⟩, 1⟩]) pool (hd.kid m1) (by omega) (by omega) hpl (fun c hx => by
               rcases List.mem_append.1 hx with hx | hx
               · exact hcs c hx
               · rw [List.mem_singleton.1 hx]; exact ok1) (by simp only [List.length_append, List.length_cons, List.length_nil]; omega)
             simp only [iteO_true, p0, bindO_some]
             cases b0 with
             | false => exact ⟨_, rfl, fun h => by cases h⟩
             | true =>
               simp only [iteO_true, p1, bindO_some]
               refine ⟨b1, rfl, fun hb w hw => ?_⟩
               have hcw := hsem w hw
               by_cases hf : fval w d.derivForm ≤ 0
               · refine q0 rfl w fun c hx => ?_
                 rcases List.mem_append.1 hx with hx | hx
                 · exact hcw c hx
                 · rw [List.mem_singleton.1 hx]; exact ⟨fun h => absurd (show (1 : Int) = 0 from h) (by decide), fun _ => hf⟩
               · refine q1 hb w fun c hx => ?_
                 rcases List.mem_append.1 hx with hx | hx
                 · exact hcw c hx
                 · rw [List.mem_singleton.1 hx]
                   refine ⟨fun h => absurd (show (1 : Int) = 0 from h) (by decide), fun _ => ?_⟩
                   show lsum w (ngM d.derivForm) + (1 - d.derivForm.linConst) ≤ 0
                   have hf' : ¬ lsum w d.derivForm.linMonos + d.derivForm.linConst ≤ 0 := hf
                   rw [ngM, lsum_map]; omega
       · have e2 : ((d.derivKids.length : Int) == 2) = false := beq_eq_false_iff_ne.2 (by omega)
         simp only [e2, iteO_false]
         exact ⟨_, rfl, fun h => by cases h⟩
     | false =>
       simp only [F1387_f1, hsp, iteO_false]
       cases k with
       | true => cases hA : ((d.derivKids.length : Int) == 0) <;> cases hB : ((d.derivForm.linMonos.length : Int) == 0) <;> exact ⟨_, rfl, fun _ => hk rfl⟩
       | false => exact ⟨_, rfl, fun h => by cases h⟩
   · rintro x l ⟨cs, k⟩ i ⟨hcs, hlen, hmem, hsem, hk⟩
     simp only [List.length_cons] at hcs hlen hsem hk
     have hx := hmem x (by simp)
     have hxl := sum_mem (f := fun s : List Mult => s.length + 1) hx
     have hcl2 : cs.length ≤ 6000 := by omega
     rcases step_sound N hNr pool hpl cs x hcs (by omega) (hdo.i64 x hx) with ⟨c, e, f1, f2⟩ | ⟨c, f1, f4, f5⟩
     · have e0 : (e == 0) = false := beq_eq_false_iff_ne.2 f2
       exact .inr ⟨false, by simp only [F1387_s1, step1388, f1, bindO_some, e0, iteO_false], fun h => by cases h⟩
     · obtain ⟨b, g1, g2⟩ := contra_sound N c hNr f4.good
       have hI : ∀ k', (k' = true → Unsat cons) → (∀ c' ∈ ((cs ++ [c], k') : List Con × Bool).1, OkCon pool c') ∧ ((cs ++ [c], k') : List Con × Bool).1.length + l.length ≤ cons.length + d.derivSteps.length ∧ (∀ x ∈ l, x ∈ d.derivSteps) ∧ (∀ w, (∀ c ∈ cons, holds w c) → ∀ c' ∈ ((cs ++ [c], k') : List Con × Bool).1, holds w c') ∧ (((cs ++ [c], k') : List Con × Bool).2 = true → Unsat cons) := fun k' hk' => ⟨fun c' hx => by
           rcases List.mem_append.1 hx with hx | hx
           · exact hcs c' hx
           · rw [List.mem_singleton.1 hx]; exact f4, by simp only [List.length_append, List.length_cons, List.length_nil]; omega, fun y hy => hmem y (by simp [hy]), fun w hw c' hx => by
           rcases List.mem_append.1 hx with hx | hx
           · exact hsem w hw c' hx
           · rw [List.mem_singleton.1 hx]; exact f5 w (hsem w hw), hk'⟩
       cases k with
       | true => exact .inl ⟨(cs ++ [c], true), by simp only [F1387_s1, step1388, f1, bindO_some, beq_self_eq_true, iteO_true, fits40 (n := cs.length) (by omega)], hI true fun _ => hk rfl⟩
       | false => exact .inl ⟨(cs ++ [c], b), by simp only [F1387_s1, step1388, f1, bindO_some, beq_self_eq_true, iteO_true, iteO_false, g1, fits40 (n := cs.length) (by omega)], hI b fun hb w hw => g2 hb w (f5 w (hsem w hw))⟩
end Go.Abs.Try
