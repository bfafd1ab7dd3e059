import Derived.Test.YthgibjeclmkbpaaAbs24z
import Derived.Test.YthgibjeclmkbpaaAbs19ftoAbs24
import Derived.KernelRfl
set_option linter.unusedSimpArgs false
set_option linter.unusedVariables false
namespace Go.Abs
open Go.RowKit
variable {E : Env} {g : Ghost} {σ : Store} {w : World}
abbrev SSt := Fr × Store × Slots
noncomputable def stepS (E : Env) (ops : Array Oper) (D : List Nat) (i : Nat) (s : SSt) : Option SSt :=
 match ops[i]? with
 | none => some s
 | some o => stepSl E ops o s.1 s.2.1 s.2.2 (slotAct D o.dst o.op)
noncomputable def runS (E : Env) (ops : Array Oper) (D : List Nat) : List Nat → SSt → Option SSt
 | [], s => some s
 | i :: L, s => bindO (stepS E ops D i s) (runS E ops D L)
theorem opsSl_runS {ops : Array Oper} {D : List Nat} : ∀ (os : List Oper) (k : Nat) (fr : Fr) (σ : Store) (sl : Slots) (r : SSt), (∀ j, os[j]? = ops[k + j]?) → opsSl E ops D os fr σ sl = some r → runS E ops D (List.range' k os.length) (fr, σ, sl) = some r
 | [], _, _, _, _, _, _, h => h
 | o :: os, k, fr, σ, sl, r, hj, h => by
   obtain ⟨q, hq, h1⟩ := bindO_eq h
   have h0 := hj 0
   simp only [List.getElem?_cons_zero, Nat.add_zero] at h0
   have ih := opsSl_runS os (k + 1) q.1 q.2.1 q.2.2 r (fun j => by have := hj (j + 1); simp only [List.getElem?_cons_succ] at this; rw [this]; congr 1; omega) h1
   show bindO (stepS E ops D k (fr, σ, sl)) _ = _
   simp only [stepS, ← h0, hq, bindO_some]
   exact ih
def actOf (D : List Nat) (ops : Array Oper) (i : Nat) : SlotAct := match ops[i]? with
 | some o => slotAct D o.dst o.op
 | none => .no
def slotJ : SlotAct → Option Nat
 | .al j _ _ => some j
 | .st j _ _ _ => some j
 | .no => none
theorem stepS_no {ops : Array Oper} {D : List Nat} {i : Nat} (h : actOf D ops i = .no) (fr : Fr) (σ : Store) (sl : Slots) : stepS E ops D i (fr, σ, sl) = bindO (stepI E ops i (fr, σ)) fun q => some (q.1, q.2, sl) := by
 unfold stepS stepI
 unfold actOf at h
 cases ho : ops[i]? with
 | none => rfl
 | some o =>
   rw [ho] at h
   simp only at h ⊢
   rw [h]
   show bindO (wants ops fr o.guard) _ = bindO (bindO (wants ops fr o.guard) _) _
   cases wants ops fr o.guard with
   | none => rfl
   | some b =>
     cases b with
     | true => show bindO (aOp E fr σ o.type o.op) _ = bindO (bindO (aOp E fr σ o.type o.op) _) _; cases aOp E fr σ o.type o.op <;> rfl
     | false => rfl
def slotEff (E : Env) (fr : Fr) (sl : Slots) : SlotAct → Option Slots
 | .al j d t => slotNew E fr sl j d t
 | .st j d t v => slotPut E fr sl j d t (evalO fr v)
 | .no => none
theorem stepS_act {ops : Array Oper} {D : List Nat} {i : Nat} (h : actOf D ops i ≠ .no) (fr : Fr) (σ : Store) (sl : Slots) : stepS E ops D i (fr, σ, sl) = bindO (slotEff E fr sl (actOf D ops i)) fun s => some (fr, σ, s) := by
 unfold stepS
 unfold actOf at h ⊢
 cases ho : ops[i]? with
 | none => rw [ho] at h; exact absurd rfl h
 | some o =>
   rw [ho] at h
   simp only at h ⊢
   cases ha : slotAct D o.dst o.op with
   | no => exact absurd ha h
   | al j d t => rfl
   | st j d t v => rfl
theorem newIn_set {sl : Slots} {j k : Nat} {z : List AV} {v : Option (List AV)} (hjk : j ≠ k) : newIn (sl.set k v) j z (sl.set k v)[j]? = bindO (newIn sl j z sl[j]?) fun s => some (s.set k v) := by
 rw [List.getElem?_set_ne (Ne.symm hjk)]
 cases sl[j]? with
 | none => rfl
 | some o => cases o with
   | none => simp only [newIn, bindO_some]; rw [List.set_comm _ _ hjk]
   | some cs => rfl
theorem putIn_set {sl : Slots} {j k sz : Nat} {us : List AV} {v : Option (List AV)} (hjk : j ≠ k) : putIn (sl.set k v) j sz us (sl.set k v)[j]? = bindO (putIn sl j sz us sl[j]?) fun s => some (s.set k v) := by
 rw [List.getElem?_set_ne (Ne.symm hjk)]
 cases sl[j]? with
 | none => rfl
 | some o => cases o with
   | none => rfl
   | some cs =>
     simp only [putIn]
     cases decide (us.length = sz) && decide (us.length = cs.length) with
     | true => simp only [iteO_true, bindO_some]; rw [List.set_comm _ _ hjk]
     | false => rfl
theorem slotEff_set {fr : Fr} {sl s : Slots} {x : SlotAct} (h : slotEff E fr sl x = some s) : ∃ j v, slotJ x = some j ∧ s = sl.set j (some v) := by
 cases x with
 | al j d t =>
   obtain ⟨ti, _, h⟩ := bindO_eq h
   obtain ⟨_, _, h⟩ := bindO_eq h
   cases hs : sl[j]? with
   | none => rw [hs] at h; cases h
   | some o => cases o with
     | none => rw [hs] at h; injection h with h; exact ⟨j, ti.zero, rfl, h.symm⟩
     | some cs => rw [hs] at h; cases h
 | st j d t v =>
   obtain ⟨ti, _, h⟩ := bindO_eq h
   obtain ⟨us, _, h⟩ := bindO_eq h
   obtain ⟨_, _, h⟩ := bindO_eq h
   cases hs : sl[j]? with
   | none => rw [hs] at h; cases h
   | some o => cases o with
     | none => rw [hs] at h; cases h
     | some cs =>
       rw [hs] at h
       obtain ⟨_, h⟩ := iteO_none h
       injection h with h
       exact ⟨j, us, rfl, h.symm⟩
 | no => cases h
theorem slotEff_other {fr : Fr} {sl : Slots} {x : SlotAct} {k j : Nat} {v : Option (List AV)} (hj : slotJ x = some j) (hjk : j ≠ k) : slotEff E fr (sl.set k v) x = bindO (slotEff E fr sl x) fun s => some (s.set k v) := by
 cases x with
 | al j' d t =>
   injection hj with hj
   subst hj
   simp only [slotEff, slotNew]
   cases E.ty t with
   | none => rfl
   | some ti => simp only [bindO_some]; cases fr[d]? with
     | none => rfl
     | some _ => simp only [bindO_some]; exact newIn_set hjk
 | st j' d t o =>
   injection hj with hj
   subst hj
   simp only [slotEff, slotPut]
   cases E.ty t with
   | none => rfl
   | some ti => simp only [bindO_some]; cases cellsOf (evalO fr o) with
     | none => rfl
     | some us => simp only [bindO_some]; cases fr[d]? with
       | none => rfl
       | some _ => simp only [bindO_some]; exact putIn_set hjk
 | no => cases hj
theorem slotEff_fr {ops : Array Oper} {D : List Nat} {i : Nat} {o : Oper} (ho : ops[i]? = some o) {fr fr' : Fr} (hlen : ∀ d : Nat, (fr[d]?).isSome = (fr'[d]?).isSome) (h : ∀ t ∈ o.looksAt ops, fr.getD t .top = fr'.getD t .top) (sl : Slots) : slotEff E fr sl (actOf D ops i) = slotEff E fr' sl (actOf D ops i) := by
 have hget : ∀ (d : Nat) (X : Option Slots), bindO fr[d]? (fun _ => X) = bindO fr'[d]? fun _ => X := fun d X => by
   have := hlen d
   cases h1 : fr[d]? <;> cases h2 : fr'[d]? <;> rw [h1, h2] at this <;> first | rfl | cases this
 unfold actOf
 rw [ho]
 simp only
 obtain ⟨dst, op, ty, pos, aft, gd⟩ := o
 cases hx : slotAct D dst op with
 | no => rfl
 | al j d t => simp only [slotEff, slotNew, hget]
 | st j d t v =>
   have : evalO fr v = evalO fr' v := by
     refine evalO_same fun t' e => h t' ?_
     subst e
     cases dst with
     | some d' =>
       cases op <;> first | (cases hx; done) | skip
       rename_i t0
       simp only [slotAct] at hx
       cases hs : slotIx d' D 0 <;> rw [hs] at hx <;> cases hx
     | none =>
       cases op <;> first | (cases hx; done) | skip
       rename_i t0 a0 v0
       cases a0 <;> first | (cases hx; done) | skip
       rename_i d0
       simp only [slotAct] at hx
       cases hs : slotIx d0 D 0 <;> rw [hs] at hx <;> simp only [actSt] at hx <;> cases hx
       simp only [Oper.looksAt, List.mem_append, List.mem_filterMap]
       exact .inl ⟨.tmp t', by simp [Op.operands], rfl⟩
   simp only [slotEff, slotPut, this, hget]
theorem stepI_form {ops : Array Oper} {i : Nat} {y : Oper} (hy : ops[i]? = some y) {fr fr2 : Fr} {σ σ2 : Store} (h : stepI E ops i (fr, σ) = some (fr2, σ2)) : ∃ v, fr2 = setT fr y.dst v := by
 rw [stepI_eff hy] at h
 obtain ⟨p, _, h1⟩ := bindO_eq h
 obtain ⟨h2, _⟩ := pair_inj h1
 exact ⟨p.1, h2.symm⟩
theorem setT_some {fr : Fr} {d : Option Nat} {v : AV} (k : Nat) : ((setT fr d v)[k]?).isSome = (fr[k]?).isSome := by
 cases d with
 | none => rfl
 | some d =>
   simp only [setT]
   rw [Bool.eq_iff_iff]
   simp
def sPair (D : List Nat) (ops : Array Oper) (a i : Nat) : Bool :=
 match ops[a]?, ops[i]? with
 | some x, some y => x.apart ops y && (match slotJ (actOf D ops a), slotJ (actOf D ops i) with
   | some j, some k => decide (j ≠ k)
   | some _, none => true
   | none, some _ => true
   | none, none => false)
 | _, _ => false
theorem slotJ_no {x : SlotAct} : slotJ x = none ↔ x = .no := by cases x <;> simp [slotJ]
theorem comm_sPair {ops : Array Oper} {D : List Nat} {a i : Nat} (h : sPair D ops a i = true) {s s1 s2 : SSt} (h1 : stepS E ops D a s = some s1) (h2 : stepS E ops D i s1 = some s2) :
   ∃ s1', stepS E ops D i s = some s1' ∧ stepS E ops D a s1' = some s2 := by
 obtain ⟨fr, σ, sl⟩ := s
 unfold sPair at h
 cases hx : ops[a]? with
 | none => rw [hx] at h; cases h
 | some x =>
   cases hy : ops[i]? with
   | none => rw [hx, hy] at h; cases h
   | some y =>
     rw [hx, hy] at h
     simp only [Bool.and_eq_true] at h
     obtain ⟨hap, hk⟩ := h
     obtain ⟨ha1, ha2, ha3⟩ := Oper.apart_spec hap
     cases hja : slotJ (actOf D ops a) with
     | some j =>
       have hna : actOf D ops a ≠ .no := fun e => by rw [e] at hja; cases hja
       rw [stepS_act hna] at h1
       obtain ⟨sl1, he1, h1⟩ := bindO_eq h1
       injection h1 with h1
       subst h1
       obtain ⟨j', v, hj', rfl⟩ := slotEff_set he1
       rw [hja] at hj'
       injection hj' with hj'
       subst hj'
       cases hji : slotJ (actOf D ops i) with
       | some k =>
         have hni : actOf D ops i ≠ .no := fun e => by rw [e] at hji; cases hji
         rw [hja, hji] at hk
         have hjk : j ≠ k := of_decide_eq_true hk
         rw [stepS_act hni, slotEff_other hji (Ne.symm hjk)] at h2
         obtain ⟨sl2, he2, h2⟩ := bindO_eq h2
         obtain ⟨s', hs', he2⟩ := bindO_eq he2
         injection he2 with he2
         subst he2
         injection h2 with h2
         subst h2
         obtain ⟨k', u, hk', rfl⟩ := slotEff_set hs'
         rw [hji] at hk'
         injection hk' with hk'
         subst hk'
         refine ⟨(fr, σ, sl.set k (some u)), by rw [stepS_act hni, hs']; rfl, ?_⟩
         rw [stepS_act hna, slotEff_other hja hjk, he1]
         simp only [bindO_some]
         rw [List.set_comm _ _ hjk]
       | none =>
         have hni := slotJ_no.1 hji
         rw [stepS_no hni] at h2
         obtain ⟨q, hq, h2⟩ := bindO_eq h2
         injection h2 with h2
         subst h2
         obtain ⟨v', hfr⟩ := stepI_form hy (fr2 := q.1) (σ2 := q.2) hq
         refine ⟨(q.1, q.2, sl), by rw [stepS_no hni, hq]; rfl, ?_⟩
         have hs : slotEff E q.1 sl (actOf D ops a) = slotEff E fr sl (actOf D ops a) := slotEff_fr hx (fun d => by rw [hfr]; exact setT_some d) (fun t ht => by rw [hfr]; exact getD_set fun e => ha3 t e ht) sl
         rw [stepS_act hna, hs, he1]; rfl
     | none =>
       have hna := slotJ_no.1 hja
       cases hji : slotJ (actOf D ops i) with
       | none => rw [hja, hji] at hk; cases hk
       | some k =>
         have hni : actOf D ops i ≠ .no := fun e => by rw [e] at hji; cases hji
         rw [stepS_no hna] at h1
         obtain ⟨q, hq, h1⟩ := bindO_eq h1
         injection h1 with h1
         subst h1
         obtain ⟨v', hfr⟩ := stepI_form hx (fr2 := q.1) (σ2 := q.2) hq
         have hs : slotEff E q.1 sl (actOf D ops i) = slotEff E fr sl (actOf D ops i) := slotEff_fr hy (fun d => by rw [hfr]; exact setT_some d) (fun t ht => by rw [hfr]; exact getD_set fun e => ha1 t e ht) sl
         rw [stepS_act hni, hs] at h2
         obtain ⟨sl2, he2, h2⟩ := bindO_eq h2
         injection h2 with h2
         subst h2
         exact ⟨(fr, σ, sl2), by rw [stepS_act hni, he2]; rfl, by rw [stepS_no hna, hq]; rfl⟩
theorem stepS_get {ops : Array Oper} {D : List Nat} {i t : Nat} {s s' : SSt} (h : stepS E ops D i s = some s') (hd : ∀ o, ops[i]? = some o → o.dst ≠ some t) : s'.1.getD t .top = s.1.getD t .top := by
 obtain ⟨fr, σ, sl⟩ := s
 cases hj : slotJ (actOf D ops i) with
 | none =>
   rw [stepS_no (slotJ_no.1 hj)] at h
   obtain ⟨q, hq, h⟩ := bindO_eq h
   injection h with h
   subst h
   exact stepI_get hq hd
 | some k =>
   rw [stepS_act (fun e => by rw [e] at hj; cases hj)] at h
   obtain ⟨s2, _, h⟩ := bindO_eq h
   injection h with h
   subst h; rfl
theorem runS_get {ops : Array Oper} {D : List Nat} {t : Nat} : ∀ (L : List Nat) {s s' : SSt}, runS E ops D L s = some s' → (∀ i ∈ L, ∀ o, ops[i]? = some o → o.dst ≠ some t) → s'.1.getD t .top = s.1.getD t .top
 | [], s, s', h, _ => by injection h with h; subst h; rfl
 | i :: L, s, s', h, hd => by
   obtain ⟨s1, h1, h2⟩ := bindO_eq h
   rw [runS_get L h2 (fun j hj => hd j (by simp [hj])), stepS_get h1 (hd i (by simp))]
def sOk (pf gf : Nat → Bool) (l : List (Nat × Nat)) (D : List Nat) (ops : Array Oper) (A : List Nat) (a i : Nat) : Bool :=
 sPair D ops a i || ((slotJ (actOf D ops a)).isNone && (slotJ (actOf D ops i)).isNone && (pairOk pf ops a i || zPair l ops A a i || gPair gf l ops A a i))
theorem comm_sOk {pf gf : Nat → Bool} (hp : PureTab E pf) (hg : GrowTab E gf) {l : List (Nat × Nat)} {D : List Nat} {ops : Array Oper} {A : List Nat} {a i : Nat} (h : sOk pf gf l D ops A a i = true) {s s1 s2 : SSt} {frF : Fr}
   (get : ∀ t, noDstA ops A t a = true → frF.getD t .top = s.1.getD t .top) (hal : aliF l frF = true) (h1 : stepS E ops D a s = some s1) (h2 : stepS E ops D i s1 = some s2) : ∃ s1', stepS E ops D i s = some s1' ∧ stepS E ops D a s1' = some s2 := by
 unfold sOk at h
 rw [Bool.or_eq_true] at h
 rcases h with h | h
 · exact comm_sPair h h1 h2
 · simp only [Bool.and_eq_true, Option.isNone_iff_eq_none, Bool.or_eq_true] at h
   obtain ⟨⟨hja, hji⟩, hk⟩ := h
   have hna := slotJ_no.1 hja
   have hni := slotJ_no.1 hji
   obtain ⟨fr, σ, sl⟩ := s
   rw [stepS_no hna] at h1
   obtain ⟨q, hq, h1⟩ := bindO_eq h1
   injection h1 with h1
   subst h1
   rw [stepS_no hni] at h2
   obtain ⟨q2, hq2, h2⟩ := bindO_eq h2
   injection h2 with h2
   subst h2
   have hc : ∃ s1', stepI E ops i (fr, σ) = some s1' ∧ stepI E ops a s1' = some q2 := by
     rcases hk with (hk | hk) | hk
     · exact comm_step hp hk hq hq2
     · exact comm_stepZ' hk get hal hq hq2
     · exact comm_stepG' hg hk get hal hq hq2
   obtain ⟨q1, e1, e2⟩ := hc
   exact ⟨(q1.1, q1.2, sl), by rw [stepS_no hni, e1]; rfl, by rw [stepS_no hna, e2]; rfl⟩
theorem bubbleS {pf gf : Nat → Bool} (hp : PureTab E pf) (hg : GrowTab E gf) {l : List (Nat × Nat)} {D : List Nat} {ops : Array Oper} {i : Nat} {post : List Nat} {sF : SSt} {frF : Fr} (hal : aliF l frF = true) {A : List Nat}
   (hfin : ∀ t a, noDstA ops A t a = true → frF.getD t .top = sF.1.getD t .top) : ∀ (pre : List Nat) (s : SSt), (∀ a ∈ pre, sOk pf gf l D ops A a i = true) → (∀ j ∈ pre ++ i :: post, A.contains j = false) →
   (pre ++ i :: post).Pairwise (· < ·) → runS E ops D (pre ++ i :: post) s = some sF → ∃ s1, stepS E ops D i s = some s1 ∧ runS E ops D (pre ++ post) s1 = some sF
 | [], s, _, _, _, h => by
   obtain ⟨s1, h1, h2⟩ := bindO_eq h
   exact ⟨s1, h1, h2⟩
 | a :: pre, s, hc, hA, hs, h => by
   obtain ⟨s1, h1, h2⟩ := bindO_eq h
   have hs' := List.pairwise_cons.1 hs
   obtain ⟨s2, h3, h4⟩ := bubbleS hp hg hal hfin pre s1 (fun b hb => hc b (by simp [hb])) (fun j hj => hA j (List.mem_cons_of_mem _ hj)) hs'.2 h2
   obtain ⟨s3, h5, h6⟩ := comm_sOk hp hg (hc a (by simp)) (fun t ht => by
     rw [hfin t a ht]
     exact runS_get _ h fun j hj o ho => noDstA_spec ht (by
       rcases List.mem_cons.1 hj with rfl | hj
       · exact Nat.le_refl _
       · exact Nat.le_of_lt (hs'.1 j hj)) (hA j hj) ho) hal h1 h3
   exact ⟨s3, h5, by simp only [List.cons_append, runS, h6, bindO_some]; exact h4⟩
theorem slotIx_get {t : Nat} : ∀ {D : List Nat} {k j : Nat}, slotIx t D k = some j → k ≤ j ∧ D[j - k]? = some t
 | [], _, _, h => by cases h
 | d :: D, k, j, h => by
   simp only [slotIx] at h
   cases hd : decide (d = t) with
   | true =>
     rw [hd] at h
     injection h with h
     subst h
     have := of_decide_eq_true hd
     subst this
     exact ⟨Nat.le_refl _, by simp⟩
   | false =>
     rw [hd] at h
     obtain ⟨h1, h2⟩ := slotIx_get h
     refine ⟨by omega, ?_⟩
     obtain ⟨m, rfl⟩ : ∃ m, j = k + 1 + m := ⟨j - (k + 1), by omega⟩
     rw [show k + 1 + m - k = m + 1 by omega, List.getElem?_cons_succ]
     rw [show k + 1 + m - (k + 1) = m by omega] at h2
     exact h2
theorem act_al {ops : Array Oper} {D : List Nat} {i j d t : Nat} (h : actOf D ops i = .al j d t) : ∃ o, ops[i]? = some o ∧ o.dst = some d ∧ o.op = .alloc t ∧ D[j]? = some d := by
 unfold actOf at h
 cases ho : ops[i]? with
 | none => rw [ho] at h; cases h
 | some o =>
   rw [ho] at h
   obtain ⟨dst, op, ty, pos, aft, gd⟩ := o
   simp only at h
   cases dst with
   | none => cases op <;> first | (cases h; done) | skip
             rename_i t0 a0 v0
             cases a0 <;> first | (cases h; done) | skip
             rename_i d0
             simp only [slotAct] at h
             cases hs : slotIx d0 D 0 <;> rw [hs] at h <;> simp only [actSt] at h <;> cases h
   | some d' =>
     cases op <;> first | (cases h; done) | skip
     rename_i t0
     simp only [slotAct] at h
     cases hs : slotIx d' D 0 with
     | none => rw [hs] at h; cases h
     | some k =>
       rw [hs] at h
       simp only [actAl] at h
       injection h with h1 h2 h3
       subst h1; subst h2; subst h3
       exact ⟨_, rfl, rfl, rfl, (slotIx_get hs).2⟩
theorem act_st {ops : Array Oper} {D : List Nat} {i j d t : Nat} {v : Operand} (h : actOf D ops i = .st j d t v) : ∃ o, ops[i]? = some o ∧ o.dst = none ∧ o.op = .store t (.tmp d) v ∧ D[j]? = some d := by
 unfold actOf at h
 cases ho : ops[i]? with
 | none => rw [ho] at h; cases h
 | some o =>
   rw [ho] at h
   obtain ⟨dst, op, ty, pos, aft, gd⟩ := o
   simp only at h
   cases dst with
   | none =>
     cases op <;> first | (cases h; done) | skip
     rename_i t0 a0 v0
     cases a0 <;> first | (cases h; done) | skip
     rename_i d0
     simp only [slotAct] at h
     cases hs : slotIx d0 D 0 with
     | none => rw [hs] at h; cases h
     | some k =>
       rw [hs] at h
       simp only [actSt] at h
       injection h with h1 h2 h3 h4
       subst h1; subst h2; subst h3; subst h4
       exact ⟨_, rfl, rfl, rfl, (slotIx_get hs).2⟩
   | some d' =>
     cases op <;> first | (cases h; done) | skip
     rename_i t0
     simp only [slotAct] at h
     cases hs : slotIx d' D 0 <;> rw [hs] at h <;> simp only [actAl] at h <;> cases h
structure SJ (g0 g : Ghost) (n0 : Nat) (w : World) (a : Act) (D : List Nat) (B : Nat → Nat) (s : SSt) : Prop where
 inv : Inv g s.2.1 w
 ext : Ext g0 g n0
 le : n0 ≤ s.2.1.length
 fr : FrOk g s.2.1.length s.1 a.tmps
 len : s.2.2.length = D.length
 top : ∀ d ∈ D, ∀ c, s.1[d]? = some c → c = .top
 sl : ∀ j cs, s.2.2[j]? = some (some cs) → ∃ d vs t, D[j]? = some d ∧ a.tmps.getD d undef = .pointer (some ⟨B j, 0, none⟩) ∧ w.heap[B j]? = some (.cells vs t (0, 0)) ∧ Reps g cs s.2.1.length vs.toList ∧ g.fixed (B j) ∧ ¬ g0.fixed (B j) ∧ ∀ off, g.w0.C (B j) off = none
 inj : ∀ j k cs cs', s.2.2[j]? = some (some cs) → s.2.2[k]? = some (some cs') → B j = B k → j = k
theorem ext_fix {g0 g : Ghost} {n0 : Nat} (he : Ext g0 g n0) {A : World} (hI : Inv g σ A) {B : World} {fx : Nat → Prop} (hs : ∀ k, g0.fixed k → B.heap[k]? = A.heap[k]?) (hb : Below 0 A B) (hfx : ∀ k, g.fixed k → fx k) :
   Ext g0 { g with C := g.C, fixed := fx, w0 := ⟨B, g.C, g.w0.G⟩ } n0 :=
 ⟨he.C, he.blk, he.hd, ⟨fun k hk => hfx k (he.tie.fix k hk), fun k hk => by
   show B.heap[k]? = _
   rw [hs k hk, hI.below k (he.tie.fix k hk), he.tie.same k hk], (he.tie.str.trans hI.str).trans hb, fun b o v hv hf => he.tie.low b o v (hI.low b o v hv (he.tie.fix b hf)) hf, he.tie.G⟩⟩
theorem setT_get {fr : Fr} {x : Option Nat} {v : AV} {d : Nat} (h : x ≠ some d) : (setT fr x v)[d]? = fr[d]? := by
 cases x with
 | none => rfl
 | some x =>
   have : x ≠ d := fun e => h (by rw [e])
   simp only [setT]
   rw [List.getElem?_set_ne this]
theorem stepI_frame {ops : Array Oper} {i d : Nat} {fr fr2 : Fr} {σ σ2 : Store} (h : stepI E ops i (fr, σ) = some (fr2, σ2)) (hD : ∀ o, ops[i]? = some o → o.dst ≠ some d) : fr2[d]? = fr[d]? := by
 cases ho : ops[i]? with
 | none =>
   simp only [stepI, ho] at h
   obtain ⟨h1, _⟩ := pair_inj h
   rw [h1]
 | some o =>
   obtain ⟨v, rfl⟩ := stepI_form ho h
   exact setT_get (hD o ho)
theorem sj_no (hE : EnvOk E) {g0 : Ghost} {n0 n : Nat} {r : Option Nat} {a : Act} {D : List Nat} {B : Nat → Nat} {s s' : SSt} {ops : Array Oper} {i : Nat} {K : Act → World → Prop} {Q : Exit → Act → World → Prop} (hD : ∀ o, ops[i]? = some o → ∀ d ∈ D, o.dst ≠ some d)
   (hJ : SJ g0 g n0 w a D B s) (hn : actOf D ops i = .no) (h : stepS E ops D i s = some s') (hK : ∀ g' a' w', SJ g0 g' n0 w' a' D B s' → a'.defers = a.defers → K a' w') : wpOpIn (wideR r) n E.P ops Q i K a w := by
 obtain ⟨fr, σ, sl⟩ := s
 rw [stepS_no hn] at h
 obtain ⟨q, hq, h⟩ := bindO_eq h
 injection h with h
 subst h
 refine step_wp2 (fr' := q.1) (σ' := q.2) hE hJ.inv hJ.fr hq fun g' a' w' hm hf hd ht => hK g' a' w' ⟨hm.inv, hJ.ext.trans hm.ext hJ.le, Nat.le_trans hJ.le hm.len, hf, hJ.len, fun d hdD c hc => ?_, fun j cs hs => ?_, hJ.inj⟩ hd
 · have := stepI_frame (fr2 := q.1) (σ2 := q.2) hq (d := d) fun o ho => hD o ho d hdD
   exact hJ.top d hdD c (by rw [← this]; exact hc)
 · obtain ⟨d, vs, t, hd', htm, hh, hr, hfx, hn0, hC⟩ := hJ.sl j cs hs
   refine ⟨d, vs, t, hd', by rw [ht d fun o ho => hD o ho d (List.mem_of_getElem? hd')]; exact htm, ?_, Reps.mono hm.ext cs _ _ _ (Nat.le_refl _) hm.len hr, hm.ext.tie.fix _ hfx, hn0, fun off => ?_⟩
   · rw [hm.inv.below _ (hm.ext.tie.fix _ hfx), hm.ext.tie.same _ hfx, ← hJ.inv.below _ hfx]; exact hh
   · cases hc : g'.w0.C (B j) off with
     | none => rfl
     | some v => have := hm.ext.tie.low _ _ _ hc hfx; rw [hC off] at this; cases this
theorem act_wp {n : Nat} {r : Option Nat} {a : Act} {ops : Array Oper} {i m : Nat} {o : Oper} {fr : Fr} {K : Act → World → Prop} {Q : Exit → Act → World → Prop} (ho : ops[i]? = some o) (hg : o.guard = none) (hfr : FrOk g m fr a.tmps) (hnd : ∀ c, o.op ≠ .defer c)
   (hy : Yields E.P (execOp a.eval o) w fun v w' => K (a.put o.dst v) w') : wpOpIn (wideR r) n E.P ops Q i K a w := by
 unfold wpOpIn
 have hw := wants_sound (ops := ops) (o := o) hfr (show wants ops fr o.guard = some true by rw [hg]; rfl)
 simp only [ho, hw, if_true]
 exact wpIn_of_yields hnd hy
theorem up_fix (g : Ghost) (fx : Nat → Prop) (B : World) (m : Nat) : Up g { g with C := g.C, fixed := fx, w0 := ⟨B, g.C, g.w0.G⟩ } m := ⟨fun _ _ _ h => h, fun _ _ => rfl, fun _ _ _ _ h => h, rfl⟩
theorem list_inj {D : List Nat} (h : D.Nodup) {j k d : Nat} (h1 : D[j]? = some d) (h2 : D[k]? = some d) : j = k := by
 obtain ⟨l1, e1⟩ := List.getElem?_eq_some_iff.1 h1
 obtain ⟨l2, e2⟩ := List.getElem?_eq_some_iff.1 h2
 exact (List.getElem_inj h).1 (e1.trans e2.symm)
theorem sj_al (hE : EnvOk E) {g0 : Ghost} {n0 n : Nat} {r : Option Nat} {a : Act} {D : List Nat} {B : Nat → Nat} {s s' : SSt} {ops : Array Oper} {i j d t : Nat} {K : Act → World → Prop} {Q : Exit → Act → World → Prop} (hnd : D.Nodup) (hg : ∀ o, ops[i]? = some o → o.guard = none)
   (hJ : SJ g0 g n0 w a D B s) (hact : actOf D ops i = .al j d t) (h : stepS E ops D i s = some s') (hK : ∀ g' a' w' B', SJ g0 g' n0 w' a' D B' s' → a'.defers = a.defers → K a' w') : wpOpIn (wideR r) n E.P ops Q i K a w := by
 obtain ⟨fr, σ, sl⟩ := s
 obtain ⟨o, ho, hdst, hop, hDj⟩ := act_al hact
 rw [stepS_act (by rw [hact]; exact SlotAct.noConfusion), hact] at h
 obtain ⟨s2, hs2, h⟩ := bindO_eq h
 injection h with h
 subst h
 obtain ⟨ti, ht, hs2⟩ := bindO_eq hs2
 obtain ⟨c0, hc0, hs2⟩ := bindO_eq hs2
 have hslj : sl[j]? = some none := by
   cases hs : sl[j]? with
   | none => rw [hs] at hs2; cases hs2
   | some x => cases x with
     | none => rfl
     | some cs => rw [hs] at hs2; cases hs2
 rw [hslj] at hs2
 injection hs2 with hs2
 subst hs2
 have hjl : j < sl.length := (List.getElem?_eq_some_iff.1 hslj).1
 have hI : Inv g σ w := hJ.inv
 obtain ⟨tinf, z, hinfo, hts, htb, htz, hzr, _⟩ := (hE.ty t ti ht).info
 have hdf : d < a.tmps.size := Nat.lt_of_lt_of_le (List.getElem?_eq_some_iff.1 hc0).1 hJ.fr.size
 refine act_wp ho (hg o ho) hJ.fr (fun c hc => by rw [hop] at hc; cases hc) ?_
 rw [hdst]
 obtain ⟨x1, x2, x3, x4, x5, x6⟩ := o
 simp only at hop
 subst hop
 refine Yields.value (v := .pointer (some ⟨w.heap.size, 0, none⟩)) (w' := w.alloc (.cells z.cells t)) (by simp [Instr.alloc, zeroValue, typeInfo, hinfo, htz, newVar, newRow]) ?_
 have hheap : ∀ k, k < w.heap.size → (w.alloc (.cells z.cells t)).heap[k]? = w.heap[k]? := fun k hk => Below.heap_alloc w _ k hk
 have hbel : Below 0 w (w.alloc (.cells z.cells t)) := (Below.refl _ w).alloc (Nat.zero_le _) _
 have hCn : ∀ off, g.C w.heap.size off = none := fun off => by
   cases hc : g.C w.heap.size off with
   | none => rfl
   | some v => have := hI.lt hc; omega
 have hI' := hI.foreign (B := w.alloc (.cells z.cells t)) (C2 := g.C) (fun k => g.fixed k ∨ k = w.heap.size) (fun _ _ _ h => h) (fun b o v hv => by
     have hb := hI.lt hv
     have : (w.alloc (.cells z.cells t)).heap[b]? = w.heap[b]? := hheap b hb
     rw [← hI.comm b o v hv]
     exact World.cell?_of_block (w := w) (a := ⟨b, o, none⟩) this)
   (fun _ _ _ h => .inl h) (fun k hk _ => hheap k hk) hbel (fun k hk => hk.imp id fun e => by omega) (fun k hk => by
     rcases hk with hk | rfl
     · exact Nat.lt_of_lt_of_le (hI.base k hk) hbel.size
     · simp)
 have hfix0 : ∀ k, g0.fixed k → k < w.heap.size := fun k hk => hI.base k (hJ.ext.tie.fix k hk)
 refine hK _ _ _ (fun k => if k = j then w.heap.size else B k) ⟨hI', ext_fix hJ.ext hI (fun k hk => hheap k (hfix0 k hk)) hbel (fun k hk => .inl hk), hJ.le, ?_, by simpa using hJ.len, hJ.top, ?_, ?_⟩ rfl
 · obtain ⟨f1, f2⟩ := hJ.fr
   refine ⟨by simpa [Act.put] using f1, fun k c hk => ?_⟩
   by_cases hkd : k = d
   · subst hkd
     rw [hJ.top k (List.mem_of_getElem? hDj) c hk]; trivial
   · rw [put_getD a _ (by intro e; injection e with e; exact hkd e.symm)]
     exact Rep.up (up_fix g _ _ _) c _ _ _ (Nat.le_refl _) (Nat.le_refl _) (f2 k c hk)
 · intro k cs hk
   by_cases hkj : k = j
   · subst hkj
     rw [List.getElem?_set_self hjl] at hk
     injection hk with hk
     injection hk with hk
     subst hk
     refine ⟨d, z.cells, t, hDj, by rw [put_self a _ hdf]; simp, by simp only [if_true]; exact heap_new w _, hzr _ _, .inr (by simp), fun hf => ?_, fun off => ?_⟩
     · simp only [if_true] at hf
       have := hfix0 _ hf; omega
     · simp only [if_true]; exact hCn off
   · rw [List.getElem?_set_ne (Ne.symm hkj)] at hk
     obtain ⟨d', vs, t', hd', htm, hh, hr, hfx, hn0, hC⟩ := hJ.sl k cs hk
     have hlt : B k < w.heap.size := hI.base _ hfx
     simp only [if_neg hkj]
     refine ⟨d', vs, t', hd', ?_, by rw [hheap _ hlt]; exact hh, Reps.up (up_fix g _ _ _) cs _ _ _ (Nat.le_refl _) (Nat.le_refl _) hr, .inl hfx, hn0, fun off => ?_⟩
     · rw [put_getD a _ (by intro e; injection e with e; subst e; exact hkj (list_inj hnd hd' hDj))]; exact htm
     · cases hc : g.C (B k) off with
       | none => rfl
       | some v => have := hI.low _ _ _ hc hfx; rw [hC off] at this; cases this
 · intro k m cs cs' hk hm he
   by_cases hkj : k = j
   · by_cases hmj : m = j
     · rw [hkj, hmj]
     · simp only [hkj, hmj, if_true, if_false] at he
       rw [List.getElem?_set_ne (Ne.symm hmj)] at hm
       obtain ⟨_, _, _, _, _, _, _, hfx, _⟩ := hJ.sl m cs' hm
       have := hI.base _ hfx; omega
   · by_cases hmj : m = j
     · simp only [hkj, hmj, if_true, if_false] at he
       rw [List.getElem?_set_ne (Ne.symm hkj)] at hk
       obtain ⟨_, _, _, _, _, _, _, hfx, _⟩ := hJ.sl k cs hk
       have := hI.base _ hfx; omega
     · simp only [hkj, hmj, if_false] at he
       rw [List.getElem?_set_ne (Ne.symm hkj)] at hk
       rw [List.getElem?_set_ne (Ne.symm hmj)] at hm
       exact hJ.inj k m cs cs' hk hm he
theorem sj_st (hE : EnvOk E) {g0 : Ghost} {n0 n : Nat} {r : Option Nat} {a : Act} {D : List Nat} {B : Nat → Nat} {s s' : SSt} {ops : Array Oper} {i j d t : Nat} {v : Operand} {K : Act → World → Prop} {Q : Exit → Act → World → Prop} (hg : ∀ o, ops[i]? = some o → o.guard = none)
   (hJ : SJ g0 g n0 w a D B s) (hact : actOf D ops i = .st j d t v) (h : stepS E ops D i s = some s') (hK : ∀ g' a' w', SJ g0 g' n0 w' a' D B s' → a'.defers = a.defers → K a' w') : wpOpIn (wideR r) n E.P ops Q i K a w := by
 obtain ⟨fr, σ, sl⟩ := s
 obtain ⟨o, ho, hdst, hop, hDj⟩ := act_st hact
 rw [stepS_act (by rw [hact]; exact SlotAct.noConfusion), hact] at h
 obtain ⟨s2, hs2, h⟩ := bindO_eq h
 injection h with h
 subst h
 obtain ⟨ti, ht, hs2⟩ := bindO_eq hs2
 obtain ⟨us, hus, hs2⟩ := bindO_eq hs2
 obtain ⟨c0, hc0, hs2⟩ := bindO_eq hs2
 obtain ⟨cs, hslj⟩ : ∃ cs, sl[j]? = some (some cs) := by
   cases hs : sl[j]? with
   | none => rw [hs] at hs2; cases hs2
   | some x => cases x with
     | none => rw [hs] at hs2; cases hs2
     | some cs => exact ⟨cs, rfl⟩
 rw [hslj] at hs2
 obtain ⟨hl, hs2⟩ := iteO_none hs2
 injection hs2 with hs2
 subst hs2
 simp only [Bool.and_eq_true, decide_eq_true_eq] at hl
 have hjl : j < sl.length := (List.getElem?_eq_some_iff.1 hslj).1
 have hI : Inv g σ w := hJ.inv
 obtain ⟨d', vs, tt, hd', htm, hh, hr, hfx, hn0, hC⟩ := hJ.sl j cs hslj
 have hdd : d' = d := by rw [hDj] at hd'; injection hd' with hd'; exact hd'.symm
 subst hdd
 have hT := hE.ty t ti ht
 obtain ⟨hur, hone⟩ := cellsOf_rep hus (evalO_rep hJ.fr v)
 have hul := Reps.length hur
 have hvl := Reps.length hr
 simp at hul hvl
 have hrun := store_run (P := E.P) hT hh hone (by omega) (off := 0) (by omega)
 refine act_wp ho (hg o ho) hJ.fr (fun c hc => by rw [hop] at hc; cases hc) ?_
 rw [hdst]
 have hexec : (execOp a.eval o).run E.P w = .ok .skip (w.setCells (B j) 0 (a.eval v).cells.toList) := by
   obtain ⟨x1, x2, x3, x4, x5, x6⟩ := o
   simp only at hop
   subst hop
   have he : a.eval (.tmp d') = .pointer (some ⟨B j, 0, none⟩) := htm
   show (do Instr.storeAt t (a.eval (.tmp d')) (a.eval v); pure Next.skip : Sem Next).run E.P w = _
   rw [he, Sem.run_bind, hrun]; rfl
 refine .inr (.inl ⟨_, hexec, ?_⟩)
 have hoth : ∀ k, k ≠ B j → (w.setCells (B j) 0 (a.eval v).cells.toList).heap[k]? = w.heap[k]? := fun k hk => setCells_other _ _ _ _ _ hk
 have hbel : Below 0 w (w.setCells (B j) 0 (a.eval v).cells.toList) := setCells_below (Nat.zero_le _) _ _ _
 have hgC : ∀ off, g.C (B j) off = none := fun off => by
   cases hc : g.C (B j) off with
   | none => rfl
   | some v => have := hI.low _ _ _ hc hfx; rw [hC off] at this; cases this
 have hI' := hI.foreign (B := w.setCells (B j) 0 (a.eval v).cells.toList) (C2 := g.C) g.fixed (fun _ _ _ h => h) (fun b o v hv => by
     have hb : b ≠ B j := fun e => by subst e; rw [hgC o] at hv; cases hv
     rw [← hI.comm b o v hv]
     exact World.cell?_of_block (w := w) (a := ⟨b, o, none⟩) (hoth b hb))
   (fun _ _ _ h => .inl h) (fun k _ hk => hoth k fun e => hk (by rw [e]; exact hfx)) hbel (fun k hk => .inl hk) (fun k hk => Nat.lt_of_lt_of_le (hI.base k hk) hbel.size)
 refine hK _ _ _ ⟨hI', ext_fix hJ.ext hI (fun k hk => hoth k fun e => hn0 (by rw [← e]; exact hk)) hbel (fun k hk => hk), hJ.le, ?_, by simpa using hJ.len, hJ.top, ?_, ?_⟩ rfl
 · obtain ⟨f1, f2⟩ := hJ.fr
   exact ⟨f1, fun k c hk => Rep.up (up_fix g _ _ _) c _ _ _ (Nat.le_refl _) (Nat.le_refl _) (f2 k c hk)⟩
 · intro k cs2 hk
   by_cases hkj : k = j
   · subst hkj
     rw [List.getElem?_set_self hjl] at hk
     injection hk with hk
     injection hk with hk
     subst hk
     refine ⟨d', _, tt, hDj, htm, setCells_heap _ _ _ _ _ _ _ hh (by simp; omega), ?_, hfx, hn0, hgC⟩
     have := Reps.splice (g := g) 0 hr hur
     simp only [List.take_zero, List.nil_append, Nat.zero_add] at this
     have e1 : us ++ cs.drop us.length = us := by rw [hl.2, List.drop_length, List.append_nil]
     rw [e1] at this
     exact Reps.up (up_fix g _ _ _) us _ _ _ (Nat.le_refl _) (Nat.le_refl _) (by simpa using this)
   · rw [List.getElem?_set_ne (Ne.symm hkj)] at hk
     obtain ⟨d2, vs2, t2, hd2, htm2, hh2, hr2, hfx2, hn2, hC2⟩ := hJ.sl k cs2 hk
     refine ⟨d2, vs2, t2, hd2, htm2, ?_, Reps.up (up_fix g _ _ _) cs2 _ _ _ (Nat.le_refl _) (Nat.le_refl _) hr2, hfx2, hn2, fun off => ?_⟩
     · rw [hoth _ fun e => hkj (hJ.inj k j cs2 cs hk hslj e)]; exact hh2
     · cases hc : g.C (B k) off with
       | none => exact hc
       | some v => have := hI.low _ _ _ hc hfx2; rw [hC2 off] at this; cases this
 · intro k m c1 c2 hk hm he
   have back : ∀ (q : Nat) (c : List AV), (sl.set j (some us))[q]? = some (some c) → ∃ c', sl[q]? = some (some c') := fun q c hq => by
     by_cases hqj : q = j
     · subst hqj; exact ⟨cs, hslj⟩
     · rw [List.getElem?_set_ne (Ne.symm hqj)] at hq; exact ⟨c, hq⟩
   obtain ⟨c1', h1⟩ := back k c1 hk
   obtain ⟨c2', h2⟩ := back m c2 hm
   exact hJ.inj k m c1' c2' h1 h2 he
def beforeOkS (pf gf : Nat → Bool) (l : List (Nat × Nat)) (D : List Nat) (ops : Array Oper) (A : List Nat) (i : Nat) : Nat → Bool
 | 0 => true
 | a + 1 => (A.contains a || sOk pf gf l D ops A a i) && beforeOkS pf gf l D ops A i a
def opOkS (D : List Nat) (ops : Array Oper) (i : Nat) : Bool := match ops[i]? with
 | none => true
 | some o => match slotJ (actOf D ops i) with
   | some _ => o.guard.isNone
   | none => match o.dst with
     | some d => !(D.contains d)
     | none => true
def regionOkS (pf gf : Nat → Bool) (l : List (Nat × Nat)) (D : List Nat) (ops : Array Oper) : Nat → Bool
 | 0 => true
 | i + 1 => opOkS D ops i && (deps ops i).all (fun d => decide (d < i)) && beforeOkS pf gf l D ops (upL ops i (deps ops i)) i i && regionOkS pf gf l D ops i
def nodupB : List Nat → Bool
 | [] => true
 | d :: D => !(D.contains d) && nodupB D
theorem nodupB_ok : ∀ {D : List Nat}, nodupB D = true → D.Nodup
 | [], _ => List.nodup_nil
 | d :: D, h => by
   simp only [nodupB, Bool.and_eq_true, Bool.not_eq_true'] at h
   exact List.nodup_cons.2 ⟨fun hm => by rw [List.contains_iff_mem.2 hm] at h; exact absurd h.1 (by decide), nodupB_ok h.2⟩
def drawS (pf gf : Nat → Bool) (l : List (Nat × Nat)) (D : List Nat) (ops : Array Oper) : Bool :=
 nodupB D && (l.all fun q => !(D.contains q.1) && !(D.contains q.2)) && regionOkS pf gf l D ops ops.size
theorem beforeOkS_spec {pf gf : Nat → Bool} {l : List (Nat × Nat)} {D : List Nat} {ops : Array Oper} {A : List Nat} {i : Nat} : ∀ {n : Nat}, beforeOkS pf gf l D ops A i n = true → ∀ a, a < n → a ∈ A ∨ sOk pf gf l D ops A a i = true
 | 0, _, a, h => absurd h (Nat.not_lt_zero _)
 | n + 1, h, a, ha => by
   simp only [beforeOkS, Bool.and_eq_true, Bool.or_eq_true, List.contains_iff_mem] at h
   rcases Nat.lt_or_eq_of_le (Nat.le_of_lt_succ ha) with h1 | h1
   · exact beforeOkS_spec h.2 a h1
   · subst h1; exact h.1
theorem regionOkS_spec {pf gf : Nat → Bool} {l : List (Nat × Nat)} {D : List Nat} {ops : Array Oper} : ∀ {n : Nat}, regionOkS pf gf l D ops n = true → ∀ i, i < n → opOkS D ops i = true ∧ (∀ d ∈ deps ops i, d < i) ∧ ∀ a, a < i → a ∈ upL ops i (deps ops i) ∨ sOk pf gf l D ops (upL ops i (deps ops i)) a i = true
 | 0, _, i, h => absurd h (Nat.not_lt_zero _)
 | n + 1, h, i, hi => by
   simp only [regionOkS, Bool.and_eq_true, List.all_eq_true, decide_eq_true_eq] at h
   rcases Nat.lt_or_eq_of_le (Nat.le_of_lt_succ hi) with h1 | h1
   · exact regionOkS_spec h.2 i h1
   · subst h1; exact ⟨h.1.1.1, h.1.1.2, fun a ha => beforeOkS_spec h.1.2 a ha⟩
theorem opOkS_guard {D : List Nat} {ops : Array Oper} {i j : Nat} (h : opOkS D ops i = true) (hj : slotJ (actOf D ops i) = some j) : ∀ o, ops[i]? = some o → o.guard = none := fun o ho => by
 unfold opOkS at h
 rw [ho, hj] at h
 exact Option.isNone_iff_eq_none.1 h
theorem opOkS_dst {D : List Nat} {ops : Array Oper} {i : Nat} (h : opOkS D ops i = true) (hj : slotJ (actOf D ops i) = none) : ∀ o, ops[i]? = some o → ∀ d ∈ D, o.dst ≠ some d := fun o ho d hd e => by
 unfold opOkS at h
 rw [ho, hj] at h
 simp only [e, Bool.not_eq_true'] at h
 rw [List.contains_iff_mem.2 hd] at h; cases h
theorem any_wpS (hE : EnvOk E) {pf gf : Nat → Bool} (hp : PureTab E pf) (hg : GrowTab E gf) {ops : Array Oper} {l0 : List (Nat × Nat)} {D : List Nat} (hnd : D.Nodup) (hok : regionOkS pf gf l0 D ops ops.size = true) {n : Nat} {r : Option Nat} {Q : Exit → Act → World → Prop} {g0 : Ghost} {n0 : Nat} {sF : SSt} (hal : aliF l0 sF.1 = true) : ∀ (fuel : Nat) (T : List Nat) (l : Array Bool) (g : Ghost) (w : World) (a : Act) (B : Nat → Nat) (s : SSt),
   T.length ≤ fuel → Rest ops l T → SJ g0 g n0 w a D B s → runS E ops D T s = some sF →
   (∀ g' a' w' B', SJ g0 g' n0 w' a' D B' sF → a'.defers = a.defers → Q .normal a' w') → wpAnyIn (wideR r) n E.P .any ops Q fuel l a w := by
 have hnil : ∀ (T : List Nat) (l : Array Bool), Rest ops l T → Region.ready .any ops l = [] → T = [] := fun T l hR hr => by
   cases T with
   | nil => rfl
   | cons a rest =>
     exfalso
     have ha := (hR.mem a).1 (by simp)
     have hdeps := (regionOkS_spec hok a ha.1).2.1
     have : a ∈ Region.ready .any ops l := mem_ready.2 ⟨ha.1, by rw [getD_in (by rw [hR.size]; exact ha.1) true false]; exact ha.2, fun d hd => ?_⟩
     · rw [hr] at this; simp at this
     · have hda := hdeps d hd
       refine hR.listed (by omega) fun hm => ?_
       rcases List.mem_cons.1 hm with h1 | h1
       · omega
       · have := (List.pairwise_cons.1 hR.sorted).1 d h1
         omega
 intro fuel
 induction fuel with
 | zero =>
   intro T l g w a B s hlen hR hJ hrun hQ
   have hT : T = [] := List.length_eq_zero_iff.1 (by omega)
   subst hT
   injection hrun with hrun
   subst hrun
   refine ⟨?_, hQ g a w B hJ rfl⟩
   rw [List.eq_nil_iff_forall_not_mem]
   intro i hi
   have hi := mem_ready.1 hi
   have := (hR.mem i).2 ⟨hi.1, by rw [getD_in (by rw [hR.size]; exact hi.1) false true]; exact hi.2.1⟩
   simp at this
 | succ fuel ih =>
   intro T l g w a B s hlen hR hJ hrun hQ
   refine ⟨fun hr => ?_, fun i hi => ?_⟩
   · have hT := hnil T l hR hr
     subst hT
     injection hrun with hrun
     subst hrun
     exact hQ g a w B hJ rfl
   · have hi := mem_ready.1 hi
     have hiT : i ∈ T := (hR.mem i).2 ⟨hi.1, by rw [getD_in (by rw [hR.size]; exact hi.1) false true]; exact hi.2.1⟩
     obtain ⟨pre, post, rfl⟩ := List.append_of_mem hiT
     have hsp := regionOkS_spec hok i hi.1
     have hpre : ∀ a ∈ pre, sOk pf gf l0 D ops (upL ops i (deps ops i)) a i = true := fun a ha => by
       have hlt : a < i := (List.pairwise_append.1 hR.sorted).2.2 a ha i (by simp)
       rcases hsp.2.2 a hlt with h1 | h1
       · have hl := upL_listed hR.closed i _ hi.2.2 a h1
         have hn := ((hR.mem a).1 (by simp [ha])).2
         unfold Listed at hl
         rw [hn] at hl; cases hl
       · exact h1
     have hclo : ∀ j ∈ pre ++ i :: post, (upL ops i (deps ops i)).contains j = false := fun j hj => by
       cases hc : (upL ops i (deps ops i)).contains j with
       | false => rfl
       | true =>
         have hl := upL_listed hR.closed i _ hi.2.2 j (List.contains_iff_mem.1 hc)
         have hn := ((hR.mem j).1 hj).2
         unfold Listed at hl
         rw [hn] at hl; cases hl
     obtain ⟨s1, hs1, hrun1⟩ := bubbleS hp hg hal (fun _ _ _ => rfl) pre s hpre hclo hR.sorted hrun
     have go : ∀ g' a' w' B', SJ g0 g' n0 w' a' D B' s1 → a'.defers = a.defers → wpAnyIn (wideR r) n E.P .any ops Q fuel (l.setIfInBounds i true) a' w' := fun g' a' w' B' hJ' hd =>
       ih (pre ++ post) _ g' w' a' B' s1 (by simp at hlen ⊢; omega) (hR.next hi.2.2) hJ' hrun1 fun g'' a'' w'' B'' hJ'' hd' => hQ g'' a'' w'' B'' hJ'' (hd'.trans hd)
     cases hact : actOf D ops i with
     | no => exact sj_no hE (opOkS_dst hsp.1 (by rw [hact]; rfl)) hJ hact hs1 fun g' a' w' hJ' hd => go g' a' w' B hJ' hd
     | al j d t => exact sj_al hE hnd (opOkS_guard (j := j) hsp.1 (by rw [hact]; rfl)) hJ hact hs1 go
     | st j d t v => exact sj_st hE (opOkS_guard (j := j) hsp.1 (by rw [hact]; rfl)) hJ hact hs1 fun g' a' w' hJ' hd => go g' a' w' B hJ' hd
theorem slotsAll_get : ∀ {sl : Slots} {os : Store}, slotsAll sl = some os → os.length = sl.length ∧ ∀ (j : Nat) (o : AObj), os[j]? = some o → ∃ cs, sl[j]? = some (some cs) ∧ o = .var cs
 | [], os, h => by injection h with h; subst h; exact ⟨rfl, fun j o ho => by simp at ho⟩
 | none :: _, _, h => by cases h
 | some cs :: r, _, h => by
   obtain ⟨s, hs, h⟩ := bindO_eq h
   injection h with h
   subst h
   obtain ⟨h1, h2⟩ := slotsAll_get hs
   refine ⟨by simp [h1], fun j o ho => ?_⟩
   cases j with
   | zero => simp at ho; exact ⟨cs, rfl, ho.symm⟩
   | succ j => simpa using h2 j o (by simpa using ho)
theorem setD_ok {m : Nat} {tmps : Array Value} : ∀ (D : List Nat) (k : Nat) (fr : Fr), FrOk g m fr tmps → (∀ (j d : Nat), D[j]? = some d → k + j < m ∧ tmps.getD d undef = .pointer (some ⟨g.blk (k + j), 0, none⟩)) → FrOk g m (setD D k fr) tmps
 | [], _, _, h, _ => h
 | d :: D, k, fr, h, hD => by
   obtain ⟨h1, h2⟩ := hD 0 d rfl
   refine setD_ok D (k + 1) _ (h.setAt ⟨h1, h2⟩) fun j d' hj => ?_
   have := hD (j + 1) d' (by simpa using hj)
   rw [show k + 1 + j = k + (j + 1) by omega]; exact this
theorem foreign_same {g g' : Ghost} (h : g'.hd = g.hd) (id v : Nat) : foreign g' id v = foreign g id v := foreign_hd (by rw [h]) v
theorem sj_end {g0 : Ghost} {n0 : Nat} {a : Act} {D : List Nat} {B : Nat → Nat} {s : SSt} {os : Store} (hJ : SJ g0 g n0 w a D B s) (hos : slotsAll s.2.2 = some os) :
   ∃ g', Ext g0 g' n0 ∧ Inv g' (s.2.1 ++ os) w ∧ FrOk g' (s.2.1 ++ os).length (setD D s.2.1.length s.1) a.tmps := by
 obtain ⟨fr, σ, sl⟩ := s
 simp only at hos ⊢
 obtain ⟨hlen, hget⟩ := slotsAll_get hos
 have hI : Inv g σ w := hJ.inv
 have hslen : sl.length = D.length := hJ.len
 obtain ⟨g', hg'⟩ : ∃ g' : Ghost, g' = { g with fixed := g0.fixed, w0 := g0.w0, blk := fun id => if id < σ.length then g.blk id else B (id - σ.length) } := ⟨_, rfl⟩
 have hC : g'.C = g.C := by rw [hg']
 have hhd : g'.hd = g.hd := by rw [hg']
 have hfx : g'.fixed = g0.fixed := by rw [hg']
 have hw0 : g'.w0 = g0.w0 := by rw [hg']
 have hbl : ∀ id, id < σ.length → g'.blk id = g.blk id := fun id h => by rw [hg']; exact if_pos h
 have hbh : ∀ j, g'.blk (σ.length + j) = B j := fun j => by
   rw [hg']
   show (if σ.length + j < σ.length then _ else _) = _
   rw [if_neg (by omega)]; congr 1; omega
 have hup : Up g g' σ.length := ⟨fun _ _ _ h => by rw [hC]; exact h, hbl, fun id _ ver v h => by rw [hhd]; exact h, by rw [hw0]; exact hJ.ext.tie.G.symm⟩
 have hln : (σ ++ os).length = σ.length + D.length := by rw [List.length_append, hlen, hslen]
 -- objects: old ones and new ones
 have hobj : ∀ id o, (σ ++ os)[id]? = some o → (id < σ.length ∧ σ[id]? = some o) ∨ ∃ j cs, id = σ.length + j ∧ o = .var cs ∧ sl[j]? = some (some cs) := fun id o ho => by
   rcases Nat.lt_or_ge id σ.length with h | h
   · rw [List.getElem?_append_left h] at ho; exact .inl ⟨h, ho⟩
   · rw [List.getElem?_append_right h] at ho
     obtain ⟨cs, h1, h2⟩ := hget _ o ho
     exact .inr ⟨id - σ.length, cs, by omega, h2, h1⟩
 have hown : ∀ id o b, (σ ++ os)[id]? = some o → owned g' id o = some b → (id < σ.length ∧ σ[id]? = some o ∧ owned g id o = some b) ∨ ∃ j cs, id = σ.length + j ∧ o = .var cs ∧ sl[j]? = some (some cs) ∧ b = B j := fun id o b ho hb => by
   rcases hobj id o ho with ⟨h1, h2⟩ | ⟨j, cs, h1, h2, h3⟩
   · refine .inl ⟨h1, h2, ?_⟩
     cases o with
     | var cs => simp only [owned] at hb ⊢; rw [hbl id h1] at hb; exact hb
     | map kk m => simp only [owned] at hb ⊢; rw [hbl id h1] at hb; exact hb
     | row sz ver es => simp only [owned, rowBlock, hhd] at hb ⊢; exact hb
     | app sz ver es => simp only [owned, rowBlock, hhd, foreign_same hhd] at hb ⊢; exact hb
     | _ => cases hb
   · refine .inr ⟨j, cs, h1, h2, h3, ?_⟩
     subst h2
     simp only [owned] at hb
     injection hb with hb
     rw [← hb, h1, hbh]
 have hgC : ∀ j cs, sl[j]? = some (some cs) → ∀ off, g.C (B j) off = none := fun j cs hj off => by
   obtain ⟨_, _, _, _, _, _, _, hf, _, hc0⟩ := hJ.sl j cs hj
   cases hc : g.C (B j) off with
   | none => rfl
   | some v => have := hI.low _ _ _ hc hf; rw [hc0 off] at this; cases this
 have hfix : ∀ k, g0.fixed k → g.fixed k := fun k hk => hJ.ext.tie.fix k hk
 refine ⟨g', ⟨fun b o v hv => by rw [hC]; exact hJ.ext.C b o v hv, fun id hid => (hbl id (Nat.lt_of_lt_of_le hid hJ.le)).trans (hJ.ext.blk id hid), fun id hid ver v hv => by rw [hhd]; exact hJ.ext.hd id hid ver v hv, by rw [hfx, hw0]; exact Tie.refl _ _⟩, ?_, ?_⟩
 · refine ⟨fun b o v hv => hI.comm b o v (by rw [← hC]; exact hv), fun id o ho => ?_, fun id o b ho hb => ?_, fun id id' o o' b ho ho' hb hb' => ?_, fun k hk => ?_, ?_, fun k hk => ?_, fun b o v hv hf => ?_, fun id T hT => ?_⟩
   · rcases hobj id o ho with ⟨h1, h2⟩ | ⟨j, cs, h1, h2, h3⟩
     · exact ObjOk.keep hup h1 (by rw [hln]; omega) (by rw [hhd]) (fun _ _ => rfl) (hI.objs id o h2)
     · obtain ⟨d, vs, t, _, _, hh, hr, _⟩ := hJ.sl j cs h3
       subst h1; subst h2
       exact ⟨vs, t, by rw [hbh]; exact hh, Reps.up hup cs _ _ _ (Nat.le_refl _) (by rw [hln]; show σ.length ≤ _; omega) hr⟩
   · rw [hfx, hC]
     rcases hown id o b ho hb with ⟨h1, h2, h3⟩ | ⟨j, cs, h1, h2, h3, h4⟩
     · obtain ⟨k1, k2, k3⟩ := hI.sep id o b h2 h3
       exact ⟨fun hf => k1 (hfix b hf), k2, k3⟩
     · obtain ⟨_, _, _, _, _, _, _, hf, hn0, _⟩ := hJ.sl j cs h3
       subst h4
       exact ⟨hn0, hI.base _ hf, hgC j cs h3⟩
   · rcases hown id o b ho hb with ⟨h1, h2, h3⟩ | ⟨j, cs, h1, h2, h3, h4⟩ <;> rcases hown id' o' b ho' hb' with ⟨k1, k2, k3⟩ | ⟨j', cs', k1, k2, k3, k4⟩
     · exact hI.inj id id' o o' b h2 k2 h3 k3
     · obtain ⟨_, _, _, _, _, _, _, hf, _⟩ := hJ.sl j' cs' k3
       subst k4
       exact absurd hf (hI.sep id o _ h2 h3).1
     · obtain ⟨_, _, _, _, _, _, _, hf, _⟩ := hJ.sl j cs h3
       subst h4
       exact absurd hf (hI.sep id' o' _ k2 k3).1
     · have := hJ.inj j j' cs cs' h3 k3 (h4.symm.trans k4)
       omega
   · rw [hfx] at hk
     rw [hw0, hI.below k (hfix k hk), hJ.ext.tie.same k hk]
   · rw [hw0]; exact hJ.ext.tie.str.trans hI.str
   · rw [hfx] at hk; exact hI.base k (hfix k hk)
   · rw [hC] at hv; rw [hfx] at hf; rw [hw0]
     exact hJ.ext.tie.low b o v (hI.low b o v hv (hfix b hf)) hf
   · rcases hobj id _ hT with ⟨h1, h2⟩ | ⟨j, cs, h1, h2, h3⟩
     · obtain ⟨h0, hy, F, hrel, hF, hfF⟩ := hI.guest id T h2
       have hG : g'.w0.G = g.w0.G := by rw [hw0]; exact hJ.ext.tie.G.symm
       rw [hG, hC, hfx]
       refine ⟨h0, hy, F, hrel, fun id' o' b ho' hb' => ?_, fun k hk => hfF k (hfix k hk)⟩
       rcases hown id' o' b ho' hb' with ⟨k1, k2, k3⟩ | ⟨j', cs', k1, k2, k3, k4⟩
       · exact hF id' o' b k2 k3
       · obtain ⟨_, _, _, _, _, _, _, hf, _⟩ := hJ.sl j' cs' k3
         subst k4; exact hfF _ hf
     · cases h2
 · refine setD_ok D σ.length fr ?_ fun j d hj => ?_
   · obtain ⟨f1, f2⟩ := hJ.fr
     exact ⟨f1, fun k c hk => Rep.up hup c _ _ _ (Nat.le_refl _) (by rw [hln]; show σ.length ≤ _; omega) (f2 k c hk)⟩
   · have hjl : j < D.length := (List.getElem?_eq_some_iff.1 hj).1
     have hjo : j < os.length := by rw [hlen, hslen]; exact hjl
     obtain ⟨cs, hcs, _⟩ := hget j _ (List.getElem?_eq_getElem hjo)
     obtain ⟨d', vs, t, hd', htm, _⟩ := hJ.sl j cs hcs
     have : d' = d := by rw [hj] at hd'; injection hd' with hd'; exact hd'.symm
     subst this
     exact ⟨by rw [hln]; omega, by rw [hbh]; exact htm⟩
theorem clearD_ok {m : Nat} {tmps : Array Value} : ∀ (D : List Nat) (fr : Fr), FrOk g m fr tmps → FrOk g m (clearD D fr) tmps
 | [], _, h => h
 | d :: D, fr, h => clearD_ok D _ (h.setAt (c := .top) trivial)
theorem clearD_top : ∀ (D : List Nat) (fr : Fr) (d : Nat) (c : AV), (clearD D fr)[d]? = some c → (d ∈ D ∨ fr[d]? = some .top) → c = .top
 | [], fr, d, c, h, hd => by
   rcases hd with hd | hd
   · cases hd
   · have h : fr[d]? = some c := h
     rw [hd] at h; injection h with h; exact h.symm
 | e :: D, fr, d, c, h, hd => by
   refine clearD_top D (fr.set e .top) d c h ?_
   rcases Nat.lt_or_ge d fr.length with hl | hl
   · by_cases hde : d = e
     · subst hde; exact .inr (by rw [List.getElem?_set_self hl])
     · rw [List.getElem?_set_ne (Ne.symm hde)]
       rcases hd with hd | hd
       · rcases List.mem_cons.1 hd with h1 | h1
         · exact absurd h1 hde
         · exact .inl h1
       · exact .inr hd
   · exfalso
     have : ∀ (D : List Nat) (fr : Fr), (clearD D fr).length = fr.length := by
       intro D
       induction D with
       | nil => intro fr; rfl
       | cons d D ih => intro fr; rw [clearD, ih]; simp
     have h2 : (clearD (e :: D) fr)[d]? = none := List.getElem?_eq_none (by rw [this]; exact hl)
     rw [h2] at h; cases h
theorem setD_get : ∀ (D : List Nat) (k : Nat) (fr : Fr) (t : Nat), t ∉ D → (setD D k fr).getD t .top = fr.getD t .top
 | [], _, _, _, _ => rfl
 | d :: D, k, fr, t, h => by
   simp only [List.mem_cons, not_or] at h
   rw [setD, setD_get D (k + 1) _ t h.2]
   simp only [List.getD_eq_getElem?_getD]
   rw [List.getElem?_set_ne (Ne.symm h.1)]
theorem draw_soundS (hE : EnvOk E) {pf gf : Nat → Bool} (hp : PureTab E pf) (hg : GrowTab E gf) (hm : E.P.follows .mixedOrders = true) (ops : Array Oper) (l : List (Nat × Nat)) {d : Nat} {D : List Nat} (hD : slotsOf l = d :: D) (hok : drawS pf gf (pairsOf l) (d :: D) ops = true) : DrawSound E l ops := by
 intro g σ w fr a res n r id Q hI hfr h hQ
 rw [hD] at h
 obtain ⟨h, hal⟩ := aliB_some h
 obtain ⟨s, hs, h⟩ := bindO_eq h
 obtain ⟨os, hos, h⟩ := bindO_eq h
 injection h with h
 subst h
 simp only [drawS, Bool.and_eq_true] at hok
 obtain ⟨⟨h1, h2⟩, h3⟩ := hok
 have hal2 : aliF (pairsOf l) s.1 = true := by
   refine List.all_eq_true.2 fun q hq => ?_
   have h4 := List.all_eq_true.1 h2 q hq
   simp only [Bool.and_eq_true, Bool.not_eq_true'] at h4
   have n1 : q.1 ∉ d :: D := fun hm => by rw [List.contains_iff_mem.2 hm] at h4; exact absurd h4.1 (by decide)
   have n2 : q.2 ∉ d :: D := fun hm => by rw [List.contains_iff_mem.2 hm] at h4; exact absurd h4.2 (by decide)
   have h5 := List.all_eq_true.1 hal q hq
   simp only [aliP] at h5 ⊢
   rw [setD_get _ _ _ _ n1, setD_get _ _ _ _ n2] at h5
   exact h5
 refine wpIn_region_any hm ?_
 have hr := opsSl_runS ops.toList 0 _ _ _ s (fun j => by simp) hs
 rw [Array.length_toList, ← List.range_eq_range'] at hr
 refine any_wpS hE hp hg (nodupB_ok h1) h3 hal2 (g0 := g) (n0 := σ.length) _ _ _ g _ a (fun _ => 0) (clearD (d :: D) fr, σ, List.replicate (d :: D).length none) (by simp) (rest_start ops) ⟨hI.same rfl rfl rfl rfl, Ext.refl g _, Nat.le_refl _, clearD_ok _ _ hfr, by simp, fun d' hd' c hc => clearD_top _ fr d' c hc (.inl hd'), fun j cs hj => ?_, fun j k cs cs' hj _ _ => ?_⟩ hr fun g' a' w' B' hJ hd => ?_
 · rw [List.getElem?_replicate] at hj; split at hj <;> cases hj
 · rw [List.getElem?_replicate] at hj; split at hj <;> cases hj
 · obtain ⟨g2, e1, e2, e3⟩ := sj_end hJ hos
   exact hQ g2 a' w' ⟨e1, e2, by have := hJ.le; simp at this ⊢; omega⟩ e3 hd
end Go.Abs
namespace Go.Abs
open Go.RowKit
def zChk : AV → Value → Bool
 | .int k n, .int k' n' => decide (k = k') && decide (n = n')
 | .bool b, .bool b' => b == b'
 | .str s, .string s' => s.data.toList.isEmpty && s'.data.toList.isEmpty
 | .sl true _ [], .slice none 0 0 => true
 | .nilfn, .nilFunc => true
 | .nilp, .pointer none => true
 | .nilmap, .map none => true
 | .nilif, .nilIface => true
 | _, _ => false
def zsChk : List AV → List Value → Bool
 | [], [] => true
 | c :: cs, v :: vs => zChk c v && zsChk cs vs
 | _, _ => false
theorem bytes_empty {s : ByteArray} (h : s.data.toList.isEmpty = true) : s = ⟨#[]⟩ := by
 obtain ⟨⟨l⟩⟩ := s
 simp at h
 rw [h]
theorem zChk_rep {c : AV} {v : Value} (h : zChk c v = true) (g : Ghost) (n : Nat) : Rep g c n v := by
 unfold zChk at h
 split at h <;> try (cases h; done)
 · simp only [Bool.and_eq_true, decide_eq_true_eq] at h; show _ = _; rw [h.1, h.2]
 · show _ = _; rw [eq_of_beq h]
 · simp only [Bool.and_eq_true] at h; show _ = _; rw [bytes_empty h.1, bytes_empty h.2]
 · exact ⟨none, 0, rfl, Nat.le_refl _, fun _ => rfl, .inl rfl⟩
 · rfl
 · rfl
 · rfl
 · rfl
theorem zChk_leaf {c : AV} {v : Value} (h : zChk c v = true) : c.leaf = true := by
 unfold zChk at h
 split at h <;> first | rfl | cases h
theorem zsChk_rep : ∀ {cs : List AV} {vs : List Value}, zsChk cs vs = true → ∀ (g : Ghost) (n : Nat), Reps g cs n vs
 | [], [], _, _, _ => rfl
 | c :: cs, v :: vs, h, g, n => by
   simp only [zsChk, Bool.and_eq_true] at h
   exact ⟨v, vs, rfl, zChk_rep h.1 g n, zsChk_rep h.2 g n⟩
 | [], _ :: _, h, _, _ => by cases h
 | _ :: _, [], h, _, _ => by cases h
theorem zsChk_leaf : ∀ {cs : List AV} {vs : List Value}, zsChk cs vs = true → allLeaf cs = true
 | [], [], _ => rfl
 | c :: cs, v :: vs, h => by
   simp only [zsChk, Bool.and_eq_true] at h
   simp only [allLeaf, zChk_leaf h.1, zsChk_leaf h.2, Bool.and_self]
 | [], _ :: _, h => by cases h
 | _ :: _, [], h => by cases h
def fsChk : List Field → List (Nat × Nat) → Bool
 | [], [] => true
 | f :: fs, p :: ps => decide (f.type = p.1) && decide (f.offset = p.2) && fsChk fs ps
 | _, _ => false
theorem fsChk_eq : ∀ {fs : List Field} {ps : List (Nat × Nat)}, fsChk fs ps = true → fs.map (fun f => (f.type, f.offset)) = ps
 | [], [], _ => rfl
 | f :: fs, p :: ps, h => by
   simp only [fsChk, Bool.and_eq_true, decide_eq_true_eq] at h
   rw [List.map_cons, fsChk_eq h.2, h.1.1, h.1.2]
 | [], _ :: _, h => by cases h
 | _ :: _, [], h => by cases h
def descChk : TypeDesc → TK → Bool
 | .int k, .int k' => decide (k = k')
 | .bool, .bool => true
 | .string, .string => true
 | .struct fs, .struct gs => fsChk fs.toList gs
 | .array n e, .array n' e' => decide (n = n') && decide (e = e')
 | .slice e, .slice e' => decide (e = e')
 | .map k e, .map k' e' => decide (k = k') && decide (e = e')
 | .func _ _ _, .other => true
 | .pointer _, .other => true
 | .interface _, .other => true
 | .tuple _, .other => true
 | _, _ => false
theorem descChk_ok {d : TypeDesc} {k : TK} (h : descChk d k = true) : descOk d k := by
 unfold descChk at h
 split at h <;> first | trivial | exact fsChk_eq h | (cases h; done) | (simp only [Bool.and_eq_true, decide_eq_true_eq] at h; exact h)
def subsChk (P : Program) : List (Nat × Nat) → Bool
 | [] => true
 | f :: fs => (P.info? f.1).isSome && subsChk P fs
theorem subsChk_ok {P : Program} : ∀ {fs : List (Nat × Nat)}, subsChk P fs = true → ∀ f ∈ fs, (P.info? f.1).isSome = true
 | [], _, _, h => by simp at h
 | f :: fs, h, f', hf => by
   simp only [subsChk, Bool.and_eq_true] at h
   rcases List.mem_cons.1 hf with rfl | hf
   · exact h.1
   · exact subsChk_ok h.2 f' hf
def subChk (P : Program) : TK → Bool
 | .struct gs => subsChk P gs
 | _ => true
def aggZ : Value → Bool
 | .agg _ => true
 | _ => false
def tyChk (P : Program) (t : Nat) (i : TInfo) : Bool :=
 match P.info? t, P.underlying t with
 | some ti, some d => (match ti.zero with
   | some z => decide (ti.size = i.size) && decide (ti.bytes = i.bytes) && zsChk i.zero z.cells.toList && z.cells.toList.all (·.oneCell') && decide (i.zero.length = i.size) && (match i.k.agg with | true => aggZ z | false => z.oneCell')
   | none => false) && descChk d i.k && subChk P i.k
 | _, _ => false
theorem tyChk_ok {P : Program} {t : Nat} {i : TInfo} (h : tyChk P t i = true) : TyOk P t i := by
 unfold tyChk at h
 split at h
 · rename_i ti d hi hu
   simp only [Bool.and_eq_true] at h
   obtain ⟨⟨h1, h2⟩, h3⟩ := h
   split at h1
   · rename_i z hz
     simp only [Bool.and_eq_true, decide_eq_true_eq] at h1
     obtain ⟨⟨⟨⟨⟨ha, hb⟩, hc⟩, hd⟩, he⟩, hf⟩ := h1
     refine ⟨⟨ti, z, hi, ha, hb, hz, zsChk_rep hc, hd, he, zsChk_leaf hc, ?_⟩, ⟨d, hu, descChk_ok h2⟩, fun gs hgs => ?_⟩
     · cases hk : i.k.agg with
       | true => rw [hk] at hf; cases z <;> first | rfl | cases hf
       | false => rw [hk] at hf; exact hf
     · rw [hgs] at h3; exact subsChk_ok h3
   · cases h1
 · cases h
def tysChk (P : Program) : Nat → List (Option TInfo) → Bool
 | _, [] => true
 | t, none :: is => tysChk P (t + 1) is
 | t, some i :: is => tyChk P t i && tysChk P (t + 1) is
def tyAt (l : List (Option TInfo)) (t : Nat) : Option TInfo := l.getD t none
theorem tysChk_ok {P : Program} : ∀ (l : List (Option TInfo)) (k : Nat), tysChk P k l = true → ∀ t i, tyAt l t = some i → TyOk P (k + t) i
 | [], _, _, _, _, h => by simp [tyAt] at h
 | none :: is, k, h, 0, i, hi => by simp [tyAt] at hi
 | none :: is, k, h, t + 1, i, hi => by
   have := tysChk_ok is (k + 1) h t i (by simpa [tyAt] using hi)
   rwa [show k + 1 + t = k + (t + 1) by omega] at this
 | some i' :: is, k, h, 0, i, hi => by
   simp only [tysChk, Bool.and_eq_true] at h
   simp [tyAt] at hi
   subst hi
   exact tyChk_ok h.1
 | some i' :: is, k, h, t + 1, i, hi => by
   simp only [tysChk, Bool.and_eq_true] at h
   have := tysChk_ok is (k + 1) h.2 t i (by simpa [tyAt] using hi)
   rwa [show k + 1 + t = k + (t + 1) by omega] at this
end Go.Abs
