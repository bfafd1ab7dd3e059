import Derived.Test.YthgibjeclmkbpaaAbs19ftoAbs24
set_option linter.unusedSimpArgs false
set_option linter.unusedVariables false
namespace Go.Abs
open Go.RowKit
variable {E : Env} {g : Ghost} {σ : Store} {w : World}
theorem stepI_get {ops : Array Oper} {i t : Nat} {s s' : Fr × Store} (h : stepI E ops i s = some s') (hd : ∀ o, ops[i]? = some o → o.dst ≠ some t) : s'.1.getD t .top = s.1.getD t .top := by
 obtain ⟨fr, σ⟩ := s
 cases ho : ops[i]? with
 | none =>
   simp only [stepI, ho] at h
   injection h with h
   subst h; rfl
 | some o =>
   rw [stepI_eff ho] at h
   obtain ⟨p, _, h1⟩ := bindO_eq h
   injection h1 with h1
   subst h1
   exact getD_set (hd o ho)
theorem runI_get {ops : Array Oper} {t : Nat} : ∀ (L : List Nat) {s s' : Fr × Store}, runI E ops L s = some s' → (∀ i ∈ L, ∀ o, ops[i]? = some o → o.dst ≠ some t) → s'.1.getD t .top = s.1.getD t .top
 | [], s, s', h, _ => by injection h with h; subst h; rfl
 | i :: L, s, s', h, hd => by
   obtain ⟨s1, h1, h2⟩ := bindO_eq h
   rw [runI_get L h2 (fun j hj => hd j (by simp [hj])), stepI_get h1 (hd i (by simp))]
def noDstA (ops : Array Oper) (A : List Nat) (t a : Nat) : Bool := (List.range ops.size).all fun j => decide (j < a) || A.contains j || decide ((ops[j]?).bind (·.dst) ≠ some t)
theorem noDstA_spec {ops : Array Oper} {A : List Nat} {t a : Nat} (h : noDstA ops A t a = true) {i : Nat} (hi : a ≤ i) (hA : A.contains i = false) {o : Oper} (ho : ops[i]? = some o) : o.dst ≠ some t := by
 have hlt : i < ops.size := (Array.getElem?_eq_some_iff.1 ho).1
 have := List.all_eq_true.1 h i (List.mem_range.2 hlt)
 simp only [Bool.or_eq_true, decide_eq_true_eq, hA] at this
 rcases this with (h | h) | h
 · omega
 · cases h
 · rw [ho] at h; exact h
def isLen : Op → Bool
 | .call c => match c.callee with
   | .builtin .len => true
   | _ => false
 | _ => false
def loadAt : Op → Option Nat
 | .load _ (.tmp p) => some p
 | _ => none
def storeAt : Op → Option Nat
 | .store _ (.tmp q) _ => some q
 | _ => none
def zPair (l : List (Nat × Nat)) (ops : Array Oper) (A : List Nat) (a i : Nat) : Bool :=
 match ops[a]?, ops[i]? with
 | some x, some y => x.apart ops y && (match storeAt y.op with
   | some q => noDstA ops A q a && l.any (fun e => e.2 == q && e.1 != e.2) && (isLen x.op || (match loadAt x.op with
     | some p => noDstA ops A p a && (p != q) && l.contains (p, q)
     | none => false))
   | none => false)
 | _, _ => false
theorem curR_var {j id ver : Nat} {cs cs' : List AV} {p : Nat × List (List AV)} (hj : objVar σ[j]? = some cs) (h : curR σ id ver = some p) : curR (σ.set j (.var cs')) id ver = some p := by
 have h1 := curR_eq h
 have : id ≠ j := by
   rintro rfl
   rcases h1 with h1 | h1 | h1 <;> (rw [h1] at hj; cases hj)
 unfold curR at h ⊢
 rw [set_other id this]; exact h
theorem curA_var {j id ver : Nat} {cs cs' : List AV} {p : Nat × List (List AV)} (hj : objVar σ[j]? = some cs) (h : curA σ id ver = some p) : curA (σ.set j (.var cs')) id ver = some p := by
 have h1 := curA_eq h
 have : id ≠ j := by
   rintro rfl
   rcases h1 with h1 | h1 <;> (rw [h1] at hj; cases hj)
 unfold curA at h ⊢
 rw [set_other id this]; exact h
theorem load_var {j : Nat} {cs cs' : List AV} {t b : Nat} {a v : AV} (hj : objVar σ[j]? = some cs) (hal : aliV a (.ptr j b) = true) (h : aLoad E σ t a = some v) : aLoad E (σ.set j (.var cs')) t a = some v := by
 obtain ⟨ti, ht, h⟩ := bindO_eq h
 simp only [aLoad, ht, bindO_some]
 cases a with
 | ptr id off =>
   have hne : id ≠ j := by
     rintro rfl
     simp [aliV] at hal
   obtain ⟨ds, h1, h2⟩ := bindO_eq h
   simp only [aLoadV, set_other id hne, h1]; exact h2
 | rptr id ver sz i off =>
   obtain ⟨p, h1, h2⟩ := bindO_eq h
   simp only [aLoadV, curR_var hj h1]; exact h2
 | cref cs => exact h
 | _ => simp [aLoadV] at h
theorem len_var {j : Nat} {cs cs' : List AV} {ts : List TypeId} {x v : AV} (hj : objVar σ[j]? = some cs) (h : aLen E σ ts x = some v) : aLen E (σ.set j (.var cs')) ts x = some v := by
 obtain ⟨t, ht, h⟩ := bindO_eq h
 obtain ⟨ti, hti, h⟩ := bindO_eq h
 simp only [aLen, ht, hti, bindO_some]
 cases hk : ti.k <;> rw [hk] at h <;> cases x <;> first | exact h | (cases h; done) | skip
 obtain ⟨p, h1, h2⟩ := bindO_eq h
 simp only [aLenK, curA_var hj h1]; exact h2
theorem aliF_mem {l : List (Nat × Nat)} {fr : Fr} (h : aliF l fr = true) {q : Nat × Nat} (hq : q ∈ l) (hne : q.1 ≠ q.2) : aliV (fr.getD q.1 .top) (fr.getD q.2 .top) = true := by
 have := List.all_eq_true.1 h q hq
 simp only [aliP, decide_eq_false hne] at this
 exact this
theorem aliF_rd {l : List (Nat × Nat)} {fr : Fr} (h : aliF l fr = true) {p : Nat} (hq : (p, p) ∈ l) : isRd (fr.getD p .top) = true := by
 have := List.all_eq_true.1 h (p, p) hq
 simp only [aliP, decide_true] at this
 exact this
theorem aliV_ptr {a b : AV} (h : aliV a b = true) : ∃ j o, b = .ptr j o := by
 cases a <;> cases b <;> first | (cases h; done) | exact ⟨_, _, rfl⟩
theorem comm_stepZ' {l : List (Nat × Nat)} {ops : Array Oper} {A : List Nat} {a i : Nat} (hz : zPair l ops A a i = true) {s s1 s2 : Fr × Store} {frF : Fr} (get : ∀ t, noDstA ops A t a = true → frF.getD t .top = s.1.getD t .top) (hal : aliF l frF = true)
   (h1 : stepI E ops a s = some s1) (h2 : stepI E ops i s1 = some s2) : ∃ s1', stepI E ops i s = some s1' ∧ stepI E ops a s1' = some s2 := by
 obtain ⟨fr, σ⟩ := s
 unfold zPair at hz
 cases hx : ops[a]? with
 | none => rw [hx] at hz; cases hz
 | some x =>
   cases hy : ops[i]? with
   | none => rw [hx, hy] at hz; cases hz
   | some y =>
     rw [hx, hy] at hz
     simp only [Bool.and_eq_true] at hz
     obtain ⟨hap, hk⟩ := hz
     obtain ⟨ha1, ha2, ha3⟩ := Oper.apart_spec hap
     rw [stepI_eff hx] at h1
     obtain ⟨p, hpe, h3⟩ := bindO_eq h1
     injection h3 with h3
     subst h3
     rw [stepI_eff hy] at h2
     obtain ⟨q, hqe, h4⟩ := bindO_eq h2
     injection h4 with h4
     subst h4
     have e1 : eff E ops y (setT fr x.dst p.1) p.2 = eff E ops y fr p.2 := eff_same fun t ht => getD_set fun e => ha1 t e ht
     rw [e1] at hqe
     have e2 : ∀ σ2, eff E ops x (setT fr y.dst q.1) σ2 = eff E ops x fr σ2 := fun σ2 => eff_same fun t ht => getD_set fun e => ha3 t e ht
     have hset : setT (setT fr x.dst p.1) y.dst q.1 = setT (setT fr y.dst q.1) x.dst p.1 := set_comm fun t ht => ha2 t ht
     rw [stepI_eff hy]
     suffices hs : ∃ σ1, eff E ops y fr σ = some (q.1, σ1) ∧ eff E ops x fr σ1 = some (p.1, q.2) by
       obtain ⟨σ1, hs1, hs2⟩ := hs
       refine ⟨(setT fr y.dst q.1, σ1), by rw [hs1]; rfl, ?_⟩
       rw [stepI_eff hx, e2, hs2, hset]
       rfl
     simp only at get
     obtain ⟨xd, xo, xt, xp, xa, xg⟩ := x
     obtain ⟨yd, yo, yt, yp, ya, yg⟩ := y
     simp only at hk
     cases yo <;> try (cases hk; done)
     rename_i ty ad val
     cases ad <;> try (cases hk; done)
     rename_i q0
     simp only [storeAt, Bool.and_eq_true] at hk
     obtain ⟨⟨hq1, hq2⟩, hk⟩ := hk
     obtain ⟨e, he, heq⟩ := List.any_eq_true.1 hq2
     simp only [Bool.and_eq_true, beq_iff_eq, bne_iff_ne, ne_eq] at heq
     have hne := heq.2
     have heq : e.2 = q0 := heq.1
     have hav := aliF_mem hal he hne
     rw [heq] at hav
     obtain ⟨j, b, hjb⟩ := aliV_ptr hav
     have hfq : fr.getD q0 .top = .ptr j b := by rw [← get q0 hq1]; exact hjb
     -- what the reader does
     have rd : ∀ (hp2 : p.2 = σ) (hgo : ∀ cs cs' : List AV, objVar σ[j]? = some cs → eff E ops ⟨xd, xo, xt, xp, xa, xg⟩ fr (σ.set j (.var cs')) = some (p.1, σ.set j (.var cs'))), ∃ σ1, eff E ops ⟨yd, .store ty (.tmp q0) val, yt, yp, ya, yg⟩ fr σ = some (q.1, σ1) ∧ eff E ops ⟨xd, xo, xt, xp, xa, xg⟩ fr σ1 = some (p.1, q.2) := by
       intro hp2 hgo
       rw [hp2] at hqe
       refine ⟨q.2, hqe, ?_⟩
       obtain ⟨bb, hb, hh⟩ := bindO_eq hqe
       rcases iteO_eq hh with ⟨rfl, hh⟩ | ⟨rfl, hh⟩
       · obtain ⟨σ', hst, hh⟩ := bindO_eq hh
         injection hh with hh
         subst hh
         obtain ⟨ti, _, hst⟩ := bindO_eq hst
         have hst : aStoreV σ ti.size (evalO fr val) (fr.getD q0 .top) = some σ' := hst
         rw [hfq] at hst
         obtain ⟨us, _, hst⟩ := bindO_eq hst
         obtain ⟨_, hst⟩ := iteO_none hst
         obtain ⟨cs, hcs, hst⟩ := bindO_eq hst
         obtain ⟨cs', _, hst⟩ := bindO_eq hst
         injection hst with hst
         subst hst
         exact hgo cs cs' hcs
       · injection hh with hh
         subst hh
         rw [hpe, ← hp2]
     obtain ⟨bb, hb, hh⟩ := bindO_eq hpe
     have hgo0 : ∀ σ2, eff E ops ⟨xd, xo, xt, xp, xa, xg⟩ fr σ2 = iteO bb (aOp E fr σ2 xt xo) (some (.tuple [], σ2)) := fun σ2 => by
       show bindO (wants ops fr xg) _ = _
       rw [hb]; rfl
     rcases iteO_eq hh with ⟨rfl, hh⟩ | ⟨rfl, hh⟩
     · simp only [Bool.or_eq_true] at hk
       rcases hk with hk | hk
       · cases xo with
         | call c =>
           cases hcal : c.callee with
           | builtin bi =>
             have hbi : bi = .len := by
               simp only [isLen, hcal] at hk
               cases bi <;> first | rfl | (cases hk; done)
             subst hbi
             have haop : ∀ σ2 : Store, aOp E fr σ2 xt (.call c) = aBuiltin E σ2 c.argTypes .len (evalOs fr c.args.toList) := fun σ2 => by
               obtain ⟨cal, cargs, cts⟩ := c
               have hcal : cal = .builtin .len := hcal
               subst hcal
               rfl
             rw [haop] at hh
             cases hxs : evalOs fr c.args.toList with
             | nil => rw [hxs] at hh; cases hh
             | cons x1 xs =>
               cases xs with
               | cons _ _ => rw [hxs] at hh; cases hh
               | nil =>
                 rw [hxs] at hh
                 obtain ⟨v, hv, hh⟩ := bindO_eq hh
                 injection hh with hh
                 subst hh
                 refine rd rfl fun cs cs' hcs => ?_
                 rw [hgo0, iteO_true, haop, hxs]
                 show keepS _ (aLen E (σ.set j (.var cs')) c.argTypes.toList x1) = _
                 rw [len_var hcs hv]; rfl
           | _ => simp only [isLen, hcal] at hk; cases hk
         | _ => cases hk
       · cases xo with
         | load lt la =>
           cases la with
           | tmp p0 =>
             simp only [loadAt, Bool.and_eq_true, List.contains_iff_mem, bne_iff_ne, ne_eq] at hk
             obtain ⟨⟨hp1, hp0⟩, hp2⟩ := hk
             have hav2 := aliF_mem hal hp2 hp0
             simp only at hav2
             rw [hjb, get p0 hp1] at hav2
             obtain ⟨v, hv, hh⟩ := bindO_eq hh
             injection hh with hh
             subst hh
             refine rd rfl fun cs cs' hcs => ?_
             rw [hgo0]
             show keepS _ (aLoad E (σ.set j (.var cs')) lt (fr.getD p0 .top)) = _
             have hv : aLoad E σ lt (fr.getD p0 .top) = some v := hv
             rw [load_var hcs hav2 hv]; rfl
           | _ => cases hk
         | _ => cases hk
     · injection hh with hh
       subst hh
       exact rd rfl fun cs cs' _ => by rw [hgo0]; rfl
theorem get_of {ops : Array Oper} {A : List Nat} {a : Nat} {s sF : Fr × Store} {rest : List Nat} (hF : runI E ops (a :: rest) s = some sF) (hrest : ∀ j ∈ rest, a < j) (hA : ∀ j ∈ a :: rest, A.contains j = false) :
   ∀ t, noDstA ops A t a = true → sF.1.getD t .top = s.1.getD t .top := fun t ht => runI_get (a :: rest) hF fun j hj o ho => noDstA_spec ht (by
     rcases List.mem_cons.1 hj with rfl | hj
     · exact Nat.le_refl _
     · exact Nat.le_of_lt (hrest j hj)) (hA j hj) ho
theorem comm_stepZ {l : List (Nat × Nat)} {ops : Array Oper} {A : List Nat} {a i : Nat} (hz : zPair l ops A a i = true) {s s1 s2 sF : Fr × Store} {rest : List Nat} (hF : runI E ops (a :: rest) s = some sF) (hrest : ∀ j ∈ rest, a < j) (hA : ∀ j ∈ a :: rest, A.contains j = false) (hal : aliF l sF.1 = true)
   (h1 : stepI E ops a s = some s1) (h2 : stepI E ops i s1 = some s2) : ∃ s1', stepI E ops i s = some s1' ∧ stepI E ops a s1' = some s2 := comm_stepZ' hz (get_of hF hrest hA) hal h1 h2
def notVar : AObj → Bool
 | .var _ => false
 | _ => true
def Grown (σ σ' : Store) : Prop := ∀ id : Nat, objVar σ'[id]? = objVar σ[id]?
def GrowTab (E : Env) (gf : Nat → Bool) : Prop := ∀ f, gf f = true ∨ gf 1000000 = true → ∀ args σ v σ', E.tab f args σ = some (v, σ') → Grown σ σ'
theorem Grown.refl (σ : Store) : Grown σ σ := fun _ => rfl
theorem Grown.trans {a b c : Store} (h : Grown a b) (h' : Grown b c) : Grown a c := fun id => (h' id).trans (h id)
theorem Grown.push {σ : Store} {o : AObj} (h : notVar o = true) : Grown σ (σ ++ [o]) := fun id => by
 by_cases hid : id < σ.length
 · rw [List.getElem?_append_left hid]
 · rw [List.getElem?_append_right (by omega), List.getElem?_eq_none (l := σ) (by omega)]
   cases ho : ([o] : Store)[id - σ.length]? with
   | none => rfl
   | some o' =>
     have : o' = o := by
       have := List.mem_of_getElem? ho
       simpa using this
     subst this
     cases o' <;> first | rfl | cases h
theorem Grown.set {σ : Store} {j : Nat} {o o' : AObj} (ho : σ[j]? = some o) (h : notVar o = true) (h' : notVar o' = true) : Grown σ (σ.set j o') := fun id => by
 by_cases hid : id = j
 · subst hid
   rw [List.getElem?_set_self (List.getElem?_eq_some_iff.1 ho).1, ho]
   cases o <;> cases o' <;> first | rfl | (cases h; done) | (cases h'; done)
 · rw [List.getElem?_set_ne (by omega)]
theorem freezeL_grown {v : AV} {q : AV × Store} (h : freezeL σ v = some q) : Grown σ q.2 := by
 cases v <;> first | (injection h with h; subst h; exact Grown.refl _) | (cases h; done) | skip
 rename_i id ver
 have h : objFrz σ id ver σ[id]? = some q := h
 unfold objFrz at h
 split at h
 · rename_i sz v es heq
   obtain ⟨_, h1⟩ := iteO_none h
   injection h1 with h1
   subst h1
   exact Grown.set heq rfl rfl
 · obtain ⟨_, h1⟩ := iteO_none h
   injection h1 with h1
   subst h1
   exact Grown.refl _
 · rename_i sz v es heq
   obtain ⟨_, h1⟩ := iteO_none h
   injection h1 with h1
   subst h1
   exact Grown.set heq rfl rfl
 · cases h
theorem freezeLs_grown : ∀ {cs : List AV} {σ : Store} {q : List AV × Store}, freezeLs σ cs = some q → Grown σ q.2
 | [], _, _, h => by injection h with h; subst h; exact Grown.refl _
 | c :: cs, σ, q, h => by
   obtain ⟨a, ha, h1⟩ := bindO_eq h
   obtain ⟨b, hb, h2⟩ := bindO_eq h1
   injection h2 with h2
   subst h2
   have hb' : Grown a.2 b.2 := freezeLs_grown (cs := cs) hb
   exact (freezeL_grown ha).trans hb'
theorem freeze_grown {v : AV} {q : AV × Store} (h : freeze σ v = some q) : Grown σ q.2 := by
 cases v <;> first | (injection h with h; subst h; exact Grown.refl _) | (cases h; done) | skip
 · obtain ⟨a, ha, h1⟩ := bindO_eq h
   injection h1 with h1
   subst h1
   exact freezeLs_grown ha
 · rename_i id ver
   exact freezeL_grown (v := .rs id ver) h
theorem build_grown {sz : Nat} : ∀ {ps : List (Nat × AV)} {es : List (List AV)} {σ : Store} {q : List (List AV) × Store}, aBuildElems σ sz ps es = some q → Grown σ q.2
 | [], _, _, _, h => by injection h with h; subst h; exact Grown.refl _
 | (i, v) :: ps, es, σ, q, h => by
   obtain ⟨a, ha, h1⟩ := bindO_eq h
   obtain ⟨us, _, h2⟩ := bindO_eq h1
   obtain ⟨_, h3⟩ := iteO_none h2
   exact (freeze_grown ha).trans (build_grown h3)
theorem appendV_grown {size bytes : Nat} {xs : List (List AV)} {s : AV} {q : AV × Store} (h : aAppendV σ size bytes xs s = some q) : Grown σ q.2 := by
 cases s with
 | rs id ver =>
   obtain ⟨p, hc, h1⟩ := bindO_eq h
   obtain ⟨_, h2⟩ := iteO_none h1
   injection h2 with h2
   rcases curA_eq hc with hc | hc
   · rw [hc] at h2; subst h2; exact Grown.set hc rfl rfl
   · rw [hc] at h2
     cases xs with
     | nil => subst h2; exact Grown.refl _
     | cons x xs => subst h2; exact Grown.set hc rfl rfl
 | sl f sz es =>
   cases f with
   | false => cases h
   | true =>
     obtain ⟨_, h2⟩ := iteO_none h
     cases xs with
     | nil => injection h2 with h2; subst h2; exact Grown.refl _
     | cons x xs => injection h2 with h2; subst h2; exact Grown.push rfl
 | _ => cases h
theorem append_grown {ts : Array TypeId} {q : AV × Store} : ∀ {xs : List AV}, aBuiltin E σ ts .append xs = some q → Grown σ q.2
 | [s, x], h => by
   obtain ⟨t, _, h1⟩ := bindO_eq h
   obtain ⟨ti, _, h1⟩ := bindO_eq h1
   obtain ⟨e, _, h1⟩ := bindO_eq h1
   obtain ⟨ei, _, h1⟩ := bindO_eq h1
   obtain ⟨r, _, h1⟩ := bindO_eq h1
   obtain ⟨_, h2⟩ := iteO_none h1
   exact appendV_grown h2
 | [], h => by cases h
 | [_], h => by cases h
 | _ :: _ :: _ :: _, h => by cases h
def tmpsOf : List (Nat × Operand) → List Nat
 | [] => []
 | (_, .tmp p) :: ps => p :: tmpsOf ps
 | _ :: ps => tmpsOf ps
def rdOp : Op → Option (List Nat)
 | .load _ (.tmp p) => some [p]
 | .indexAddr _ (.tmp p) _ => some [p]
 | .buildSlice _ _ ps => some (tmpsOf ps.toList)
 | .slice _ (.tmp p) _ _ _ => some [p]
 | .call c => match c.callee, c.args.toList with
   | .builtin .len, [.tmp p] => some [p]
   | _, _ => none
 | _ => none
theorem freeze_rd {σ σ' : Store} {v : AV} (hr : v.data = true ∨ (∀ σ, freeze σ v = none)) : freeze σ' v = bindO (freeze σ v) fun q => some (q.1, σ') := by
 rcases hr with hr | hr
 · have hl : ∀ (cs : List AV) (σ : Store), allDataL cs = true → ∃ cs', ∀ σ, freezeLs σ cs = some (cs', σ) := by
     intro cs
     induction cs with
     | nil => exact fun _ _ => ⟨[], fun _ => rfl⟩
     | cons c cs ih =>
       intro σ h
       simp only [allDataL, Bool.and_eq_true] at h
       obtain ⟨cs', h2⟩ := ih σ h.2
       obtain ⟨c', h1⟩ : ∃ c', ∀ σ, freezeL σ c = some (c', σ) := by
         cases c <;> first | exact ⟨_, fun _ => rfl⟩ | (simp [AV.dataL] at h; done)
       exact ⟨c' :: cs', fun σ => by simp only [freezeLs, h1, h2, bindO_some]⟩
   cases v <;> first | rfl | (simp [AV.data] at hr; done) | skip
   rename_i cs
   obtain ⟨cs', h⟩ := hl cs σ hr
   simp only [freeze, h, bindO_some]
 · rw [hr, hr]; rfl
theorem isRd_frz {v : AV} (h : isRd v = true) : v.data = true ∨ ∀ σ, freeze σ v = none := by
 cases v <;> first | exact .inl h | exact .inr fun _ => rfl
theorem evalO_frz {fr : Fr} {x : Operand} (h : ∀ p, x = .tmp p → isRd (fr.getD p .top) = true) : (evalO fr x).data = true ∨ ∀ σ, freeze σ (evalO fr x) = none := by
 cases x with
 | tmp p => exact isRd_frz (h p rfl)
 | const v =>
   have hleaf : ∀ v : Value, (ofLeaf v).dataL = true ∨ ofLeaf v = .top := fun v => by
     unfold ofLeaf; split <;> first | exact .inl rfl | exact .inr rfl
   have hleaf2 : ∀ v : Value, (ofLeaf v).data = true ∨ ofLeaf v = .top := fun v => by
     unfold ofLeaf; split <;> first | exact .inl rfl | exact .inr rfl
   show (ofValue v).data = true ∨ ∀ σ, freeze σ (ofValue v) = none
   unfold ofValue
   split
   · rename_i cs
     by_cases hd : allDataL (cs.toList.map ofLeaf) = true
     · exact .inl hd
     · refine .inr fun σ => ?_
       have : ∀ (l : List Value) (σ : Store), allDataL (l.map ofLeaf) ≠ true → freezeLs σ (l.map ofLeaf) = none := by
         intro l
         induction l with
         | nil => intro σ h; exact absurd rfl h
         | cons a l ih =>
           intro σ h
           simp only [List.map_cons, allDataL, Bool.and_eq_true, ne_eq] at h
           show bindO (freezeL σ (ofLeaf a)) _ = none
           rcases hleaf a with ha | ha
           · have hf : ∃ c', freezeL σ (ofLeaf a) = some (c', σ) := by
               cases hc : ofLeaf a <;> rw [hc] at ha <;> first | exact ⟨_, rfl⟩ | (simp [AV.dataL] at ha; done)
             obtain ⟨c', hc'⟩ := hf
             rw [hc', bindO_some]
             show bindO (freezeLs σ (l.map ofLeaf)) _ = none
             rw [ih σ fun e => h ⟨ha, e⟩]; rfl
           · rw [ha]; rfl
       show freeze σ (.agg (cs.toList.map ofLeaf)) = none
       show bindO (freezeLs σ (cs.toList.map ofLeaf)) _ = none
       rw [this _ _ hd]; rfl
   · rcases hleaf2 v with h1 | h1
     · exact .inl h1
     · exact .inr fun σ => by rw [h1]; rfl
 | global _ => exact .inr fun _ => rfl
 | func f => exact .inl rfl
theorem build_rd {σ σ' : Store} {sz : Nat} : ∀ (ps : List (Nat × AV)) (es : List (List AV)), (∀ q ∈ ps, q.2.data = true ∨ ∀ σ, freeze σ q.2 = none) → aBuildElems σ' sz ps es = bindO (aBuildElems σ sz ps es) fun q => some (q.1, σ') := by
 have stay : ∀ {v : AV} {q : AV × Store} {σ : Store}, (v.data = true ∨ ∀ σ, freeze σ v = none) → freeze σ v = some q → q.2 = σ := fun {v q σ} h hq => by
   have := freeze_rd (σ := σ) (σ' := σ) h
   rcases h with h | h
   · cases v <;> first | (injection hq with hq; subst hq; rfl) | (simp [AV.data] at h; done) | (cases hq; done) | skip
     rename_i cs
     obtain ⟨p, hp, h1⟩ := bindO_eq hq
     injection h1 with h1
     subst h1
     have hl : ∀ (cs : List AV) (p : List AV × Store), allDataL cs = true → freezeLs σ cs = some p → p.2 = σ := by
       intro cs
       induction cs with
       | nil => intro p _ h; injection h with h; subst h; rfl
       | cons c cs ih =>
         intro p h hp
         simp only [allDataL, Bool.and_eq_true] at h
         obtain ⟨a, ha, h1⟩ := bindO_eq hp
         obtain ⟨b, hb, h2⟩ := bindO_eq h1
         injection h2 with h2
         subst h2
         have hc : a.2 = σ := by
           cases c <;> first | (injection ha with ha; subst ha; rfl) | (simp [AV.dataL] at h; done)
         rw [hc] at hb
         exact ih b h.2 hb
     exact hl cs p h hp
   · rw [h] at hq; cases hq
 intro ps
 induction ps with
 | nil => intro es _; rfl
 | cons q ps ih =>
   intro es h
   obtain ⟨i, v⟩ := q
   have hv := h (i, v) (by simp)
   simp only [aBuildElems]
   rw [freeze_rd hv]
   cases hf : freeze σ v with
   | none => rfl
   | some q =>
     have hs := stay hv hf
     simp only [bindO_some]
     cases cellsOf q.1 with
     | none => rfl
     | some us =>
       simp only [bindO_some]
       cases (decide (us.length = sz) && decide (i < es.length)) with
       | false => rfl
       | true =>
         simp only [iteO_true]
         rw [hs]
         exact ih _ fun q hq => h q (by simp [hq])
def isG (gf : Nat → Bool) : Op → Bool
 | .call c => match c.callee with
   | .value (.func f) => gf f || gf 1000000
   | .value (.tmp _) => gf 1000000
   | .builtin .append => true
   | _ => false
 | .buildSlice _ _ _ => true
 | _ => false
def rdOk (l : List (Nat × Nat)) (ops : Array Oper) (A : List Nat) (a : Nat) (op : Op) : Bool := match rdOp op with
 | some ps => ps.all fun p => noDstA ops A p a && l.contains (p, p)
 | none => false
def gPair (gf : Nat → Bool) (l : List (Nat × Nat)) (ops : Array Oper) (A : List Nat) (a i : Nat) : Bool :=
 match ops[a]?, ops[i]? with
 | some x, some y => x.apart ops y && (((isG gf x.op || rdOk l ops A a x.op) && rdOk l ops A a y.op) || (isG gf y.op && rdOk l ops A a x.op))
 | _, _ => false
theorem rd_grown {σ σ' : Store} (h : Grown σ σ') {fr : Fr} {ty : Nat} {op : Op} {ps : List Nat} (hop : rdOp op = some ps) (hrs : ∀ p ∈ ps, isRd (fr.getD p .top) = true) :
   aOp E fr σ' ty op = bindO (aOp E fr σ ty op) fun q => some (q.1, σ') := by
 have kS : ∀ (x : Option AV), keepS σ' x = bindO (keepS σ x) fun q => some (q.1, σ') := fun x => by cases x <;> rfl
 cases op <;> try (cases hop; done)
 case load t a =>
   cases a <;> try (cases hop; done)
   rename_i p0
   injection hop with hop
   subst hop
   have hr := hrs p0 (by simp)
   show keepS _ (aLoad E σ' t (fr.getD p0 .top)) = bindO (keepS σ (aLoad E σ t (fr.getD p0 .top))) _
   rw [← kS]
   congr 1
   simp only [aLoad]
   cases hv : fr.getD p0 .top <;> first | rfl | (rw [hv] at hr; simp [isRd, AV.data] at hr; done) | (simp only [aLoadV, h _])
 case indexAddr t a i =>
   cases a <;> try (cases hop; done)
   rename_i p0
   injection hop with hop
   subst hop
   have hr := hrs p0 (by simp)
   show keepS _ (aIndexAddr E σ' t (fr.getD p0 .top) (evalO fr i)) = bindO (keepS σ (aIndexAddr E σ t (fr.getD p0 .top) (evalO fr i))) _
   rw [← kS]
   congr 1
   simp only [aIndexAddr]
   cases E.ty t with
   | none => rfl
   | some ti =>
     simp only [bindO_some]
     cases asI (evalO fr i) with
     | none => rfl
     | some n =>
       simp only [bindO_some]
       cases ti.k <;> try rfl
       rename_i e
       simp only [aIndexAddrK]
       cases E.ty e with
       | none => rfl
       | some ei =>
         simp only [bindO_some]
         cases hv : fr.getD p0 .top <;> first | rfl | (rw [hv] at hr; simp [isRd, AV.data] at hr; done)
 case slice t x lo hi mx =>
   cases x <;> try (cases hop; done)
   rename_i p0
   injection hop with hop
   subst hop
   have hr := hrs p0 (by simp)
   show bindO (optI fr lo) (fun lo => bindO (optI fr hi) fun hi => bindO (optI fr mx) fun mx => aSlice E σ' t (fr.getD p0 .top) lo hi mx) = bindO (bindO (optI fr lo) (fun lo => bindO (optI fr hi) fun hi => bindO (optI fr mx) fun mx => aSlice E σ t (fr.getD p0 .top) lo hi mx)) _
   cases optI fr lo with
   | none => rfl
   | some lo =>
     cases optI fr hi with
     | none => rfl
     | some hi =>
       cases optI fr mx with
       | none => rfl
       | some mx =>
         simp only [bindO_some, aSlice]
         cases E.ty t with
         | none => rfl
         | some ti =>
           simp only [bindO_some]
           cases hv : fr.getD p0 .top <;> first | (rw [hv] at hr; simp [isRd, AV.data] at hr; done) | (cases ti.k <;> rfl) | skip
           · cases ti.k <;> try rfl
             simp only [aSliceK]
             cases mx.isNone && inS (lo.getD 0) (hi.getD _) _ <;> rfl
           · cases ti.k <;> try rfl
             rename_i e
             simp only [aSliceK]
             cases E.ty e with
             | none => rfl
             | some ei =>
               simp only [bindO_some]
               generalize ((decide (_ = ei.size) || List.isEmpty _) && inS _ _ _) = b
               cases b with
               | false => rfl
               | true =>
                 simp only [iteO_true]
                 cases mx with
                 | none => rfl
                 | some m =>
                   simp only []
                   generalize (decide (m = _) && hi.isSome) = b
                   cases b <;> rfl
 case buildSlice t n ps =>
   injection hop with hop
   subst hop
   simp only [aOp, aBuildSlice]
   cases E.ty t with
   | none => rfl
   | some ti =>
     simp only [bindO_some]
     cases tkSlice ti.k with
     | none => rfl
     | some e =>
       simp only [bindO_some]
       cases E.ty e with
       | none => rfl
       | some ei =>
         simp only [bindO_some]
         cases decide (n * ei.size ≤ 16777216 ∧ ei.size ≠ 0) with
         | false => rfl
         | true =>
           simp only [iteO_true]
           rw [build_rd]
           · cases aBuildElems σ ei.size (evalPs fr ps.toList) (List.replicate n ei.zero) <;> rfl
           · have : ∀ (l : List (Nat × Operand)), (∀ p ∈ tmpsOf l, isRd (fr.getD p .top) = true) → ∀ q ∈ evalPs fr l, q.2.data = true ∨ ∀ σ, freeze σ q.2 = none := by
               intro l
               induction l with
               | nil => intro _ q hq; cases hq
               | cons x l ih =>
                 intro hl q hq
                 obtain ⟨i, x⟩ := x
                 simp only [evalPs, List.mem_cons] at hq
                 rcases hq with rfl | hq
                 · exact evalO_frz fun p hp => by subst hp; exact hl p (by simp [tmpsOf])
                 · exact ih (fun p hp => hl p (by cases x <;> simp [tmpsOf, hp])) q hq
             exact this _ hrs
 case call c =>
   obtain ⟨cal, cargs, cts⟩ := c
   cases cal with
   | builtin b =>
     cases b <;> try (cases hop; done)
     simp only [rdOp] at hop
     have haop : ∀ σ2 : Store, aOp E fr σ2 ty (.call ⟨.builtin .len, cargs, cts⟩) = aBuiltin E σ2 cts .len (evalOs fr cargs.toList) := fun σ2 => rfl
     rw [haop, haop]
     cases hl : cargs.toList with
     | nil => rw [hl] at hop; cases hop
     | cons x xs =>
       rw [hl] at hop
       cases x <;> try (cases hop; done)
       cases xs with
       | cons _ _ => cases hop
       | nil =>
         injection hop with hop
         subst hop
         rename_i p0
         have hr := hrs p0 (by simp)
         show keepS _ (aLen E σ' cts.toList (fr.getD p0 .top)) = bindO (keepS σ (aLen E σ cts.toList (fr.getD p0 .top))) _
         rw [← kS]
         congr 1
         simp only [aLen]
         cases oneType cts.toList with
         | none => rfl
         | some t =>
           simp only [bindO_some]
           cases E.ty t with
           | none => rfl
           | some ti =>
             simp only [bindO_some]
             cases hv : fr.getD p0 .top <;> first | (cases ti.k <;> rfl) | (rw [hv] at hr; simp [isRd, AV.data] at hr; done)
   | _ => cases hop
theorem effrd_grown {σ σ' : Store} (h : Grown σ σ') {ops : Array Oper} {o : Oper} {fr : Fr} {ps : List Nat} (hop : rdOp o.op = some ps) (hr : ∀ p ∈ ps, isRd (fr.getD p .top) = true) :
   eff E ops o fr σ' = bindO (eff E ops o fr σ) fun q => some (q.1, σ') := by
 simp only [eff]
 cases wants ops fr o.guard with
 | none => rfl
 | some b =>
   cases b with
   | true => exact rd_grown h hop hr
   | false => rfl
theorem rd_stay {ops : Array Oper} {o : Oper} {fr : Fr} {ps : List Nat} (hop : rdOp o.op = some ps) (hr : ∀ p ∈ ps, isRd (fr.getD p .top) = true) {q : AV × Store} (hq : eff E ops o fr σ = some q) : q.2 = σ := by
 obtain ⟨b, hb, h1⟩ := bindO_eq hq
 rcases iteO_eq h1 with ⟨rfl, h2⟩ | ⟨rfl, h2⟩
 · obtain ⟨dst, op, ty, ps, af, gd⟩ := o
   simp only at hop h2
   cases op <;> try (cases hop; done)
   case load => exact (keepS_P h2).1
   case indexAddr => exact (keepS_P h2).1
   case slice t x lo hi mx =>
     have := rd_grown (E := E) (σ := σ) (σ' := σ) (fr := fr) (ty := ty) (op := .slice t x lo hi mx) (Grown.refl σ) hop hr
     rw [h2] at this
     simp only [bindO_some] at this
     injection this with this
     rw [this]
   case buildSlice t n ps =>
     have := rd_grown (E := E) (σ := σ) (σ' := σ) (fr := fr) (ty := ty) (op := .buildSlice t n ps) (Grown.refl σ) hop hr
     rw [h2] at this
     simp only [bindO_some] at this
     injection this with this
     rw [this]
   case call c =>
     obtain ⟨cal, cargs, cts⟩ := c
     cases cal with
     | builtin b =>
       cases b <;> try (cases hop; done)
       exact len_R _ h2
     | _ => cases hop
 · injection h2 with h2; subst h2; rfl
theorem yield_grown {P : Program} {args : List AV} {q : AV × Store} (h : aYield E P args σ = some q) : Grown σ q.2 := by
 unfold aYield at h
 split at h
 · obtain ⟨_, h3⟩ := iteO_none h
   injection h3 with h3
   subst h3
   intro id
   cases id <;> rfl
 · cases h
theorem effG {gf : Nat → Bool} (hg : GrowTab E gf) {ops : Array Oper} {o : Oper} {fr : Fr} (hop : isG gf o.op = true) {q : AV × Store} (hq : eff E ops o fr σ = some q) : Grown σ q.2 := by
 obtain ⟨b, hb, h1⟩ := bindO_eq hq
 rcases iteO_eq h1 with ⟨rfl, h2⟩ | ⟨rfl, h2⟩
 · obtain ⟨dst, op, ty, ps, af, gd⟩ := o
   simp only at hop h2
   cases op <;> try (cases hop; done)
   case buildSlice t n ps =>
     obtain ⟨ti, _, h2⟩ := bindO_eq h2
     obtain ⟨e, _, h2⟩ := bindO_eq h2
     obtain ⟨ei, _, h2⟩ := bindO_eq h2
     obtain ⟨_, h2⟩ := iteO_none h2
     obtain ⟨r, hr, h2⟩ := bindO_eq h2
     injection h2 with h2
     subst h2
     exact build_grown hr
   case call c =>
     obtain ⟨cal, cargs, cts⟩ := c
     cases cal with
     | value f =>
       cases f with
       | func f => exact hg _ (by simpa only [isG, Bool.or_eq_true] using hop) _ _ q.1 q.2 h2
       | tmp t =>
         have h2 : aCallV E σ (evalOs fr cargs.toList) (fr.getD t .top) = some q := h2
         have hop : gf 1000000 = true := hop
         cases hv : fr.getD t .top <;> rw [hv] at h2 <;> simp only [aCallV] at h2 <;> try (cases h2; done)
         case fn k cap => exact hg k (.inr hop) _ _ q.1 q.2 h2
         case fnc k => exact hg k (.inr hop) _ _ q.1 q.2 h2
         case yfn P' => exact yield_grown (q := q) h2
       | _ => cases hop
     | builtin b =>
       cases b <;> try (cases hop; done)
       exact append_grown h2
     | _ => cases hop
 · injection h2 with h2; subst h2; exact Grown.refl _
theorem comm_stepG' {gf : Nat → Bool} (hg : GrowTab E gf) {l : List (Nat × Nat)} {ops : Array Oper} {A : List Nat} {a i : Nat} (hz : gPair gf l ops A a i = true) {s s1 s2 : Fr × Store} {frF : Fr} (get : ∀ t, noDstA ops A t a = true → frF.getD t .top = s.1.getD t .top) (hal : aliF l frF = true)
   (h1 : stepI E ops a s = some s1) (h2 : stepI E ops i s1 = some s2) : ∃ s1', stepI E ops i s = some s1' ∧ stepI E ops a s1' = some s2 := by
 obtain ⟨fr, σ⟩ := s
 unfold gPair at hz
 cases hx : ops[a]? with
 | none => rw [hx] at hz; cases hz
 | some x =>
   cases hy : ops[i]? with
   | none => rw [hx, hy] at hz; cases hz
   | some y =>
     rw [hx, hy] at hz
     simp only [Bool.and_eq_true] at hz
     obtain ⟨hap, hk⟩ := hz
     obtain ⟨ha1, ha2, ha3⟩ := Oper.apart_spec hap
     rw [stepI_eff hx] at h1
     obtain ⟨p, hpe, h3⟩ := bindO_eq h1
     injection h3 with h3
     subst h3
     rw [stepI_eff hy] at h2
     obtain ⟨q, hqe, h4⟩ := bindO_eq h2
     injection h4 with h4
     subst h4
     have e1 : eff E ops y (setT fr x.dst p.1) p.2 = eff E ops y fr p.2 := eff_same fun t ht => getD_set fun e => ha1 t e ht
     rw [e1] at hqe
     have e2 : ∀ σ2, eff E ops x (setT fr y.dst q.1) σ2 = eff E ops x fr σ2 := fun σ2 => eff_same fun t ht => getD_set fun e => ha3 t e ht
     have hset : setT (setT fr x.dst p.1) y.dst q.1 = setT (setT fr y.dst q.1) x.dst p.1 := set_comm fun t ht => ha2 t ht
     rw [stepI_eff hy]
     suffices hs : ∃ σ1, eff E ops y fr σ = some (q.1, σ1) ∧ eff E ops x fr σ1 = some (p.1, q.2) by
       obtain ⟨σ1, hs1, hs2⟩ := hs
       refine ⟨(setT fr y.dst q.1, σ1), by rw [hs1]; rfl, ?_⟩
       rw [stepI_eff hx, e2, hs2, hset]
       rfl
     simp only at get
     have rdV : ∀ {op : Op}, rdOk l ops A a op = true → ∃ t, rdOp op = some t ∧ ∀ p ∈ t, isRd (fr.getD p .top) = true := fun {op} h => by
       unfold rdOk at h
       cases ho : rdOp op with
       | none => rw [ho] at h; cases h
       | some t =>
         rw [ho] at h
         refine ⟨t, rfl, fun p hp => ?_⟩
         have := List.all_eq_true.1 h p hp
         simp only [Bool.and_eq_true, List.contains_iff_mem] at this
         rw [← get p this.1]; exact aliF_rd hal this.2
     simp only [Bool.or_eq_true, Bool.and_eq_true] at hk
     rcases hk with ⟨hgx, hry⟩ | ⟨hgy, hrx⟩
     · obtain ⟨t, hop, hv⟩ := rdV hry
       have hgr : Grown σ p.2 := by
         rcases hgx with hgx | hgx
         · exact effG hg hgx hpe
         · obtain ⟨t', hop', hv'⟩ := rdV hgx
           rw [rd_stay hop' hv' hpe]; exact Grown.refl _
       rw [effrd_grown hgr hop hv] at hqe
       obtain ⟨q', hq', h5⟩ := bindO_eq hqe
       injection h5 with h5
       subst h5
       have hst := rd_stay hop hv hq'
       exact ⟨σ, by rw [hq', ← hst], by rw [hpe]⟩
     · obtain ⟨t, hop, hv⟩ := rdV hrx
       have hst := rd_stay hop hv hpe
       rw [hst] at hqe
       have hgr := effG hg hgy hqe
       refine ⟨q.2, hqe, ?_⟩
       rw [effrd_grown hgr hop hv, hpe]; rfl
theorem comm_stepG {gf : Nat → Bool} (hg : GrowTab E gf) {l : List (Nat × Nat)} {ops : Array Oper} {A : List Nat} {a i : Nat} (hz : gPair gf l ops A a i = true) {s s1 s2 sF : Fr × Store} {rest : List Nat} (hF : runI E ops (a :: rest) s = some sF) (hrest : ∀ j ∈ rest, a < j) (hA : ∀ j ∈ a :: rest, A.contains j = false) (hal : aliF l sF.1 = true)
   (h1 : stepI E ops a s = some s1) (h2 : stepI E ops i s1 = some s2) : ∃ s1', stepI E ops i s = some s1' ∧ stepI E ops a s1' = some s2 := comm_stepG' hg hz (get_of hF hrest hA) hal h1 h2
theorem bubbleZ {pf gf : Nat → Bool} (hp : PureTab E pf) (hg : GrowTab E gf) {l : List (Nat × Nat)} {ops : Array Oper} {i : Nat} {post : List Nat} {sF : Fr × Store} (hal : aliF l sF.1 = true) {A : List Nat} : ∀ (pre : List Nat) (s : Fr × Store), (∀ a ∈ pre, pairOk pf ops a i = true ∨ zPair l ops A a i = true ∨ gPair gf l ops A a i = true) → (∀ j ∈ pre ++ i :: post, A.contains j = false) →
   (pre ++ i :: post).Pairwise (· < ·) → runI E ops (pre ++ i :: post) s = some sF → ∃ s1, stepI E ops i s = some s1 ∧ runI E ops (pre ++ post) s1 = some sF
 | [], s, _, _, _, h => by
   obtain ⟨s1, h1, h2⟩ := bindO_eq h
   exact ⟨s1, h1, h2⟩
 | a :: pre, s, hc, hA, hs, h => by
   obtain ⟨s1, h1, h2⟩ := bindO_eq h
   have hs' := List.pairwise_cons.1 hs
   obtain ⟨s2, h3, h4⟩ := bubbleZ hp hg hal pre s1 (fun b hb => hc b (by simp [hb])) (fun j hj => hA j (List.mem_cons_of_mem _ hj)) hs'.2 h2
   have hcm : ∃ s1', stepI E ops i s = some s1' ∧ stepI E ops a s1' = some s2 := by
     rcases hc a (by simp) with hk | hk | hk
     · exact comm_step hp hk h1 h3
     · exact comm_stepZ hk h (fun j hj => hs'.1 j hj) hA hal h1 h3
     · exact comm_stepG hg hk h (fun j hj => hs'.1 j hj) hA hal h1 h3
   obtain ⟨s3, h5, h6⟩ := hcm
   exact ⟨s3, h5, by simp only [List.cons_append, runI, h6, bindO_some]; exact h4⟩
def beforeOkZ (pf gf : Nat → Bool) (l : List (Nat × Nat)) (ops : Array Oper) (A : List Nat) (i : Nat) : Nat → Bool
 | 0 => true
 | a + 1 => (A.contains a || pairOk pf ops a i || zPair l ops A a i || gPair gf l ops A a i) && beforeOkZ pf gf l ops A i a
def regionOkZ (pf gf : Nat → Bool) (l : List (Nat × Nat)) (ops : Array Oper) : Nat → Bool
 | 0 => true
 | i + 1 => (deps ops i).all (fun d => decide (d < i)) && beforeOkZ pf gf l ops (upL ops i (deps ops i)) i i && regionOkZ pf gf l ops i
theorem beforeOkZ_spec {pf gf : Nat → Bool} {l : List (Nat × Nat)} {ops : Array Oper} {A : List Nat} {i : Nat} : ∀ {n : Nat}, beforeOkZ pf gf l ops A i n = true → ∀ a, a < n → a ∈ A ∨ (pairOk pf ops a i = true ∨ zPair l ops A a i = true ∨ gPair gf l ops A a i = true)
 | 0, _, a, h => absurd h (Nat.not_lt_zero _)
 | n + 1, h, a, ha => by
   simp only [beforeOkZ, Bool.and_eq_true, Bool.or_eq_true, List.contains_iff_mem, or_assoc] at h
   rcases Nat.lt_or_eq_of_le (Nat.le_of_lt_succ ha) with h1 | h1
   · exact beforeOkZ_spec h.2 a h1
   · subst h1; exact h.1
theorem regionOkZ_spec {pf gf : Nat → Bool} {l : List (Nat × Nat)} {ops : Array Oper} : ∀ {n : Nat}, regionOkZ pf gf l ops n = true → ∀ i, i < n → (∀ d ∈ deps ops i, d < i) ∧ ∀ a, a < i → a ∈ upL ops i (deps ops i) ∨ (pairOk pf ops a i = true ∨ zPair l ops (upL ops i (deps ops i)) a i = true ∨ gPair gf l ops (upL ops i (deps ops i)) a i = true)
 | 0, _, i, h => absurd h (Nat.not_lt_zero _)
 | n + 1, h, i, hi => by
   simp only [regionOkZ, Bool.and_eq_true, List.all_eq_true, decide_eq_true_eq] at h
   rcases Nat.lt_or_eq_of_le (Nat.le_of_lt_succ hi) with h1 | h1
   · exact regionOkZ_spec h.2 i h1
   · subst h1; exact ⟨h.1.1, fun a ha => beforeOkZ_spec h.1.2 a ha⟩
theorem any_wpZ (hE : EnvOk E) {pf gf : Nat → Bool} (hp : PureTab E pf) (hg : GrowTab E gf) {ops : Array Oper} {l0 : List (Nat × Nat)} (hok : regionOkZ pf gf l0 ops ops.size = true) {n : Nat} {r : Option Nat} {Q : Exit → Act → World → Prop} : ∀ (fuel : Nat) (T : List Nat) (l : Array Bool) (g : Ghost) (σ σ' : Store) (w : World) (fr fr' : Fr) (a : Act),
   aliF l0 fr' = true → T.length ≤ fuel → Rest ops l T → Inv g σ w → FrOk g σ.length fr a.tmps → runI E ops T (fr, σ) = some (fr', σ') →
   (∀ g' a' w', Moved g g' σ σ' w' → FrOk g' σ'.length fr' a'.tmps → a'.defers = a.defers → Q .normal a' w') → wpAnyIn (wideR r) n E.P .any ops Q fuel l a w := by
 have hnil : ∀ (T : List Nat) (l : Array Bool), Rest ops l T → Region.ready .any ops l = [] → T = [] := fun T l hR hr => by
   cases T with
   | nil => rfl
   | cons a rest =>
     exfalso
     have ha := (hR.mem a).1 (by simp)
     have hdeps := (regionOkZ_spec hok a ha.1).1
     have : a ∈ Region.ready .any ops l := mem_ready.2 ⟨ha.1, by rw [getD_in (by rw [hR.size]; exact ha.1) true false]; exact ha.2, fun d hd => ?_⟩
     · rw [hr] at this; simp at this
     · have hda := hdeps d hd
       refine hR.listed (by omega) fun hm => ?_
       rcases List.mem_cons.1 hm with h1 | h1
       · omega
       · have := (List.pairwise_cons.1 hR.sorted).1 d h1
         omega
 intro fuel
 induction fuel with
 | zero =>
   intro T l g σ σ' w fr fr' a hal hlen hR hI hfr hrun hQ
   have hT : T = [] := List.length_eq_zero_iff.1 (by omega)
   subst hT
   obtain ⟨h1, h2⟩ := pair_inj hrun
   subst h1; subst h2
   refine ⟨?_, hQ g a w (Moved.stay hI) hfr rfl⟩
   rw [List.eq_nil_iff_forall_not_mem]
   intro i hi
   have hi := mem_ready.1 hi
   have := (hR.mem i).2 ⟨hi.1, by rw [getD_in (by rw [hR.size]; exact hi.1) false true]; exact hi.2.1⟩
   simp at this
 | succ fuel ih =>
   intro T l g σ σ' w fr fr' a hal hlen hR hI hfr hrun hQ
   refine ⟨fun hr => ?_, fun i hi => ?_⟩
   · have hT := hnil T l hR hr
     subst hT
     obtain ⟨h1, h2⟩ := pair_inj hrun
     subst h1; subst h2
     exact hQ g a w (Moved.stay hI) hfr rfl
   · have hi := mem_ready.1 hi
     have hiT : i ∈ T := (hR.mem i).2 ⟨hi.1, by rw [getD_in (by rw [hR.size]; exact hi.1) false true]; exact hi.2.1⟩
     obtain ⟨pre, post, rfl⟩ := List.append_of_mem hiT
     have hpre : ∀ a ∈ pre, pairOk pf ops a i = true ∨ zPair l0 ops (upL ops i (deps ops i)) a i = true ∨ gPair gf l0 ops (upL ops i (deps ops i)) a i = true := fun a ha => by
       have hlt : a < i := (List.pairwise_append.1 hR.sorted).2.2 a ha i (by simp)
       rcases (regionOkZ_spec hok i hi.1).2 a hlt with h1 | h1
       · have hl := upL_listed hR.closed i _ hi.2.2 a h1
         have hn := ((hR.mem a).1 (by simp [ha])).2
         unfold Listed at hl
         rw [hn] at hl; cases hl
       · exact h1
     have hclo : ∀ j ∈ pre ++ i :: post, (upL ops i (deps ops i)).contains j = false := fun j hj => by
       cases hc : (upL ops i (deps ops i)).contains j with
       | false => rfl
       | true =>
         have hl := upL_listed hR.closed i _ hi.2.2 j (List.contains_iff_mem.1 hc)
         have hn := ((hR.mem j).1 hj).2
         unfold Listed at hl
         rw [hn] at hl; cases hl
     obtain ⟨s1, hs1, hrun1⟩ := bubbleZ hp hg hal pre _ hpre hclo hR.sorted hrun
     refine step_wp (fr' := s1.1) (σ' := s1.2) hE hI hfr hs1 fun g' a' w' hm hf hd => ?_
     refine ih (pre ++ post) _ g' s1.2 σ' w' s1.1 fr' a' hal ?_ (hR.next hi.2.2) hm.inv hf hrun1 fun g'' a'' w'' hm' hf' hd' => hQ g'' a'' w'' (hm.trans hm') hf' (hd'.trans hd)
     simp at hlen ⊢; omega
theorem draw_soundZ (hE : EnvOk E) {pf gf : Nat → Bool} (hp : PureTab E pf) (hg : GrowTab E gf) (hm : E.P.follows .mixedOrders = true) (ops : Array Oper) (l : List (Nat × Nat)) (hok : regionOkZ pf gf l ops ops.size = true) (hn : slotsOf l = []) : DrawSound E l ops := by
 intro g σ w fr a res n r id Q hI hfr h hQ
 rw [hn] at h
 obtain ⟨h, hal⟩ := aliB_some h
 refine wpIn_region_any hm ?_
 have hr := (aOps_runI (E := E) ops ops.toList 0 fr σ res (fun j => by simp) h).2
 rw [Array.length_toList, ← List.range_eq_range'] at hr
 exact any_wpZ hE hp hg hok _ _ _ g σ res.σ _ fr res.fr a hal (by simp) (rest_start ops) (hI.same rfl rfl rfl rfl) hfr hr hQ
end Go.Abs
