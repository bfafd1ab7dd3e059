import Derived.Test.YtjealnlacmfbiaaAbs19ftoAbs24
import Derived.KernelRfl
import Derived.Test.YtjealnlacmfbiaaAbs1toAbs5
set_option linter.unusedSimpArgs false
set_option linter.unusedVariables false
namespace Go.Abs
open Go.RowKit
variable {E : Env} {g : Ghost} {σ : Store} {w : World}
theorem stepI_get {ops : Array Oper} {i t : Nat} {s s' : Fr × Store} (h : stepI E ops i s = some s') (hd : ∀ o, ops[i]? = some o → o.dst ≠ some t) : s'.1.getD t .top = s.1.getD t .top := by
 obtain ⟨fr, σ⟩ := s
 cases ho : ops[i]? with
 | none =>
   simp only [stepI, ho] at h
   injection h with h
   subst h; rfl
 | some o =>
   rw [stepI_eff ho] at h
   obtain ⟨p, _, h1⟩ := bindO_eq h
   injection h1 with h1
   subst h1
   exact getD_set (hd o ho)
theorem runI_get {ops : Array Oper} {t : Nat} : ∀ (L : List Nat) {s s' : Fr × Store}, runI E ops L s = some s' → (∀ i ∈ L, ∀ o, ops[i]? = some o → o.dst ≠ some t) → s'.1.getD t .top = s.1.getD t .top
 | [], s, s', h, _ => by injection h with h; subst h; rfl
 | i :: L, s, s', h, hd => by
   obtain ⟨s1, h1, h2⟩ := bindO_eq h
   rw [runI_get L h2 (fun j hj => hd j (by simp [hj])), stepI_get h1 (hd i (by simp))]
def noDstA (ops : Array Oper) (A : List Nat) (t a : Nat) : Bool := (List.range ops.size).all fun j => decide (j < a) || A.contains j || decide ((ops[j]?).bind (·.dst) ≠ some t)
theorem noDstA_spec {ops : Array Oper} {A : List Nat} {t a : Nat} (h : noDstA ops A t a = true) {i : Nat} (hi : a ≤ i) (hA : A.contains i = false) {o : Oper} (ho : ops[i]? = some o) : o.dst ≠ some t := by
 have hlt : i < ops.size := (Array.getElem?_eq_some_iff.1 ho).1
 have := List.all_eq_true.1 h i (List.mem_range.2 hlt)
 simp only [Bool.or_eq_true, decide_eq_true_eq, hA] at this
 rcases this with (h | h) | h
 · omega
 · cases h
 · rw [ho] at h; exact h
def isLen : Op → Bool
 | .call c => match c.callee with
   | .builtin .len => true
   | _ => false
 | _ => false
def loadAt : Op → Option Nat
 | .load _ (.tmp p) => some p
 | _ => none
def storeAt : Op → Option Nat
 | .store _ (.tmp q) _ => some q
 | _ => none
def zPair (l : List (Nat × Nat)) (ops : Array Oper) (A : List Nat) (a i : Nat) : Bool :=
 match ops[a]?, ops[i]? with
 | some x, some y => x.apart ops y && (match storeAt y.op with
   | some q => noDstA ops A q a && l.any (fun e => e.2 == q && e.1 != e.2) && (isLen x.op || (match loadAt x.op with
     | some p => noDstA ops A p a && (p != q) && l.contains (p, q)
     | none => false))
   | none => false)
 | _, _ => false
theorem curR_var {j id ver : Nat} {cs cs' : List AV} {p : Nat × List (List AV)} (hj : objVar σ[j]? = some cs) (h : curR σ id ver = some p) : curR (σ.set j (.var cs')) id ver = some p := by
 have h1 := curR_eq h
 have : id ≠ j := by
   rintro rfl
   rcases h1 with h1 | h1 | h1 <;> (rw [h1] at hj; cases hj)
 unfold curR at h ⊢
 rw [set_other id this]; exact h
theorem curA_var {j id ver : Nat} {cs cs' : List AV} {p : Nat × List (List AV)} (hj : objVar σ[j]? = some cs) (h : curA σ id ver = some p) : curA (σ.set j (.var cs')) id ver = some p := by
 have h1 := curA_eq h
 have : id ≠ j := by
   rintro rfl
   rcases h1 with h1 | h1 <;> (rw [h1] at hj; cases hj)
 unfold curA at h ⊢
 rw [set_other id this]; exact h
theorem load_var {j : Nat} {cs cs' : List AV} {t b : Nat} {a v : AV} (hj : objVar σ[j]? = some cs) (hal : aliV a (.ptr j b) = true) (h : aLoad E σ t a = some v) : aLoad E (σ.set j (.var cs')) t a = some v := by
 obtain ⟨ti, ht, h⟩ := bindO_eq h
 simp only [aLoad, ht, bindO_some]
 cases a with
 | ptr id off =>
   have hne : id ≠ j := by
     rintro rfl
     simp [aliV] at hal
   obtain ⟨ds, h1, h2⟩ := bindO_eq h
   simp only [aLoadV, set_other id hne, h1]; exact h2
 | rptr id ver sz i off =>
   obtain ⟨p, h1, h2⟩ := bindO_eq h
   simp only [aLoadV, curR_var hj h1]; exact h2
 | cref cs => exact h
 | _ => simp [aLoadV] at h
theorem len_var {j : Nat} {cs cs' : List AV} {ts : List TypeId} {x v : AV} (hj : objVar σ[j]? = some cs) (h : aLen E σ ts x = some v) : aLen E (σ.set j (.var cs')) ts x = some v := by
 obtain ⟨t, ht, h⟩ := bindO_eq h
 obtain ⟨ti, hti, h⟩ := bindO_eq h
 simp only [aLen, ht, hti, bindO_some]
 cases hk : ti.k <;> rw [hk] at h <;> cases x <;> first | exact h | (cases h; done) | skip
 obtain ⟨p, h1, h2⟩ := bindO_eq h
 simp only [aLenK, curA_var hj h1]; exact h2
theorem aliF_mem {l : List (Nat × Nat)} {fr : Fr} (h : aliF l fr = true) {q : Nat × Nat} (hq : q ∈ l) (hne : q.1 ≠ q.2) : aliV (fr.getD q.1 .top) (fr.getD q.2 .top) = true := by
 have := List.all_eq_true.1 h q hq
 simp only [aliP, decide_eq_false hne] at this
 exact this
theorem aliF_rd {l : List (Nat × Nat)} {fr : Fr} (h : aliF l fr = true) {p : Nat} (hq : (p, p) ∈ l) : isRd (fr.getD p .top) = true := by
 have := List.all_eq_true.1 h (p, p) hq
 simp only [aliP, decide_true] at this
 exact this
theorem aliV_ptr {a b : AV} (h : aliV a b = true) : ∃ j o, b = .ptr j o := by
 cases a <;> cases b <;> first | (cases h; done) | exact ⟨_, _, rfl⟩
theorem comm_stepZ {l : List (Nat × Nat)} {ops : Array Oper} {A : List Nat} {a i : Nat} (hz : zPair l ops A a i = true) {s s1 s2 sF : Fr × Store} {rest : List Nat} (hF : runI E ops (a :: rest) s = some sF) (hrest : ∀ j ∈ rest, a < j) (hA : ∀ j ∈ a :: rest, A.contains j = false) (hal : aliF l sF.1 = true)
   (h1 : stepI E ops a s = some s1) (h2 : stepI E ops i s1 = some s2) : ∃ s1', stepI E ops i s = some s1' ∧ stepI E ops a s1' = some s2 := by
 obtain ⟨fr, σ⟩ := s
 unfold zPair at hz
 cases hx : ops[a]? with
 | none => rw [hx] at hz; cases hz
 | some x =>
   cases hy : ops[i]? with
   | none => rw [hx, hy] at hz; cases hz
   | some y =>
     rw [hx, hy] at hz
     simp only [Bool.and_eq_true] at hz
     obtain ⟨hap, hk⟩ := hz
     obtain ⟨ha1, ha2, ha3⟩ := Oper.apart_spec hap
     rw [stepI_eff hx] at h1
     obtain ⟨p, hpe, h3⟩ := bindO_eq h1
     injection h3 with h3
     subst h3
     rw [stepI_eff hy] at h2
     obtain ⟨q, hqe, h4⟩ := bindO_eq h2
     injection h4 with h4
     subst h4
     have e1 : eff E ops y (setT fr x.dst p.1) p.2 = eff E ops y fr p.2 := eff_same fun t ht => getD_set fun e => ha1 t e ht
     rw [e1] at hqe
     have e2 : ∀ σ2, eff E ops x (setT fr y.dst q.1) σ2 = eff E ops x fr σ2 := fun σ2 => eff_same fun t ht => getD_set fun e => ha3 t e ht
     have hset : setT (setT fr x.dst p.1) y.dst q.1 = setT (setT fr y.dst q.1) x.dst p.1 := set_comm fun t ht => ha2 t ht
     rw [stepI_eff hy]
     suffices hs : ∃ σ1, eff E ops y fr σ = some (q.1, σ1) ∧ eff E ops x fr σ1 = some (p.1, q.2) by
       obtain ⟨σ1, hs1, hs2⟩ := hs
       refine ⟨(setT fr y.dst q.1, σ1), by rw [hs1]; rfl, ?_⟩
       rw [stepI_eff hx, e2, hs2, hset]
       rfl
     have get : ∀ t, noDstA ops A t a = true → sF.1.getD t .top = fr.getD t .top := fun t ht => runI_get (s := (fr, σ)) (a :: rest) hF fun j hj o ho => noDstA_spec ht (by
       rcases List.mem_cons.1 hj with rfl | hj
       · exact Nat.le_refl _
       · exact Nat.le_of_lt (hrest j hj)) (hA j hj) ho
     obtain ⟨xd, xo, xt, xp, xa, xg⟩ := x
     obtain ⟨yd, yo, yt, yp, ya, yg⟩ := y
     simp only at hk
     cases yo <;> try (cases hk; done)
     rename_i ty ad val
     cases ad <;> try (cases hk; done)
     rename_i q0
     simp only [storeAt, Bool.and_eq_true] at hk
     obtain ⟨⟨hq1, hq2⟩, hk⟩ := hk
     obtain ⟨e, he, heq⟩ := List.any_eq_true.1 hq2
     simp only [Bool.and_eq_true, beq_iff_eq, bne_iff_ne, ne_eq] at heq
     have hne := heq.2
     have heq : e.2 = q0 := heq.1
     have hav := aliF_mem hal he hne
     rw [heq] at hav
     obtain ⟨j, b, hjb⟩ := aliV_ptr hav
     have hfq : fr.getD q0 .top = .ptr j b := by rw [← get q0 hq1]; exact hjb
     -- what the reader does
     have rd : ∀ (hp2 : p.2 = σ) (hgo : ∀ cs cs' : List AV, objVar σ[j]? = some cs → eff E ops ⟨xd, xo, xt, xp, xa, xg⟩ fr (σ.set j (.var cs')) = some (p.1, σ.set j (.var cs'))), ∃ σ1, eff E ops ⟨yd, .store ty (.tmp q0) val, yt, yp, ya, yg⟩ fr σ = some (q.1, σ1) ∧ eff E ops ⟨xd, xo, xt, xp, xa, xg⟩ fr σ1 = some (p.1, q.2) := by
       intro hp2 hgo
       rw [hp2] at hqe
       refine ⟨q.2, hqe, ?_⟩
       obtain ⟨bb, hb, hh⟩ := bindO_eq hqe
       rcases iteO_eq hh with ⟨rfl, hh⟩ | ⟨rfl, hh⟩
       · obtain ⟨σ', hst, hh⟩ := bindO_eq hh
         injection hh with hh
         subst hh
         obtain ⟨ti, _, hst⟩ := bindO_eq hst
         have hst : aStoreV σ ti.size (evalO fr val) (fr.getD q0 .top) = some σ' := hst
         rw [hfq] at hst
         obtain ⟨us, _, hst⟩ := bindO_eq hst
         obtain ⟨_, hst⟩ := iteO_none hst
         obtain ⟨cs, hcs, hst⟩ := bindO_eq hst
         obtain ⟨cs', _, hst⟩ := bindO_eq hst
         injection hst with hst
         subst hst
         exact hgo cs cs' hcs
       · injection hh with hh
         subst hh
         rw [hpe, ← hp2]
     obtain ⟨bb, hb, hh⟩ := bindO_eq hpe
     have hgo0 : ∀ σ2, eff E ops ⟨xd, xo, xt, xp, xa, xg⟩ fr σ2 = iteO bb (aOp E fr σ2 xt xo) (some (.tuple [], σ2)) := fun σ2 => by
       show bindO (wants ops fr xg) _ = _
       rw [hb]; rfl
     rcases iteO_eq hh with ⟨rfl, hh⟩ | ⟨rfl, hh⟩
     · simp only [Bool.or_eq_true] at hk
       rcases hk with hk | hk
       · cases xo with
         | call c =>
           cases hcal : c.callee with
           | builtin bi =>
             have hbi : bi = .len := by
               simp only [isLen, hcal] at hk
               cases bi <;> first | rfl | (cases hk; done)
             subst hbi
             have haop : ∀ σ2 : Store, aOp E fr σ2 xt (.call c) = aBuiltin E σ2 c.argTypes .len (evalOs fr c.args.toList) := fun σ2 => by
               obtain ⟨cal, cargs, cts⟩ := c
               have hcal : cal = .builtin .len := hcal
               subst hcal
               rfl
             rw [haop] at hh
             cases hxs : evalOs fr c.args.toList with
             | nil => rw [hxs] at hh; cases hh
             | cons x1 xs =>
               cases xs with
               | cons _ _ => rw [hxs] at hh; cases hh
               | nil =>
                 rw [hxs] at hh
                 obtain ⟨v, hv, hh⟩ := bindO_eq hh
                 injection hh with hh
                 subst hh
                 refine rd rfl fun cs cs' hcs => ?_
                 rw [hgo0, iteO_true, haop, hxs]
                 show keepS _ (aLen E (σ.set j (.var cs')) c.argTypes.toList x1) = _
                 rw [len_var hcs hv]; rfl
           | _ => simp only [isLen, hcal] at hk; cases hk
         | _ => cases hk
       · cases xo with
         | load lt la =>
           cases la with
           | tmp p0 =>
             simp only [loadAt, Bool.and_eq_true, List.contains_iff_mem, bne_iff_ne, ne_eq] at hk
             obtain ⟨⟨hp1, hp0⟩, hp2⟩ := hk
             have hav2 := aliF_mem hal hp2 hp0
             simp only at hav2
             rw [hjb, get p0 hp1] at hav2
             obtain ⟨v, hv, hh⟩ := bindO_eq hh
             injection hh with hh
             subst hh
             refine rd rfl fun cs cs' hcs => ?_
             rw [hgo0]
             show keepS _ (aLoad E (σ.set j (.var cs')) lt (fr.getD p0 .top)) = _
             have hv : aLoad E σ lt (fr.getD p0 .top) = some v := hv
             rw [load_var hcs hav2 hv]; rfl
           | _ => cases hk
         | _ => cases hk
     · injection hh with hh
       subst hh
       exact rd rfl fun cs cs' _ => by rw [hgo0]; rfl
def notVar : AObj → Bool
 | .var _ => false
 | _ => true
def Grown (σ σ' : Store) : Prop := ∀ id : Nat, objVar σ'[id]? = objVar σ[id]?
def GrowTab (E : Env) (gf : Nat → Bool) : Prop := ∀ f, gf f = true → ∀ args σ v σ', E.tab f args σ = some (v, σ') → Grown σ σ'
theorem Grown.refl (σ : Store) : Grown σ σ := fun _ => rfl
theorem Grown.trans {a b c : Store} (h : Grown a b) (h' : Grown b c) : Grown a c := fun id => (h' id).trans (h id)
theorem Grown.push {σ : Store} {o : AObj} (h : notVar o = true) : Grown σ (σ ++ [o]) := fun id => by
 by_cases hid : id < σ.length
 · rw [List.getElem?_append_left hid]
 · rw [List.getElem?_append_right (by omega), List.getElem?_eq_none (l := σ) (by omega)]
   cases ho : ([o] : Store)[id - σ.length]? with
   | none => rfl
   | some o' =>
     have : o' = o := by
       have := List.mem_of_getElem? ho
       simpa using this
     subst this
     cases o' <;> first | rfl | cases h
theorem Grown.set {σ : Store} {j : Nat} {o o' : AObj} (ho : σ[j]? = some o) (h : notVar o = true) (h' : notVar o' = true) : Grown σ (σ.set j o') := fun id => by
 by_cases hid : id = j
 · subst hid
   rw [List.getElem?_set_self (List.getElem?_eq_some_iff.1 ho).1, ho]
   cases o <;> cases o' <;> first | rfl | (cases h; done) | (cases h'; done)
 · rw [List.getElem?_set_ne (by omega)]
theorem freezeL_grown {v : AV} {q : AV × Store} (h : freezeL σ v = some q) : Grown σ q.2 := by
 cases v <;> first | (injection h with h; subst h; exact Grown.refl _) | (cases h; done) | skip
 rename_i id ver
 have h : objFrz σ id ver σ[id]? = some q := h
 unfold objFrz at h
 split at h
 · rename_i sz v es heq
   obtain ⟨_, h1⟩ := iteO_none h
   injection h1 with h1
   subst h1
   exact Grown.set heq rfl rfl
 · obtain ⟨_, h1⟩ := iteO_none h
   injection h1 with h1
   subst h1
   exact Grown.refl _
 · rename_i sz v es heq
   obtain ⟨_, h1⟩ := iteO_none h
   injection h1 with h1
   subst h1
   exact Grown.set heq rfl rfl
 · cases h
theorem freezeLs_grown : ∀ {cs : List AV} {σ : Store} {q : List AV × Store}, freezeLs σ cs = some q → Grown σ q.2
 | [], _, _, h => by injection h with h; subst h; exact Grown.refl _
 | c :: cs, σ, q, h => by
   obtain ⟨a, ha, h1⟩ := bindO_eq h
   obtain ⟨b, hb, h2⟩ := bindO_eq h1
   injection h2 with h2
   subst h2
   have hb' : Grown a.2 b.2 := freezeLs_grown (cs := cs) hb
   exact (freezeL_grown ha).trans hb'
theorem freeze_grown {v : AV} {q : AV × Store} (h : freeze σ v = some q) : Grown σ q.2 := by
 cases v <;> first | (injection h with h; subst h; exact Grown.refl _) | (cases h; done) | skip
 · obtain ⟨a, ha, h1⟩ := bindO_eq h
   injection h1 with h1
   subst h1
   exact freezeLs_grown ha
 · rename_i id ver
   exact freezeL_grown (v := .rs id ver) h
theorem build_grown {sz : Nat} : ∀ {ps : List (Nat × AV)} {es : List (List AV)} {σ : Store} {q : List (List AV) × Store}, aBuildElems σ sz ps es = some q → Grown σ q.2
 | [], _, _, _, h => by injection h with h; subst h; exact Grown.refl _
 | (i, v) :: ps, es, σ, q, h => by
   obtain ⟨a, ha, h1⟩ := bindO_eq h
   obtain ⟨us, _, h2⟩ := bindO_eq h1
   obtain ⟨_, h3⟩ := iteO_none h2
   exact (freeze_grown ha).trans (build_grown h3)
theorem appendV_grown {size bytes : Nat} {xs : List (List AV)} {s : AV} {q : AV × Store} (h : aAppendV σ size bytes xs s = some q) : Grown σ q.2 := by
 cases s with
 | rs id ver =>
   obtain ⟨p, hc, h1⟩ := bindO_eq h
   obtain ⟨_, h2⟩ := iteO_none h1
   injection h2 with h2
   rcases curA_eq hc with hc | hc
   · rw [hc] at h2; subst h2; exact Grown.set hc rfl rfl
   · rw [hc] at h2
     cases xs with
     | nil => subst h2; exact Grown.refl _
     | cons x xs => subst h2; exact Grown.set hc rfl rfl
 | sl f sz es =>
   cases f with
   | false => cases h
   | true =>
     obtain ⟨_, h2⟩ := iteO_none h
     cases xs with
     | nil => injection h2 with h2; subst h2; exact Grown.refl _
     | cons x xs => injection h2 with h2; subst h2; exact Grown.push rfl
 | _ => cases h
theorem append_grown {ts : Array TypeId} {q : AV × Store} : ∀ {xs : List AV}, aBuiltin E σ ts .append xs = some q → Grown σ q.2
 | [s, x], h => by
   obtain ⟨t, _, h1⟩ := bindO_eq h
   obtain ⟨ti, _, h1⟩ := bindO_eq h1
   obtain ⟨e, _, h1⟩ := bindO_eq h1
   obtain ⟨ei, _, h1⟩ := bindO_eq h1
   obtain ⟨r, _, h1⟩ := bindO_eq h1
   obtain ⟨_, h2⟩ := iteO_none h1
   exact appendV_grown h2
 | [], h => by cases h
 | [_], h => by cases h
 | _ :: _ :: _ :: _, h => by cases h
def tmpsOf : List (Nat × Operand) → List Nat
 | [] => []
 | (_, .tmp p) :: ps => p :: tmpsOf ps
 | _ :: ps => tmpsOf ps
def rdOp : Op → Option (List Nat)
 | .load _ (.tmp p) => some [p]
 | .indexAddr _ (.tmp p) _ => some [p]
 | .buildSlice _ _ ps => some (tmpsOf ps.toList)
 | .slice _ (.tmp p) _ _ _ => some [p]
 | .call c => match c.callee, c.args.toList with
   | .builtin .len, [.tmp p] => some [p]
   | _, _ => none
 | _ => none
theorem freeze_rd {σ σ' : Store} {v : AV} (hr : v.data = true ∨ (∀ σ, freeze σ v = none)) : freeze σ' v = bindO (freeze σ v) fun q => some (q.1, σ') := by
 rcases hr with hr | hr
 · have hl : ∀ (cs : List AV) (σ : Store), allDataL cs = true → ∃ cs', ∀ σ, freezeLs σ cs = some (cs', σ) := by
     intro cs
     induction cs with
     | nil => exact fun _ _ => ⟨[], fun _ => rfl⟩
     | cons c cs ih =>
       intro σ h
       simp only [allDataL, Bool.and_eq_true] at h
       obtain ⟨cs', h2⟩ := ih σ h.2
       obtain ⟨c', h1⟩ : ∃ c', ∀ σ, freezeL σ c = some (c', σ) := by
         cases c <;> first | exact ⟨_, fun _ => rfl⟩ | (simp [AV.dataL] at h; done)
       exact ⟨c' :: cs', fun σ => by simp only [freezeLs, h1, h2, bindO_some]⟩
   cases v <;> first | rfl | (simp [AV.data] at hr; done) | skip
   rename_i cs
   obtain ⟨cs', h⟩ := hl cs σ hr
   simp only [freeze, h, bindO_some]
 · rw [hr, hr]; rfl
theorem isRd_frz {v : AV} (h : isRd v = true) : v.data = true ∨ ∀ σ, freeze σ v = none := by
 cases v <;> first | exact .inl h | exact .inr fun _ => rfl
theorem evalO_frz {fr : Fr} {x : Operand} (h : ∀ p, x = .tmp p → isRd (fr.getD p .top) = true) : (evalO fr x).data = true ∨ ∀ σ, freeze σ (evalO fr x) = none := by
 cases x with
 | tmp p => exact isRd_frz (h p rfl)
 | const v =>
   have hleaf : ∀ v : Value, (ofLeaf v).dataL = true ∨ ofLeaf v = .top := fun v => by
     unfold ofLeaf; split <;> first | exact .inl rfl | exact .inr rfl
   have hleaf2 : ∀ v : Value, (ofLeaf v).data = true ∨ ofLeaf v = .top := fun v => by
     unfold ofLeaf; split <;> first | exact .inl rfl | exact .inr rfl
   show (ofValue v).data = true ∨ ∀ σ, freeze σ (ofValue v) = none
   unfold ofValue
   split
   · rename_i cs
     by_cases hd : allDataL (cs.toList.map ofLeaf) = true
     · exact .inl hd
     · refine .inr fun σ => ?_
       have : ∀ (l : List Value) (σ : Store), allDataL (l.map ofLeaf) ≠ true → freezeLs σ (l.map ofLeaf) = none := by
         intro l
         induction l with
         | nil => intro σ h; exact absurd rfl h
         | cons a l ih =>
           intro σ h
           simp only [List.map_cons, allDataL, Bool.and_eq_true, ne_eq] at h
           show bindO (freezeL σ (ofLeaf a)) _ = none
           rcases hleaf a with ha | ha
           · have hf : ∃ c', freezeL σ (ofLeaf a) = some (c', σ) := by
               cases hc : ofLeaf a <;> rw [hc] at ha <;> first | exact ⟨_, rfl⟩ | (simp [AV.dataL] at ha; done)
             obtain ⟨c', hc'⟩ := hf
             rw [hc', bindO_some]
             show bindO (freezeLs σ (l.map ofLeaf)) _ = none
             rw [ih σ fun e => h ⟨ha, e⟩]; rfl
           · rw [ha]; rfl
       show freeze σ (.agg (cs.toList.map ofLeaf)) = none
       show bindO (freezeLs σ (cs.toList.map ofLeaf)) _ = none
       rw [this _ _ hd]; rfl
   · rcases hleaf2 v with h1 | h1
     · exact .inl h1
     · exact .inr fun σ => by rw [h1]; rfl
 | global _ => exact .inr fun _ => rfl
 | func f => exact .inr fun _ => rfl
theorem build_rd {σ σ' : Store} {sz : Nat} : ∀ (ps : List (Nat × AV)) (es : List (List AV)), (∀ q ∈ ps, q.2.data = true ∨ ∀ σ, freeze σ q.2 = none) → aBuildElems σ' sz ps es = bindO (aBuildElems σ sz ps es) fun q => some (q.1, σ') := by
 have stay : ∀ {v : AV} {q : AV × Store} {σ : Store}, (v.data = true ∨ ∀ σ, freeze σ v = none) → freeze σ v = some q → q.2 = σ := fun {v q σ} h hq => by
   have := freeze_rd (σ := σ) (σ' := σ) h
   rcases h with h | h
   · cases v <;> first | (injection hq with hq; subst hq; rfl) | (simp [AV.data] at h; done) | (cases hq; done) | skip
     rename_i cs
     obtain ⟨p, hp, h1⟩ := bindO_eq hq
     injection h1 with h1
     subst h1
     have hl : ∀ (cs : List AV) (p : List AV × Store), allDataL cs = true → freezeLs σ cs = some p → p.2 = σ := by
       intro cs
       induction cs with
       | nil => intro p _ h; injection h with h; subst h; rfl
       | cons c cs ih =>
         intro p h hp
         simp only [allDataL, Bool.and_eq_true] at h
         obtain ⟨a, ha, h1⟩ := bindO_eq hp
         obtain ⟨b, hb, h2⟩ := bindO_eq h1
         injection h2 with h2
         subst h2
         have hc : a.2 = σ := by
           cases c <;> first | (injection ha with ha; subst ha; rfl) | (simp [AV.dataL] at h; done)
         rw [hc] at hb
         exact ih b h.2 hb
     exact hl cs p h hp
   · rw [h] at hq; cases hq
 intro ps
 induction ps with
 | nil => intro es _; rfl
 | cons q ps ih =>
   intro es h
   obtain ⟨i, v⟩ := q
   have hv := h (i, v) (by simp)
   simp only [aBuildElems]
   rw [freeze_rd hv]
   cases hf : freeze σ v with
   | none => rfl
   | some q =>
     have hs := stay hv hf
     simp only [bindO_some]
     cases cellsOf q.1 with
     | none => rfl
     | some us =>
       simp only [bindO_some]
       cases (decide (us.length = sz) && decide (i < es.length)) with
       | false => rfl
       | true =>
         simp only [iteO_true]
         rw [hs]
         exact ih _ fun q hq => h q (by simp [hq])
def isG (gf : Nat → Bool) : Op → Bool
 | .call c => match c.callee with
   | .value (.func f) => gf f
   | .builtin .append => true
   | _ => false
 | .buildSlice _ _ _ => true
 | _ => false
def rdOk (l : List (Nat × Nat)) (ops : Array Oper) (A : List Nat) (a : Nat) (op : Op) : Bool := match rdOp op with
 | some ps => ps.all fun p => noDstA ops A p a && l.contains (p, p)
 | none => false
def gPair (gf : Nat → Bool) (l : List (Nat × Nat)) (ops : Array Oper) (A : List Nat) (a i : Nat) : Bool :=
 match ops[a]?, ops[i]? with
 | some x, some y => x.apart ops y && (((isG gf x.op || rdOk l ops A a x.op) && rdOk l ops A a y.op) || (isG gf y.op && rdOk l ops A a x.op))
 | _, _ => false
theorem rd_grown {σ σ' : Store} (h : Grown σ σ') {fr : Fr} {ty : Nat} {op : Op} {ps : List Nat} (hop : rdOp op = some ps) (hrs : ∀ p ∈ ps, isRd (fr.getD p .top) = true) :
   aOp E fr σ' ty op = bindO (aOp E fr σ ty op) fun q => some (q.1, σ') := by
 have kS : ∀ (x : Option AV), keepS σ' x = bindO (keepS σ x) fun q => some (q.1, σ') := fun x => by cases x <;> rfl
 cases op <;> try (cases hop; done)
 case load t a =>
   cases a <;> try (cases hop; done)
   rename_i p0
   injection hop with hop
   subst hop
   have hr := hrs p0 (by simp)
   show keepS _ (aLoad E σ' t (fr.getD p0 .top)) = bindO (keepS σ (aLoad E σ t (fr.getD p0 .top))) _
   rw [← kS]
   congr 1
   simp only [aLoad]
   cases hv : fr.getD p0 .top <;> first | rfl | (rw [hv] at hr; simp [isRd, AV.data] at hr; done) | (simp only [aLoadV, h _])
 case indexAddr t a i =>
   cases a <;> try (cases hop; done)
   rename_i p0
   injection hop with hop
   subst hop
   have hr := hrs p0 (by simp)
   show keepS _ (aIndexAddr E σ' t (fr.getD p0 .top) (evalO fr i)) = bindO (keepS σ (aIndexAddr E σ t (fr.getD p0 .top) (evalO fr i))) _
   rw [← kS]
   congr 1
   simp only [aIndexAddr]
   cases E.ty t with
   | none => rfl
   | some ti =>
     simp only [bindO_some]
     cases asI (evalO fr i) with
     | none => rfl
     | some n =>
       simp only [bindO_some]
       cases ti.k <;> try rfl
       rename_i e
       simp only [aIndexAddrK]
       cases E.ty e with
       | none => rfl
       | some ei =>
         simp only [bindO_some]
         cases hv : fr.getD p0 .top <;> first | rfl | (rw [hv] at hr; simp [isRd, AV.data] at hr; done)
 case slice t x lo hi mx =>
   cases x <;> try (cases hop; done)
   rename_i p0
   injection hop with hop
   subst hop
   have hr := hrs p0 (by simp)
   show bindO (optI fr lo) (fun lo => bindO (optI fr hi) fun hi => bindO (optI fr mx) fun mx => aSlice E σ' t (fr.getD p0 .top) lo hi mx) = bindO (bindO (optI fr lo) (fun lo => bindO (optI fr hi) fun hi => bindO (optI fr mx) fun mx => aSlice E σ t (fr.getD p0 .top) lo hi mx)) _
   cases optI fr lo with
   | none => rfl
   | some lo =>
     cases optI fr hi with
     | none => rfl
     | some hi =>
       cases optI fr mx with
       | none => rfl
       | some mx =>
         simp only [bindO_some, aSlice]
         cases E.ty t with
         | none => rfl
         | some ti =>
           simp only [bindO_some]
           cases hv : fr.getD p0 .top <;> first | (rw [hv] at hr; simp [isRd, AV.data] at hr; done) | (cases ti.k <;> rfl) | skip
           · cases ti.k <;> try rfl
             simp only [aSliceK]
             cases mx.isNone && inS (lo.getD 0) (hi.getD _) _ <;> rfl
           · cases ti.k <;> try rfl
             rename_i e
             simp only [aSliceK]
             cases E.ty e with
             | none => rfl
             | some ei =>
               simp only [bindO_some]
               generalize ((decide (_ = ei.size) || List.isEmpty _) && inS _ _ _) = b
               cases b with
               | false => rfl
               | true =>
                 simp only [iteO_true]
                 cases mx with
                 | none => rfl
                 | some m =>
                   simp only []
                   generalize (decide (m = _) && hi.isSome) = b
                   cases b <;> rfl
 case buildSlice t n ps =>
   injection hop with hop
   subst hop
   simp only [aOp, aBuildSlice]
   cases E.ty t with
   | none => rfl
   | some ti =>
     simp only [bindO_some]
     cases tkSlice ti.k with
     | none => rfl
     | some e =>
       simp only [bindO_some]
       cases E.ty e with
       | none => rfl
       | some ei =>
         simp only [bindO_some]
         cases decide (n * ei.size ≤ 16777216 ∧ ei.size ≠ 0) with
         | false => rfl
         | true =>
           simp only [iteO_true]
           rw [build_rd]
           · cases aBuildElems σ ei.size (evalPs fr ps.toList) (List.replicate n ei.zero) <;> rfl
           · have : ∀ (l : List (Nat × Operand)), (∀ p ∈ tmpsOf l, isRd (fr.getD p .top) = true) → ∀ q ∈ evalPs fr l, q.2.data = true ∨ ∀ σ, freeze σ q.2 = none := by
               intro l
               induction l with
               | nil => intro _ q hq; cases hq
               | cons x l ih =>
                 intro hl q hq
                 obtain ⟨i, x⟩ := x
                 simp only [evalPs, List.mem_cons] at hq
                 rcases hq with rfl | hq
                 · exact evalO_frz fun p hp => by subst hp; exact hl p (by simp [tmpsOf])
                 · exact ih (fun p hp => hl p (by cases x <;> simp [tmpsOf, hp])) q hq
             exact this _ hrs
 case call c =>
   obtain ⟨cal, cargs, cts⟩ := c
   cases cal with
   | builtin b =>
     cases b <;> try (cases hop; done)
     simp only [rdOp] at hop
     have haop : ∀ σ2 : Store, aOp E fr σ2 ty (.call ⟨.builtin .len, cargs, cts⟩) = aBuiltin E σ2 cts .len (evalOs fr cargs.toList) := fun σ2 => rfl
     rw [haop, haop]
     cases hl : cargs.toList with
     | nil => rw [hl] at hop; cases hop
     | cons x xs =>
       rw [hl] at hop
       cases x <;> try (cases hop; done)
       cases xs with
       | cons _ _ => cases hop
       | nil =>
         injection hop with hop
         subst hop
         rename_i p0
         have hr := hrs p0 (by simp)
         show keepS _ (aLen E σ' cts.toList (fr.getD p0 .top)) = bindO (keepS σ (aLen E σ cts.toList (fr.getD p0 .top))) _
         rw [← kS]
         congr 1
         simp only [aLen]
         cases oneType cts.toList with
         | none => rfl
         | some t =>
           simp only [bindO_some]
           cases E.ty t with
           | none => rfl
           | some ti =>
             simp only [bindO_some]
             cases hv : fr.getD p0 .top <;> first | (cases ti.k <;> rfl) | (rw [hv] at hr; simp [isRd, AV.data] at hr; done)
   | _ => cases hop
theorem effrd_grown {σ σ' : Store} (h : Grown σ σ') {ops : Array Oper} {o : Oper} {fr : Fr} {ps : List Nat} (hop : rdOp o.op = some ps) (hr : ∀ p ∈ ps, isRd (fr.getD p .top) = true) :
   eff E ops o fr σ' = bindO (eff E ops o fr σ) fun q => some (q.1, σ') := by
 simp only [eff]
 cases wants ops fr o.guard with
 | none => rfl
 | some b =>
   cases b with
   | true => exact rd_grown h hop hr
   | false => rfl
theorem rd_stay {ops : Array Oper} {o : Oper} {fr : Fr} {ps : List Nat} (hop : rdOp o.op = some ps) (hr : ∀ p ∈ ps, isRd (fr.getD p .top) = true) {q : AV × Store} (hq : eff E ops o fr σ = some q) : q.2 = σ := by
 obtain ⟨b, hb, h1⟩ := bindO_eq hq
 rcases iteO_eq h1 with ⟨rfl, h2⟩ | ⟨rfl, h2⟩
 · obtain ⟨dst, op, ty, ps, af, gd⟩ := o
   simp only at hop h2
   cases op <;> try (cases hop; done)
   case load => exact (keepS_P h2).1
   case indexAddr => exact (keepS_P h2).1
   case slice t x lo hi mx =>
     have := rd_grown (E := E) (σ := σ) (σ' := σ) (fr := fr) (ty := ty) (op := .slice t x lo hi mx) (Grown.refl σ) hop hr
     rw [h2] at this
     simp only [bindO_some] at this
     injection this with this
     rw [this]
   case buildSlice t n ps =>
     have := rd_grown (E := E) (σ := σ) (σ' := σ) (fr := fr) (ty := ty) (op := .buildSlice t n ps) (Grown.refl σ) hop hr
     rw [h2] at this
     simp only [bindO_some] at this
     injection this with this
     rw [this]
   case call c =>
     obtain ⟨cal, cargs, cts⟩ := c
     cases cal with
     | builtin b =>
       cases b <;> try (cases hop; done)
       exact len_R _ h2
     | _ => cases hop
 · injection h2 with h2; subst h2; rfl
theorem effG {gf : Nat → Bool} (hg : GrowTab E gf) {ops : Array Oper} {o : Oper} {fr : Fr} (hop : isG gf o.op = true) {q : AV × Store} (hq : eff E ops o fr σ = some q) : Grown σ q.2 := by
 obtain ⟨b, hb, h1⟩ := bindO_eq hq
 rcases iteO_eq h1 with ⟨rfl, h2⟩ | ⟨rfl, h2⟩
 · obtain ⟨dst, op, ty, ps, af, gd⟩ := o
   simp only at hop h2
   cases op <;> try (cases hop; done)
   case buildSlice t n ps =>
     obtain ⟨ti, _, h2⟩ := bindO_eq h2
     obtain ⟨e, _, h2⟩ := bindO_eq h2
     obtain ⟨ei, _, h2⟩ := bindO_eq h2
     obtain ⟨_, h2⟩ := iteO_none h2
     obtain ⟨r, hr, h2⟩ := bindO_eq h2
     injection h2 with h2
     subst h2
     exact build_grown hr
   case call c =>
     obtain ⟨cal, cargs, cts⟩ := c
     cases cal with
     | value f =>
       cases f <;> try (cases hop; done)
       exact hg _ hop _ _ q.1 q.2 h2
     | builtin b =>
       cases b <;> try (cases hop; done)
       exact append_grown h2
     | _ => cases hop
 · injection h2 with h2; subst h2; exact Grown.refl _
theorem comm_stepG {gf : Nat → Bool} (hg : GrowTab E gf) {l : List (Nat × Nat)} {ops : Array Oper} {A : List Nat} {a i : Nat} (hz : gPair gf l ops A a i = true) {s s1 s2 sF : Fr × Store} {rest : List Nat} (hF : runI E ops (a :: rest) s = some sF) (hrest : ∀ j ∈ rest, a < j) (hA : ∀ j ∈ a :: rest, A.contains j = false) (hal : aliF l sF.1 = true)
   (h1 : stepI E ops a s = some s1) (h2 : stepI E ops i s1 = some s2) : ∃ s1', stepI E ops i s = some s1' ∧ stepI E ops a s1' = some s2 := by
 obtain ⟨fr, σ⟩ := s
 unfold gPair at hz
 cases hx : ops[a]? with
 | none => rw [hx] at hz; cases hz
 | some x =>
   cases hy : ops[i]? with
   | none => rw [hx, hy] at hz; cases hz
   | some y =>
     rw [hx, hy] at hz
     simp only [Bool.and_eq_true] at hz
     obtain ⟨hap, hk⟩ := hz
     obtain ⟨ha1, ha2, ha3⟩ := Oper.apart_spec hap
     rw [stepI_eff hx] at h1
     obtain ⟨p, hpe, h3⟩ := bindO_eq h1
     injection h3 with h3
     subst h3
     rw [stepI_eff hy] at h2
     obtain ⟨q, hqe, h4⟩ := bindO_eq h2
     injection h4 with h4
     subst h4
     have e1 : eff E ops y (setT fr x.dst p.1) p.2 = eff E ops y fr p.2 := eff_same fun t ht => getD_set fun e => ha1 t e ht
     rw [e1] at hqe
     have e2 : ∀ σ2, eff E ops x (setT fr y.dst q.1) σ2 = eff E ops x fr σ2 := fun σ2 => eff_same fun t ht => getD_set fun e => ha3 t e ht
     have hset : setT (setT fr x.dst p.1) y.dst q.1 = setT (setT fr y.dst q.1) x.dst p.1 := set_comm fun t ht => ha2 t ht
     rw [stepI_eff hy]
     suffices hs : ∃ σ1, eff E ops y fr σ = some (q.1, σ1) ∧ eff E ops x fr σ1 = some (p.1, q.2) by
       obtain ⟨σ1, hs1, hs2⟩ := hs
       refine ⟨(setT fr y.dst q.1, σ1), by rw [hs1]; rfl, ?_⟩
       rw [stepI_eff hx, e2, hs2, hset]
       rfl
     have get : ∀ t, noDstA ops A t a = true → sF.1.getD t .top = fr.getD t .top := fun t ht => runI_get (s := (fr, σ)) (a :: rest) hF fun j hj o ho => noDstA_spec ht (by
       rcases List.mem_cons.1 hj with rfl | hj
       · exact Nat.le_refl _
       · exact Nat.le_of_lt (hrest j hj)) (hA j hj) ho
     have rdV : ∀ {op : Op}, rdOk l ops A a op = true → ∃ t, rdOp op = some t ∧ ∀ p ∈ t, isRd (fr.getD p .top) = true := fun {op} h => by
       unfold rdOk at h
       cases ho : rdOp op with
       | none => rw [ho] at h; cases h
       | some t =>
         rw [ho] at h
         refine ⟨t, rfl, fun p hp => ?_⟩
         have := List.all_eq_true.1 h p hp
         simp only [Bool.and_eq_true, List.contains_iff_mem] at this
         rw [← get p this.1]; exact aliF_rd hal this.2
     simp only [Bool.or_eq_true, Bool.and_eq_true] at hk
     rcases hk with ⟨hgx, hry⟩ | ⟨hgy, hrx⟩
     · obtain ⟨t, hop, hv⟩ := rdV hry
       have hgr : Grown σ p.2 := by
         rcases hgx with hgx | hgx
         · exact effG hg hgx hpe
         · obtain ⟨t', hop', hv'⟩ := rdV hgx
           rw [rd_stay hop' hv' hpe]; exact Grown.refl _
       rw [effrd_grown hgr hop hv] at hqe
       obtain ⟨q', hq', h5⟩ := bindO_eq hqe
       injection h5 with h5
       subst h5
       have hst := rd_stay hop hv hq'
       exact ⟨σ, by rw [hq', ← hst], by rw [hpe]⟩
     · obtain ⟨t, hop, hv⟩ := rdV hrx
       have hst := rd_stay hop hv hpe
       rw [hst] at hqe
       have hgr := effG hg hgy hqe
       refine ⟨q.2, hqe, ?_⟩
       rw [effrd_grown hgr hop hv, hpe]; rfl
theorem bubbleZ {pf gf : Nat → Bool} (hp : PureTab E pf) (hg : GrowTab E gf) {l : List (Nat × Nat)} {ops : Array Oper} {i : Nat} {post : List Nat} {sF : Fr × Store} (hal : aliF l sF.1 = true) {A : List Nat} : ∀ (pre : List Nat) (s : Fr × Store), (∀ a ∈ pre, pairOk pf ops a i = true ∨ zPair l ops A a i = true ∨ gPair gf l ops A a i = true) → (∀ j ∈ pre ++ i :: post, A.contains j = false) →
   (pre ++ i :: post).Pairwise (· < ·) → runI E ops (pre ++ i :: post) s = some sF → ∃ s1, stepI E ops i s = some s1 ∧ runI E ops (pre ++ post) s1 = some sF
 | [], s, _, _, _, h => by
   obtain ⟨s1, h1, h2⟩ := bindO_eq h
   exact ⟨s1, h1, h2⟩
 | a :: pre, s, hc, hA, hs, h => by
   obtain ⟨s1, h1, h2⟩ := bindO_eq h
   have hs' := List.pairwise_cons.1 hs
   obtain ⟨s2, h3, h4⟩ := bubbleZ hp hg hal pre s1 (fun b hb => hc b (by simp [hb])) (fun j hj => hA j (List.mem_cons_of_mem _ hj)) hs'.2 h2
   have hcm : ∃ s1', stepI E ops i s = some s1' ∧ stepI E ops a s1' = some s2 := by
     rcases hc a (by simp) with hk | hk | hk
     · exact comm_step hp hk h1 h3
     · exact comm_stepZ hk h (fun j hj => hs'.1 j hj) hA hal h1 h3
     · exact comm_stepG hg hk h (fun j hj => hs'.1 j hj) hA hal h1 h3
   obtain ⟨s3, h5, h6⟩ := hcm
   exact ⟨s3, h5, by simp only [List.cons_append, runI, h6, bindO_some]; exact h4⟩
def beforeOkZ (pf gf : Nat → Bool) (l : List (Nat × Nat)) (ops : Array Oper) (A : List Nat) (i : Nat) : Nat → Bool
 | 0 => true
 | a + 1 => (A.contains a || pairOk pf ops a i || zPair l ops A a i || gPair gf l ops A a i) && beforeOkZ pf gf l ops A i a
def regionOkZ (pf gf : Nat → Bool) (l : List (Nat × Nat)) (ops : Array Oper) : Nat → Bool
 | 0 => true
 | i + 1 => (deps ops i).all (fun d => decide (d < i)) && beforeOkZ pf gf l ops (upL ops i (deps ops i)) i i && regionOkZ pf gf l ops i
theorem beforeOkZ_spec {pf gf : Nat → Bool} {l : List (Nat × Nat)} {ops : Array Oper} {A : List Nat} {i : Nat} : ∀ {n : Nat}, beforeOkZ pf gf l ops A i n = true → ∀ a, a < n → a ∈ A ∨ (pairOk pf ops a i = true ∨ zPair l ops A a i = true ∨ gPair gf l ops A a i = true)
 | 0, _, a, h => absurd h (Nat.not_lt_zero _)
 | n + 1, h, a, ha => by
   simp only [beforeOkZ, Bool.and_eq_true, Bool.or_eq_true, List.contains_iff_mem, or_assoc] at h
   rcases Nat.lt_or_eq_of_le (Nat.le_of_lt_succ ha) with h1 | h1
   · exact beforeOkZ_spec h.2 a h1
   · subst h1; exact h.1
theorem regionOkZ_spec {pf gf : Nat → Bool} {l : List (Nat × Nat)} {ops : Array Oper} : ∀ {n : Nat}, regionOkZ pf gf l ops n = true → ∀ i, i < n → (∀ d ∈ deps ops i, d < i) ∧ ∀ a, a < i → a ∈ upL ops i (deps ops i) ∨ (pairOk pf ops a i = true ∨ zPair l ops (upL ops i (deps ops i)) a i = true ∨ gPair gf l ops (upL ops i (deps ops i)) a i = true)
 | 0, _, i, h => absurd h (Nat.not_lt_zero _)
 | n + 1, h, i, hi => by
   simp only [regionOkZ, Bool.and_eq_true, List.all_eq_true, decide_eq_true_eq] at h
   rcases Nat.lt_or_eq_of_le (Nat.le_of_lt_succ hi) with h1 | h1
   · exact regionOkZ_spec h.2 i h1
   · subst h1; exact ⟨h.1.1, fun a ha => beforeOkZ_spec h.1.2 a ha⟩
theorem any_wpZ (hE : EnvOk E) {pf gf : Nat → Bool} (hp : PureTab E pf) (hg : GrowTab E gf) {ops : Array Oper} {l0 : List (Nat × Nat)} (hok : regionOkZ pf gf l0 ops ops.size = true) {n : Nat} {r : Option Nat} {Q : Exit → Act → World → Prop} : ∀ (fuel : Nat) (T : List Nat) (l : Array Bool) (g : Ghost) (σ σ' : Store) (w : World) (fr fr' : Fr) (a : Act),
   aliF l0 fr' = true → T.length ≤ fuel → Rest ops l T → Inv g σ w → FrOk g σ.length fr a.tmps → runI E ops T (fr, σ) = some (fr', σ') →
   (∀ g' a' w', Moved g g' σ σ' w' → FrOk g' σ'.length fr' a'.tmps → a'.defers = a.defers → Q .normal a' w') → wpAnyIn (wideR r) n E.P .any ops Q fuel l a w := by
 have hnil : ∀ (T : List Nat) (l : Array Bool), Rest ops l T → Region.ready .any ops l = [] → T = [] := fun T l hR hr => by
   cases T with
   | nil => rfl
   | cons a rest =>
     exfalso
     have ha := (hR.mem a).1 (by simp)
     have hdeps := (regionOkZ_spec hok a ha.1).1
     have : a ∈ Region.ready .any ops l := mem_ready.2 ⟨ha.1, by rw [getD_in (by rw [hR.size]; exact ha.1) true false]; exact ha.2, fun d hd => ?_⟩
     · rw [hr] at this; simp at this
     · have hda := hdeps d hd
       refine hR.listed (by omega) fun hm => ?_
       rcases List.mem_cons.1 hm with h1 | h1
       · omega
       · have := (List.pairwise_cons.1 hR.sorted).1 d h1
         omega
 intro fuel
 induction fuel with
 | zero =>
   intro T l g σ σ' w fr fr' a hal hlen hR hI hfr hrun hQ
   have hT : T = [] := List.length_eq_zero_iff.1 (by omega)
   subst hT
   obtain ⟨h1, h2⟩ := pair_inj hrun
   subst h1; subst h2
   refine ⟨?_, hQ g a w (Moved.stay hI) hfr rfl⟩
   rw [List.eq_nil_iff_forall_not_mem]
   intro i hi
   have hi := mem_ready.1 hi
   have := (hR.mem i).2 ⟨hi.1, by rw [getD_in (by rw [hR.size]; exact hi.1) false true]; exact hi.2.1⟩
   simp at this
 | succ fuel ih =>
   intro T l g σ σ' w fr fr' a hal hlen hR hI hfr hrun hQ
   refine ⟨fun hr => ?_, fun i hi => ?_⟩
   · have hT := hnil T l hR hr
     subst hT
     obtain ⟨h1, h2⟩ := pair_inj hrun
     subst h1; subst h2
     exact hQ g a w (Moved.stay hI) hfr rfl
   · have hi := mem_ready.1 hi
     have hiT : i ∈ T := (hR.mem i).2 ⟨hi.1, by rw [getD_in (by rw [hR.size]; exact hi.1) false true]; exact hi.2.1⟩
     obtain ⟨pre, post, rfl⟩ := List.append_of_mem hiT
     have hpre : ∀ a ∈ pre, pairOk pf ops a i = true ∨ zPair l0 ops (upL ops i (deps ops i)) a i = true ∨ gPair gf l0 ops (upL ops i (deps ops i)) a i = true := fun a ha => by
       have hlt : a < i := (List.pairwise_append.1 hR.sorted).2.2 a ha i (by simp)
       rcases (regionOkZ_spec hok i hi.1).2 a hlt with h1 | h1
       · have hl := upL_listed hR.closed i _ hi.2.2 a h1
         have hn := ((hR.mem a).1 (by simp [ha])).2
         unfold Listed at hl
         rw [hn] at hl; cases hl
       · exact h1
     have hclo : ∀ j ∈ pre ++ i :: post, (upL ops i (deps ops i)).contains j = false := fun j hj => by
       cases hc : (upL ops i (deps ops i)).contains j with
       | false => rfl
       | true =>
         have hl := upL_listed hR.closed i _ hi.2.2 j (List.contains_iff_mem.1 hc)
         have hn := ((hR.mem j).1 hj).2
         unfold Listed at hl
         rw [hn] at hl; cases hl
     obtain ⟨s1, hs1, hrun1⟩ := bubbleZ hp hg hal pre _ hpre hclo hR.sorted hrun
     refine step_wp (fr' := s1.1) (σ' := s1.2) hE hI hfr hs1 fun g' a' w' hm hf hd => ?_
     refine ih (pre ++ post) _ g' s1.2 σ' w' s1.1 fr' a' hal ?_ (hR.next hi.2.2) hm.inv hf hrun1 fun g'' a'' w'' hm' hf' hd' => hQ g'' a'' w'' (hm.trans hm') hf' (hd'.trans hd)
     simp at hlen ⊢; omega
theorem draw_soundZ (hE : EnvOk E) {pf gf : Nat → Bool} (hp : PureTab E pf) (hg : GrowTab E gf) (hm : E.P.follows .mixedOrders = true) (ops : Array Oper) (l : List (Nat × Nat)) (hok : regionOkZ pf gf l ops ops.size = true) : DrawSound E l ops := by
 intro g σ w fr a res n r id Q hI hfr h hal hQ
 refine wpIn_region_any hm ?_
 have hr := (aOps_runI (E := E) ops ops.toList 0 fr σ res (fun j => by simp) h).2
 rw [Array.length_toList, ← List.range_eq_range'] at hr
 exact any_wpZ hE hp hg hok _ _ _ g σ res.σ _ fr res.fr a hal (by simp) (rest_start ops) (hI.same rfl rfl rfl rfl) hfr hr hQ
end Go.Abs
namespace Go.Abs
open Go.RowKit
def zChk : AV → Value → Bool
 | .int k n, .int k' n' => decide (k = k') && decide (n = n')
 | .bool b, .bool b' => b == b'
 | .str s, .string s' => s.data.toList.isEmpty && s'.data.toList.isEmpty
 | .sl true _ [], .slice none 0 0 => true
 | .nilfn, .nilFunc => true
 | .nilp, .pointer none => true
 | .nilmap, .map none => true
 | .nilif, .nilIface => true
 | _, _ => false
def zsChk : List AV → List Value → Bool
 | [], [] => true
 | c :: cs, v :: vs => zChk c v && zsChk cs vs
 | _, _ => false
theorem bytes_empty {s : ByteArray} (h : s.data.toList.isEmpty = true) : s = ⟨#[]⟩ := by
 obtain ⟨⟨l⟩⟩ := s
 simp at h
 rw [h]
theorem zChk_rep {c : AV} {v : Value} (h : zChk c v = true) (g : Ghost) (n : Nat) : Rep g c n v := by
 unfold zChk at h
 split at h <;> try (cases h; done)
 · simp only [Bool.and_eq_true, decide_eq_true_eq] at h; show _ = _; rw [h.1, h.2]
 · show _ = _; rw [eq_of_beq h]
 · simp only [Bool.and_eq_true] at h; show _ = _; rw [bytes_empty h.1, bytes_empty h.2]
 · exact ⟨none, 0, rfl, Nat.le_refl _, fun _ => rfl, .inl rfl⟩
 · rfl
 · rfl
 · rfl
 · rfl
theorem zChk_leaf {c : AV} {v : Value} (h : zChk c v = true) : c.leaf = true := by
 unfold zChk at h
 split at h <;> first | rfl | cases h
theorem zsChk_rep : ∀ {cs : List AV} {vs : List Value}, zsChk cs vs = true → ∀ (g : Ghost) (n : Nat), Reps g cs n vs
 | [], [], _, _, _ => rfl
 | c :: cs, v :: vs, h, g, n => by
   simp only [zsChk, Bool.and_eq_true] at h
   exact ⟨v, vs, rfl, zChk_rep h.1 g n, zsChk_rep h.2 g n⟩
 | [], _ :: _, h, _, _ => by cases h
 | _ :: _, [], h, _, _ => by cases h
theorem zsChk_leaf : ∀ {cs : List AV} {vs : List Value}, zsChk cs vs = true → allLeaf cs = true
 | [], [], _ => rfl
 | c :: cs, v :: vs, h => by
   simp only [zsChk, Bool.and_eq_true] at h
   simp only [allLeaf, zChk_leaf h.1, zsChk_leaf h.2, Bool.and_self]
 | [], _ :: _, h => by cases h
 | _ :: _, [], h => by cases h
def fsChk : List Field → List (Nat × Nat) → Bool
 | [], [] => true
 | f :: fs, p :: ps => decide (f.type = p.1) && decide (f.offset = p.2) && fsChk fs ps
 | _, _ => false
theorem fsChk_eq : ∀ {fs : List Field} {ps : List (Nat × Nat)}, fsChk fs ps = true → fs.map (fun f => (f.type, f.offset)) = ps
 | [], [], _ => rfl
 | f :: fs, p :: ps, h => by
   simp only [fsChk, Bool.and_eq_true, decide_eq_true_eq] at h
   rw [List.map_cons, fsChk_eq h.2, h.1.1, h.1.2]
 | [], _ :: _, h => by cases h
 | _ :: _, [], h => by cases h
def descChk : TypeDesc → TK → Bool
 | .int k, .int k' => decide (k = k')
 | .bool, .bool => true
 | .string, .string => true
 | .struct fs, .struct gs => fsChk fs.toList gs
 | .array n e, .array n' e' => decide (n = n') && decide (e = e')
 | .slice e, .slice e' => decide (e = e')
 | .map k e, .map k' e' => decide (k = k') && decide (e = e')
 | .func _ _ _, .other => true
 | .pointer _, .other => true
 | .interface _, .other => true
 | .tuple _, .other => true
 | _, _ => false
theorem descChk_ok {d : TypeDesc} {k : TK} (h : descChk d k = true) : descOk d k := by
 unfold descChk at h
 split at h <;> first | trivial | exact fsChk_eq h | (cases h; done) | (simp only [Bool.and_eq_true, decide_eq_true_eq] at h; exact h)
def subsChk (P : Program) : List (Nat × Nat) → Bool
 | [] => true
 | f :: fs => (P.info? f.1).isSome && subsChk P fs
theorem subsChk_ok {P : Program} : ∀ {fs : List (Nat × Nat)}, subsChk P fs = true → ∀ f ∈ fs, (P.info? f.1).isSome = true
 | [], _, _, h => by simp at h
 | f :: fs, h, f', hf => by
   simp only [subsChk, Bool.and_eq_true] at h
   rcases List.mem_cons.1 hf with rfl | hf
   · exact h.1
   · exact subsChk_ok h.2 f' hf
def subChk (P : Program) : TK → Bool
 | .struct gs => subsChk P gs
 | _ => true
def aggZ : Value → Bool
 | .agg _ => true
 | _ => false
def tyChk (P : Program) (t : Nat) (i : TInfo) : Bool :=
 match P.info? t, P.underlying t with
 | some ti, some d => (match ti.zero with
   | some z => decide (ti.size = i.size) && decide (ti.bytes = i.bytes) && zsChk i.zero z.cells.toList && z.cells.toList.all (·.oneCell') && decide (i.zero.length = i.size) && (match i.k.agg with | true => aggZ z | false => z.oneCell')
   | none => false) && descChk d i.k && subChk P i.k
 | _, _ => false
theorem tyChk_ok {P : Program} {t : Nat} {i : TInfo} (h : tyChk P t i = true) : TyOk P t i := by
 unfold tyChk at h
 split at h
 · rename_i ti d hi hu
   simp only [Bool.and_eq_true] at h
   obtain ⟨⟨h1, h2⟩, h3⟩ := h
   split at h1
   · rename_i z hz
     simp only [Bool.and_eq_true, decide_eq_true_eq] at h1
     obtain ⟨⟨⟨⟨⟨ha, hb⟩, hc⟩, hd⟩, he⟩, hf⟩ := h1
     refine ⟨⟨ti, z, hi, ha, hb, hz, zsChk_rep hc, hd, he, zsChk_leaf hc, ?_⟩, ⟨d, hu, descChk_ok h2⟩, fun gs hgs => ?_⟩
     · cases hk : i.k.agg with
       | true => rw [hk] at hf; cases z <;> first | rfl | cases hf
       | false => rw [hk] at hf; exact hf
     · rw [hgs] at h3; exact subsChk_ok h3
   · cases h1
 · cases h
def tysChk (P : Program) : Nat → List (Option TInfo) → Bool
 | _, [] => true
 | t, none :: is => tysChk P (t + 1) is
 | t, some i :: is => tyChk P t i && tysChk P (t + 1) is
def tyAt (l : List (Option TInfo)) (t : Nat) : Option TInfo := l.getD t none
theorem tysChk_ok {P : Program} : ∀ (l : List (Option TInfo)) (k : Nat), tysChk P k l = true → ∀ t i, tyAt l t = some i → TyOk P (k + t) i
 | [], _, _, _, _, h => by simp [tyAt] at h
 | none :: is, k, h, 0, i, hi => by simp [tyAt] at hi
 | none :: is, k, h, t + 1, i, hi => by
   have := tysChk_ok is (k + 1) h t i (by simpa [tyAt] using hi)
   rwa [show k + 1 + t = k + (t + 1) by omega] at this
 | some i' :: is, k, h, 0, i, hi => by
   simp only [tysChk, Bool.and_eq_true] at h
   simp [tyAt] at hi
   subst hi
   exact tyChk_ok h.1
 | some i' :: is, k, h, t + 1, i, hi => by
   simp only [tysChk, Bool.and_eq_true] at h
   have := tysChk_ok is (k + 1) h.2 t i (by simpa [tyAt] using hi)
   rwa [show k + 1 + t = k + (t + 1) by omega] at this
end Go.Abs
namespace Go.Abs
def run {α : Type} (x : Option α) : Option α := x
section
variable {α β : Type} {E : Env} {H : Nat → Hint} {N c : Nat} {fr : Fr} {σ : Store} {b f : Bool} {k : IntKind} {n : Int} {s : ByteArray} {sz : Nat} {es : List (List AV)}
@[push_cast] theorem r_some (a : α) : run (some a) = some a := rfl
@[push_cast] theorem r_bind (a : α) (f : α → Option β) : bindO (some a) f = run (f a) := rfl
@[push_cast] theorem r_bind2 (x : Option α) (f : α → Option β) : run (bindO x f) = bindO (run x) f := rfl
@[push_cast] theorem r_run (x : Option α) : run (run x) = run x := rfl
@[push_cast] theorem r_none : run (none : Option α) = none := rfl
@[push_cast] theorem r_true (x y : Option α) : run (iteO true x y) = run x := rfl
@[push_cast] theorem r_false (x y : Option α) : run (iteO false x y) = run y := rfl
@[push_cast] theorem b_true (x y : Option α) (f : α → Option β) : bindO (iteO true x y) f = bindO (run x) f := rfl
@[push_cast] theorem b_false (x y : Option α) (f : α → Option β) : bindO (iteO false x y) f = bindO (run y) f := rfl
attribute [push_cast] decide_true decide_false List.getD_cons_zero List.getD_cons_succ List.set_cons_zero List.set_cons_succ List.getElem?_cons_zero List.getElem?_cons_succ
 List.nil_append List.cons_append List.length_cons List.length_nil List.length_append List.append_nil AV.leaf allLeaf Nat.zero_add List.drop_zero List.drop_succ_cons List.take_succ_cons List.take_zero List.map_cons List.map_nil
 Bool.true_and Bool.and_true Bool.false_and Bool.and_false Bool.true_or Bool.or_true Bool.false_or Bool.or_false Bool.not_true Bool.not_false Option.isNone_none Option.isNone_some Option.isSome_some Option.isSome_none Option.getD_some Option.getD_none
 Int.toNat_natCast List.replicate List.take_nil List.drop_nil
@[push_cast] theorem r_skip : run (aev E H N c .skip fr σ) = some ⟨.normal, fr, σ⟩ := rfl
@[push_cast] theorem r_region (id : Nat) (ops : Array Oper) (d : Bool) : run (aev E H N c (.region id ops d) fr σ) = aliB (E.ali id) (run (aOps E ops ops.toList fr σ)) := rfl
@[push_cast] theorem noAli_eq (id : Nat) : noAli id = [] := rfl
@[push_cast] theorem aliB_nil (x : Option ARes) : aliB [] x = x := by cases x <;> rfl
@[push_cast] theorem aliB_cons (q : Nat × Nat) (l : List (Nat × Nat)) (r : ARes) : aliB (q :: l) (some r) = iteO (aliP q r.fr && aliF l r.fr) (some r) none := rfl
@[push_cast] theorem aliB_bind {α : Type} (l : List (Nat × Nat)) (x : Option α) (f : α → Option ARes) : aliB l (bindO x f) = bindO x fun a => aliB l (f a) := by cases x <;> rfl
@[push_cast] theorem aliB_ite (l : List (Nat × Nat)) (b : Bool) (x y : Option ARes) : aliB l (iteO b x y) = iteO b (aliB l x) (aliB l y) := by cases b <;> rfl
@[push_cast] theorem aliB_none (l : List (Nat × Nat)) : aliB l none = none := rfl
@[push_cast] theorem r_aliB_ite (l : List (Nat × Nat)) (b : Bool) (x y : Option ARes) : aliB l (run (iteO b x y)) = run (iteO b (aliB l x) (aliB l y)) := by cases b <;> rfl
@[push_cast] theorem r_aliB_bind {α : Type} (l : List (Nat × Nat)) (x : Option α) (f : α → Option ARes) : aliB l (run (bindO x f)) = run (bindO x fun a => aliB l (f a)) := by cases x <;> rfl
@[push_cast] theorem r_aliB (l : List (Nat × Nat)) (x : Option ARes) : run (aliB l x) = aliB l (run x) := rfl
@[push_cast] theorem aliF_nil (fr : Fr) : aliF [] fr = true := rfl
@[push_cast] theorem aliF_cons (q : Nat × Nat) (l : List (Nat × Nat)) (fr : Fr) : aliF (q :: l) fr = (aliP q fr && aliF l fr) := rfl
@[push_cast] theorem aliP_eq (a b : Nat) (fr : Fr) : aliP (a, b) fr = match decide (a = b) with | true => isRd (fr.getD a .top) | false => aliV (fr.getD a .top) (fr.getD b .top) := rfl
@[push_cast] theorem isRd_ptr (i o : Nat) : isRd (.ptr i o) = true := rfl
@[push_cast] theorem isRd_sl (f : Bool) (n : Nat) (es : List (List AV)) : isRd (.sl f n es) = true := rfl
@[push_cast] theorem isRd_cref (cs : List AV) : isRd (.cref cs) = true := rfl
@[push_cast] theorem isRd_str (s : ByteArray) : isRd (.str s) = true := rfl
@[push_cast] theorem isRd_int (k : IntKind) (n : Int) : isRd (.int k n) = true := rfl
@[push_cast] theorem isRd_bool (b : Bool) : isRd (.bool b) = true := rfl
@[push_cast] theorem isRd_agg (cs : List AV) : isRd (.agg cs) = allDataL cs := rfl
@[push_cast] theorem isRd_tup (cs : List AV) : isRd (.tuple cs) = allDataL cs := rfl
@[push_cast] theorem aliV_pp (i j a b : Nat) : aliV (.ptr i a) (.ptr j b) = !(i == j) := rfl
@[push_cast] theorem r_seq (a b : Code) : run (aev E H N c (.seq a b) fr σ) = bindO (run (aev E H N c a fr σ)) fun r => thenO r fun fr' σ' => aev E H N c b fr' σ' := rfl
@[push_cast] theorem r_cond (x : Operand) (a b : Code) : run (aev E H N c (.cond x a b) fr σ) = bindO (asB (evalO fr x)) fun t => iteO t (aev E H N c a fr σ) (aev E H N c b fr σ) := rfl
@[push_cast] theorem r_block (id : Nat) (b : Code) : run (aev E H N c (.block id b) fr σ) = bindO (run (aev E H N id b fr σ)) (caught (H id).behind id) := rfl
@[push_cast] theorem r_loop (b : Code) : run (aev E H N c (.loop b) fr σ) = bindO (run (aFix (H c).fix fr σ)) fun q => aLoop E.n0 (aev E H N c b) (H c).head q.2.length N (keepFr E.n0 q.2.length q.2 (H c).head 0 q.1) (keepSt E.n0 q.2.length q.2) := rfl
@[push_cast] theorem r_fix0 : run (aFix [] fr σ) = some (fr, σ) := rfl
@[push_cast] theorem r_fix1 (x : Fix) (l : List Fix) : run (aFix (x :: l) fr σ) = bindO (run (aFix1 fr σ x)) fun p => aFix l p.1 p.2 := rfl
@[push_cast] theorem r_fix2 (t sz : Nat) : run (aFix1 fr σ (.own t sz)) = bindO (nilSl (fr.getD t .top)) fun _ => some (fr.set t (.rs σ.length 0), σ ++ [.row sz 0 []]) := rfl
@[push_cast] theorem r_fix3 (id off sz : Nat) : run (aFix1 fr σ (.ownS id off sz)) = bindO (objVar σ[id]?) fun cs => bindO (nilSl (cs.getD off .top)) fun _ => some (fr, σ.set id (.var (cs.set off (.rs σ.length 0))) ++ [.row sz 0 []]) := rfl
@[push_cast] theorem r_fix4 (t : Nat) : run (aFix1 fr σ (.frz t)) = bindO (run (freeze σ (fr.getD t .top))) fun p => some (fr.set t p.1, p.2) := rfl
@[push_cast] theorem r_fix6 (t sz : Nat) : run (aFix1 fr σ (.app t sz)) = bindO (run (toApp σ sz (fr.getD t .top))) fun p => some (fr.set t p.1, p.2) := rfl
@[push_cast] theorem r_fix7 (id off sz : Nat) : run (aFix1 fr σ (.appS id off sz)) = bindO (objVar σ[id]?) fun cs => bindO (toApp σ sz (cs.getD off .top)) fun p => bindO (objVar p.2[id]?) fun cs2 => some (fr, p.2.set id (.var (cs2.set off p.1))) := rfl
@[push_cast] theorem reAp_row (id ver sz : Nat) (es xs : List (List AV)) (a b : Nat) (c : List (List AV)) : reAp σ id ver sz es xs (some (.row a b c)) = (.rs id (ver + 1), σ.set id (.row sz (ver + 1) (es ++ xs))) := rfl
@[push_cast] theorem reAp_app0 (id ver sz : Nat) (es : List (List AV)) (a b : Nat) (c : List (List AV)) : reAp σ id ver sz es [] (some (.app a b c)) = (.rs id ver, σ) := rfl
@[push_cast] theorem reAp_app1 (id ver sz : Nat) (es : List (List AV)) (x : List AV) (xs : List (List AV)) (a b : Nat) (c : List (List AV)) : reAp σ id ver sz es (x :: xs) (some (.app a b c)) = (.rs id (ver + 1), σ.set id (.app sz (ver + 1) (es ++ (x :: xs)))) := rfl
@[push_cast] theorem reAp_map {α : Type} (id ver sz : Nat) (es : List (List AV)) (f : α → List AV) (l : List α) (a b : Nat) (c : List (List AV)) : some (reAp σ id ver sz es (List.map f l) (some (.app a b c))) = iteO l.isEmpty (some (.rs id ver, σ)) (some (.rs id (ver + 1), σ.set id (.app sz (ver + 1) (es ++ List.map f l)))) := by cases l <;> rfl
@[push_cast] theorem apOf_row (id ver sz : Nat) (es : List (List AV)) (a b : Nat) (c : List (List AV)) : apOf σ id ver sz es (some (.row a b c)) = (.rs id (ver + 1), σ.set id (.app sz (ver + 1) es)) := rfl
@[push_cast] theorem apOf_app (id ver sz : Nat) (es : List (List AV)) (a b : Nat) (c : List (List AV)) : apOf σ id ver sz es (some (.app a b c)) = (.rs id ver, σ) := rfl
@[push_cast] theorem r_toApp1 (sz s : Nat) (es : List (List AV)) : run (toApp σ sz (.sl true s es)) = run (iteO (decide (s = sz) || es.isEmpty) (some (.rs σ.length 1, σ ++ [.app sz 1 es])) none) := rfl
@[push_cast] theorem r_toApp2 (sz id ver : Nat) : run (toApp σ sz (.rs id ver)) = bindO (curA σ id ver) fun p => iteO (decide (p.1 = sz)) (some (apOf σ id ver sz p.2 σ[id]?)) none := rfl
@[push_cast] theorem r_fix5 (id off : Nat) : run (aFix1 fr σ (.frzS id off)) = bindO (objVar σ[id]?) fun cs => bindO (freezeL σ (cs.getD off .top)) fun p => bindO (objVar p.2[id]?) fun cs2 => some (fr, p.2.set id (.var (cs2.set off p.1))) := rfl
@[push_cast] theorem r_nilSl (sz : Nat) : nilSl (.sl true sz []) = some () := rfl
@[push_cast] theorem r_exit (id : Nat) : run (aev E H N c (.exit id) fr σ) = some ⟨.exit id, fr, σ⟩ := rfl
@[push_cast] theorem r_ret : run (aev E H N c .ret fr σ) = some ⟨.ret, fr, σ⟩ := rfl
@[push_cast] theorem r_then1 (f : Fr → Store → Option ARes) : run (thenO ⟨.normal, fr, σ⟩ f) = run (f fr σ) := rfl
@[push_cast] theorem r_then2 (f : Fr → Store → Option ARes) (j : Nat) : run (thenO ⟨.exit j, fr, σ⟩ f) = some ⟨.exit j, fr, σ⟩ := rfl
@[push_cast] theorem r_then3 (f : Fr → Store → Option ARes) : run (thenO ⟨.ret, fr, σ⟩ f) = some ⟨.ret, fr, σ⟩ := rfl
@[push_cast] theorem r_caught1 (ks : List Nat) (id : Nat) : run (caught ks id ⟨.normal, fr, σ⟩) = some ⟨.normal, dropFr ks 0 fr, σ⟩ := rfl
@[push_cast] theorem r_caught2 (ks : List Nat) (id j : Nat) : run (caught ks id ⟨.exit j, fr, σ⟩) = run (iteO (decide (j = id)) (some ⟨.normal, dropFr ks 0 fr, σ⟩) (some ⟨.exit j, fr, σ⟩)) := rfl
@[push_cast] theorem r_caught3 (ks : List Nat) (id : Nat) : run (caught ks id ⟨.ret, fr, σ⟩) = some ⟨.ret, fr, σ⟩ := rfl
@[push_cast] theorem r_ops0 (ops : Array Oper) : run (aOps E ops [] fr σ) = some ⟨.normal, fr, σ⟩ := rfl
@[push_cast] theorem r_ops1 (ops : Array Oper) (dst : Option Tmp) (op : Op) (ty : TypeId) (pos : String) (after : Array Edge) (os : List Oper) :
   run (aOps E ops (⟨dst, op, ty, pos, after, none⟩ :: os) fr σ) = bindO (run (aOp E fr σ ty op)) fun p => aOps E ops os (setT fr dst p.1) p.2 := rfl
@[push_cast] theorem r_ops2 (ops : Array Oper) (dst : Option Tmp) (op : Op) (ty : TypeId) (pos : String) (after : Array Edge) (g : Nat × Bool) (os : List Oper) :
   run (aOps E ops (⟨dst, op, ty, pos, after, some g⟩ :: os) fr σ) = bindO (run (wants ops fr (some g))) fun b =>
   iteO b (bindO (aOp E fr σ ty op) fun p => aOps E ops os (setT fr dst p.1) p.2) (aOps E ops os (setT fr dst (.tuple [])) σ) := rfl
def dstAt : Option Oper → Option Tmp
 | some o => o.dst
 | none => none
@[push_cast] theorem dstAt_some (dst : Option Tmp) (op : Op) (ty : TypeId) (pos : String) (after : Array Edge) (g : Option (Nat × Bool)) : dstAt (some ⟨dst, op, ty, pos, after, g⟩) = dst := rfl
@[push_cast] theorem r_wants (ops : Array Oper) (j : Nat) (w : Bool) : run (wants ops fr (some (j, w))) = bindO (dstAt ops.toList[j]?) fun t => asG w (fr.getD t .top) := by
 have : dstAt ops.toList[j]? = (ops[j]?).bind (·.dst) := by
   rw [Array.getElem?_toList]
   cases ops[j]? <;> rfl
 rw [this]; rfl
@[push_cast] theorem asG_b (w b : Bool) : asG w (.bool b) = some (b == w) := rfl
@[push_cast] theorem asG_u (w : Bool) : asG w (.tuple []) = some false := rfl
attribute [push_cast] beq_true beq_false
attribute [push_cast] setT evalO evalOs evalPs ofValue ofLeaf asB keepFr keepFr0 looseFr AV.loose AV.looseL looseLs dropFr keepSt keepObjs AV.keep AV.keepL rowVer AObj.keep
@[push_cast] theorem r_move (ty : Nat) (x : Operand) : run (aOp E fr σ ty (.move x)) = some (evalO fr x, σ) := rfl
@[push_cast] theorem r_assign (ty : Nat) (x : Operand) : run (aOp E fr σ ty (.assign x)) = run (aAssign E fr σ ty x) := rfl
@[push_cast] theorem r_pick (ty : Nat) (c a b : Operand) : run (aOp E fr σ ty (.pick c a b)) = bindO (asB (evalO fr c)) fun c => iteO c (some (evalO fr a, σ)) (some (evalO fr b, σ)) := rfl
@[push_cast] theorem r_alloc (ty t : Nat) : run (aOp E fr σ ty (.alloc t)) = bindO (E.ty t) fun ti => newObj σ (.var ti.zero) (.ptr σ.length 0) := rfl
@[push_cast] theorem r_box (ty t : Nat) (x : Operand) : run (aOp E fr σ ty (.box t x)) = bindO (run (cellsOf (evalO fr x))) fun us => newObj σ (.var us) (.ptr σ.length 0) := rfl
@[push_cast] theorem r_build (ty t : Nat) (ps : Array (Nat × Operand)) : run (aOp E fr σ ty (.build t ps)) = bindO (E.ty t) fun ti => bindO (tkStruct ti.k) fun _ => bindO (aBuildCells E ti.k (evalPs fr ps.toList) ti.zero) fun cs => some (.agg cs, σ) := rfl
@[push_cast] theorem r_buildSlice (ty t n : Nat) (ps : Array (Nat × Operand)) : run (aOp E fr σ ty (.buildSlice t n ps)) = run (aBuildSlice E fr σ t n ps) := rfl
@[push_cast] theorem r_load (ty t : Nat) (a : Operand) : run (aOp E fr σ ty (.load t a)) = bindO (run (aLoad E σ t (evalO fr a))) fun v => some (v, σ) := rfl
@[push_cast] theorem r_store (ty t : Nat) (a x : Operand) : run (aOp E fr σ ty (.store t a x)) = bindO (run (aStore E σ t (evalO fr a) (evalO fr x))) fun σ' => some (.top, σ') := rfl
@[push_cast] theorem r_nilCheck (ty : Nat) (x : Operand) : run (aOp E fr σ ty (.nilCheck x)) = bindO (run (aNilCheck (evalO fr x))) fun v => some (v, σ) := rfl
@[push_cast] theorem r_bin (ty t u : Nat) (op : BinOp) (x y : Operand) : run (aOp E fr σ ty (.binOp op t x y u)) = bindO (run (aBin E op t (evalO fr x) (evalO fr y))) fun v => some (v, σ) := rfl
@[push_cast] theorem r_un (ty t : Nat) (op : UnOp) (x : Operand) : run (aOp E fr σ ty (.unOp op t x)) = bindO (run (aUn op (evalO fr x))) fun v => some (v, σ) := rfl
@[push_cast] theorem r_conv (ty s d : Nat) (x : Operand) : run (aOp E fr σ ty (.convert s d x)) = bindO (run (aConvert E s d (evalO fr x))) fun v => some (v, σ) := rfl
@[push_cast] theorem r_makeFunc (ty : Nat) (f : Fn) (a cap : Array Operand) : run (aOp E fr σ ty (.makeFunc f a cap)) = bindO (fnFirst f a) fun f => some (.fn f (evalOs fr cap.toList), σ) := rfl
theorem r_makeMap (ty t : Nat) : run (aOp E fr σ ty (.makeMap t none)) = bindO (E.ty t) fun ti => bindO (tkMap ti.k) fun ke => bindO (E.ty ke.1) fun ki => newObj σ (.map ki.k fun _ => none) (.map σ.length) := rfl
@[push_cast] theorem r_makeSlice (ty t : Nat) (l c : Operand) : run (aOp E fr σ ty (.makeSlice t l c)) = run (aMakeSlice E fr σ t l c) := rfl
@[push_cast] theorem r_slice (ty t : Nat) (x : Operand) (lo hi mx : Option Operand) : run (aOp E fr σ ty (.slice t x lo hi mx)) = bindO (run (optI fr lo)) fun lo => bindO (optI fr hi) fun hi => bindO (optI fr mx) fun mx => aSlice E σ t (evalO fr x) lo hi mx := rfl
@[push_cast] theorem r_fieldAddr (ty s f : Nat) (x : Operand) : run (aOp E fr σ ty (.fieldAddr s x f)) = bindO (run (aFieldAddr E s (evalO fr x) f)) fun v => some (v, σ) := rfl
@[push_cast] theorem r_field (ty t f : Nat) (x : Operand) : run (aOp E fr σ ty (.field t x f)) = bindO (run (aField E t (evalO fr x) f)) fun v => some (v, σ) := rfl
@[push_cast] theorem r_indexAddr (ty t : Nat) (x i : Operand) : run (aOp E fr σ ty (.indexAddr t x i)) = bindO (run (aIndexAddr E σ t (evalO fr x) (evalO fr i))) fun v => some (v, σ) := rfl
@[push_cast] theorem r_index (ty t : Nat) (x i : Operand) : run (aOp E fr σ ty (.index t x i)) = bindO (run (aIndex E t (evalO fr x) (evalO fr i))) fun v => some (v, σ) := rfl
@[push_cast] theorem r_lookup (ty t : Nat) (m k : Operand) (ok : Bool) : run (aOp E fr σ ty (.lookup t m k ok)) = bindO (run (aLookup E σ t (evalO fr m) (evalO fr k) ok)) fun v => some (v, σ) := rfl
@[push_cast] theorem r_mapUpdate (ty t : Nat) (m k v : Operand) : run (aOp E fr σ ty (.mapUpdate t m k v)) = bindO (run (aMapUpdate E σ t (evalO fr m) (evalO fr k) (evalO fr v))) fun σ' => some (.top, σ') := rfl
@[push_cast] theorem r_extract (ty i : Nat) (x : Operand) : run (aOp E fr σ ty (.extract x i)) = bindO (tupleOf (evalO fr x)) fun vs => bindO (vs[i]?) fun v => some (v, σ) := rfl
@[push_cast] theorem r_call (ty : Nat) (cl : Callee) (args : Array Operand) (ts : Array TypeId) : run (aOp E fr σ ty (.call ⟨cl, args, ts⟩)) = run (aCallee E fr σ args ts cl) := rfl
@[push_cast] theorem r_callee1 (b : Builtin) (args : Array Operand) (ts : Array TypeId) : run (aCallee E fr σ args ts (.builtin b)) = run (aBuiltin E σ ts b (evalOs fr args.toList)) := rfl
@[push_cast] theorem r_callee2 (f : Operand) (args : Array Operand) (ts : Array TypeId) : run (aCallee E fr σ args ts (.value f)) = aCallV E σ (evalOs fr args.toList) (evalO fr f) := rfl
@[push_cast] theorem callV_fn (f : Nat) (cap args : List AV) : aCallV E σ args (.fn f cap) = E.tab f (args ++ cap) σ := rfl
@[push_cast] theorem callV_yfn (x : List AV) (b : Bool) (T : List (List AV × Bool)) (rest : Store) : aCallV E (.guest ((x, b) :: T) :: rest) x (.yfn E.P) = iteO (allData x) (some (.bool b, .guest T :: rest)) none := by
 show iteO (decYes (E.P = E.P ∧ x = x) && allData x) (some (AV.bool b, AObj.guest T :: rest)) none = _
 rw [decYes_true ⟨rfl, rfl⟩]
 rfl
@[push_cast] theorem r_newObj (o : AObj) (v : AV) : run (newObj σ o v) = some (v, σ ++ [o]) := rfl
@[push_cast] theorem r_assign1 (t x) : run (aAssign E fr σ t x) = bindO (some (isNilSlice x)) fun b => iteO b (bindO (E.ty t) fun ti => bindO (tkSlice ti.k) fun e => bindO (E.ty e) fun ei => newObj σ (.row ei.size 0 []) (.rs σ.length 0)) (some (evalO fr x, σ)) := by
 unfold aAssign run bindO iteO; cases isNilSlice x <;> rfl
@[push_cast] theorem r_aload (t : Nat) (a : AV) : run (aLoad E σ t a) = bindO (E.ty t) fun ti => aLoadV ti σ a := rfl
@[push_cast] theorem r_loadv1 (ti : TInfo) (id off : Nat) : run (aLoadV ti σ (.ptr id off)) = bindO (objVar σ[id]?) fun cs => partOf ti cs off := rfl
@[push_cast] theorem r_loadv2 (ti : TInfo) (cs : List AV) : run (aLoadV ti σ (.cref cs)) = run (partOf ti cs 0) := rfl
@[push_cast] theorem r_loadv3 (ti : TInfo) (id ver sz i off : Nat) : run (aLoadV ti σ (.rptr id ver sz i off)) = bindO (curR σ id ver) fun p => iteO (decide (p.1 = sz)) (bindO (p.2[i]?) fun cs => partOf ti cs off) none := rfl
attribute [push_cast] objVar objMap cur objRow curA objRowA curR objRowR tkStruct tkSlice tkMap TK.agg isNilSlice AV.dataL allDataL AV.data allData tupleOf slOf fnFirst asI toKey packed
@[push_cast] theorem r_part (ti : TInfo) (cs : List AV) (off : Nat) : run (partOf ti cs off) = run (partK ti.k.agg ti.size cs off) := rfl
@[push_cast] theorem r_part1 (size : Nat) (cs : List AV) (off : Nat) : run (partK true size cs off) = run (iteO (decide (off + size ≤ cs.length)) (some (.agg ((cs.drop off).take size))) none) := rfl
@[push_cast] theorem r_part2 (size : Nat) (cs : List AV) (off : Nat) : run (partK false size cs off) = cs[off]? := rfl
@[push_cast] theorem r_put (cs : List AV) (off : Nat) (vs : List AV) : putAt cs off vs = run (iteO (decide (off + vs.length ≤ cs.length)) (some (cs.take off ++ (vs ++ cs.drop (off + vs.length)))) none) := rfl
@[push_cast] theorem r_cells1 (cs : List AV) : run (cellsOf (.agg cs)) = run (iteO (allLeaf cs) (some cs) none) := rfl
@[push_cast] theorem r_cells2 : run (cellsOf (.bool b)) = some [.bool b] := rfl
@[push_cast] theorem r_cells3 : run (cellsOf (.int k n)) = some [.int k n] := rfl
@[push_cast] theorem r_cells4 : run (cellsOf (.str s)) = some [.str s] := rfl
@[push_cast] theorem r_cells5 : run (cellsOf (.sl f sz es)) = some [.sl f sz es] := rfl
@[push_cast] theorem r_cells6 (id off : Nat) : run (cellsOf (.ptr id off)) = some [.ptr id off] := rfl
@[push_cast] theorem r_cells7 (id ver : Nat) : run (cellsOf (.rs id ver)) = some [.rs id ver] := rfl
@[push_cast] theorem r_cells8 (id : Nat) : run (cellsOf (.map id)) = some [.map id] := rfl
@[push_cast] theorem r_cells9 (id : Nat) (cap : List AV) : run (cellsOf (.fn id cap)) = some [.fn id cap] := rfl
@[push_cast] theorem r_cells10 (cs : List AV) : run (cellsOf (.cref cs)) = some [.cref cs] := rfl
@[push_cast] theorem r_cells11 : run (cellsOf .nilp) = some [.nilp] := rfl
@[push_cast] theorem r_cells12 : run (cellsOf .nilmap) = some [.nilmap] := rfl
@[push_cast] theorem r_cells13 : run (cellsOf .nilfn) = some [.nilfn] := rfl
@[push_cast] theorem r_cells14 : run (cellsOf .nilif) = some [.nilif] := rfl
@[push_cast] theorem r_cells15 (id ver sz i off : Nat) : run (cellsOf (.rptr id ver sz i off)) = some [.rptr id ver sz i off] := rfl
@[push_cast] theorem r_astore (t : Nat) (a v : AV) : run (aStore E σ t a v) = bindO (E.ty t) fun ti => aStoreV σ ti.size v a := rfl
@[push_cast] theorem r_storev1 (size : Nat) (v : AV) (id off : Nat) : run (aStoreV σ size v (.ptr id off)) = bindO (run (cellsOf v)) fun us => iteO (decide (us.length = size)) (bindO (objVar σ[id]?) fun cs => bindO (putAt cs off us) fun cs' => some (σ.set id (.var cs'))) none := rfl
@[push_cast] theorem r_storev2 (size : Nat) (v : AV) (id ver sz i off : Nat) : run (aStoreV σ size v (.rptr id ver sz i off)) = bindO (run (freeze σ v)) fun q => bindO (cellsOf q.1) fun us => iteO (decide (us.length = size)) (bindO (cur q.2 id ver) fun p => iteO (decide (p.1 = sz))
     (bindO (p.2[i]?) fun cs => bindO (putAt cs off us) fun cs' => some (q.2.set id (.row sz ver (p.2.set i cs')))) none) none := rfl
@[push_cast] theorem r_fa (s f : Nat) (a : AV) : run (aFieldAddr E s a f) = bindO (E.ty s) fun ti => bindO (tkStruct ti.k) fun fs => bindO (fs[f]?) fun fo => bindO (E.ty fo.1) fun fi =>
 iteO (decide (fi.size = 0)) none (aFieldAt fo.2 a) := rfl
@[push_cast] theorem r_fat1 (o id off : Nat) : run (aFieldAt o (.ptr id off)) = some (.ptr id (off + o)) := rfl
@[push_cast] theorem r_fat2 (o : Nat) (cs : List AV) : run (aFieldAt o (.cref cs)) = some (.cref (cs.drop o)) := rfl
@[push_cast] theorem r_fat3 (o id ver sz i off : Nat) : run (aFieldAt o (.rptr id ver sz i off)) = some (.rptr id ver sz i (off + o)) := rfl
@[push_cast] theorem r_fd (t f : Nat) (x : AV) : run (aField E t x f) = bindO (E.ty t) fun ti => bindO (tkStruct ti.k) fun fs => bindO (fs[f]?) fun fo => bindO (E.ty fo.1) fun fi => aFieldV fi fo.2 x := rfl
@[push_cast] theorem r_fdv (fi : TInfo) (o : Nat) (cs : List AV) : run (aFieldV fi o (.agg cs)) = run (partOf fi cs o) := rfl
@[push_cast] theorem r_ia (t : Nat) (x i : AV) : run (aIndexAddr E σ t x i) = bindO (E.ty t) fun ti => bindO (asI i) fun i => aIndexAddrK E σ x i ti.k := rfl
@[push_cast] theorem r_ia1 (x : AV) (i : Int) (e : Nat) : run (aIndexAddrK E σ x i (.slice e)) = bindO (E.ty e) fun ei => aAtSlice σ ei.size i x := rfl
@[push_cast] theorem r_ia2 (x : AV) (i : Int) (n e : Nat) : run (aIndexAddrK E σ x i (.array n e)) = bindO (E.ty e) fun ei => aAtArray n ei.size i x := rfl
@[push_cast] theorem r_as1 (size : Nat) (i : Int) (f : Bool) (sz : Nat) (es : List (List AV)) : run (aAtSlice σ size i (.sl f sz es)) = run (iteO (decide (sz = size)) (iteO (inB i es.length) (some (.cref (es.getD i.toNat []))) none) none) := rfl
@[push_cast] theorem r_as2 (size : Nat) (i : Int) (id ver : Nat) : run (aAtSlice σ size i (.rs id ver)) = bindO (curA σ id ver) fun p => iteO (decide (p.1 = size)) (iteO (inB i p.2.length) (some (.rptr id ver p.1 i.toNat 0)) none) none := rfl
@[push_cast] theorem r_aa (n size : Nat) (i : Int) (id off : Nat) : run (aAtArray n size i (.ptr id off)) = run (iteO (inB i n) (some (.ptr id (off + i.toNat * size))) none) := rfl
@[push_cast] theorem r_ix (t : Nat) (x i : AV) : run (aIndex E t x i) = bindO (E.ty t) fun ti => bindO (asI i) fun i => aIndexK E i ti.k x := rfl
@[push_cast] theorem r_ix1 (i : Int) (s : ByteArray) : run (aIndexK E i .string (.str s)) = run (iteO (inB i s.size) (some (.int .u8 (bt s i))) none) := rfl
@[push_cast] theorem r_ix2 (i : Int) (n e : Nat) (cs : List AV) : run (aIndexK E i (.array n e) (.agg cs)) = bindO (E.ty e) fun ei => iteO (inB i n) (partOf ei cs (i.toNat * ei.size)) none := rfl
@[push_cast] theorem r_opt0 : run (optI fr none) = some none := rfl
@[push_cast] theorem r_opt1 (o : Operand) : run (optI fr (some o)) = bindO (asI (evalO fr o)) fun i => some (some i) := rfl
@[push_cast] theorem r_sl (t : Nat) (x : AV) (lo hi mx : Option Int) : run (aSlice E σ t x lo hi mx) = bindO (E.ty t) fun ti => aSliceK E σ lo hi mx ti.k x := rfl
@[push_cast] theorem r_sl1 (s : ByteArray) (lo hi mx : Option Int) : run (aSliceK E σ lo hi mx .string (.str s)) = run (iteO (mx.isNone && inS (lo.getD 0) (hi.getD s.size) s.size) (some (.str (s.extract (lo.getD 0).toNat (hi.getD s.size).toNat), σ)) none) := rfl
@[push_cast] theorem r_sl2 (e : Nat) (f : Bool) (sz : Nat) (es : List (List AV)) (lo hi : Option Int) : run (aSliceK E σ lo hi none (.slice e) (.sl f sz es)) = bindO (E.ty e) fun ei => iteO ((decide (sz = ei.size) || es.isEmpty) && inS (lo.getD 0) (hi.getD es.length) es.length)
   (some (.sl (f && hi.isNone) sz (aCut es (lo.getD 0) (hi.getD es.length)), σ)) none := by cases lo <;> cases hi <;> rfl
@[push_cast] theorem r_sl3 (e : Nat) (f : Bool) (sz : Nat) (es : List (List AV)) (lo hi : Option Int) (m : Int) : run (aSliceK E σ lo hi (some m) (.slice e) (.sl f sz es)) = bindO (E.ty e) fun ei => iteO ((decide (sz = ei.size) || es.isEmpty) && inS (lo.getD 0) (hi.getD es.length) es.length)
   (iteO (decide (m = hi.getD es.length) && hi.isSome) (some (.sl true sz (aCut es (lo.getD 0) (hi.getD es.length)), σ)) none) none := by cases lo <;> cases hi <;> rfl
@[push_cast] theorem r_sl5 (e id ver : Nat) (l : Int) : run (aSliceK E σ (some l) none none (.slice e) (.rs id ver)) = bindO (E.ty e) fun _ => bindO (cur σ id ver) fun p => iteO (inS l p.2.length p.2.length) (some (.top, σ)) none := rfl
@[push_cast] theorem r_sl6 (e id ver : Nat) (h m : Int) : run (aSliceK E σ none (some h) (some m) (.slice e) (.rs id ver)) = bindO (E.ty e) fun ei => bindO (run (objFrz σ id ver σ[id]?)) fun q => bindO (slOf q.1) fun s => iteO (decide (m = h) && ((decide (s.1 = ei.size) || s.2.isEmpty) && inS 0 h s.2.length)) (some (.sl true s.1 (aCut s.2 0 h), q.2)) none := rfl
@[push_cast] theorem r_sl4 (e id ver : Nat) (h : Int) : run (aSliceK E σ none (some h) none (.slice e) (.rs id ver)) = bindO (E.ty e) fun _ => bindO (cur σ id ver) fun p => iteO (inS 0 h p.2.length) (some (.rs id (ver + 1), σ.set id (.row p.1 (ver + 1) (p.2.take h.toNat)))) none := rfl
@[push_cast] theorem r_bc0 (k : TK) (cs : List AV) : aBuildCells E k [] cs = some cs := rfl
@[push_cast] theorem r_bc1 (k : TK) (i : Nat) (v : AV) (ps : List (Nat × AV)) (cs : List AV) : aBuildCells E k ((i, v) :: ps) cs = bindO (run (aPlace E k i)) fun q => bindO (cellsOf v) fun us => iteO (decide (us.length = q.2)) (bindO (putAt cs q.1 us) (aBuildCells E k ps)) none := rfl
@[push_cast] theorem r_pl1 (fs : List (Nat × Nat)) (i : Nat) : run (aPlace E (.struct fs) i) = bindO (fs[i]?) fun fo => bindO (E.ty fo.1) fun fi => some (fo.2, fi.size) := rfl
@[push_cast] theorem r_bs (t n : Nat) (ps : Array (Nat × Operand)) : run (aBuildSlice E fr σ t n ps) = bindO (E.ty t) fun ti => bindO (tkSlice ti.k) fun e => bindO (E.ty e) fun ei =>
 iteO (decide (n * ei.size ≤ 16777216 ∧ ei.size ≠ 0)) (bindO (aBuildElems σ ei.size (evalPs fr ps.toList) (List.replicate n ei.zero)) fun q => some (.sl true ei.size q.1, q.2)) none := rfl
@[push_cast] theorem r_be0 (sz : Nat) (es : List (List AV)) : run (aBuildElems σ sz [] es) = some (es, σ) := rfl
@[push_cast] theorem r_be1 (sz i : Nat) (v : AV) (ps : List (Nat × AV)) (es : List (List AV)) : run (aBuildElems σ sz ((i, v) :: ps) es) = bindO (run (freeze σ v)) fun q => bindO (cellsOf q.1) fun us => iteO (decide (us.length = sz) && decide (i < es.length)) (aBuildElems q.2 sz ps (es.set i us)) none := rfl
@[push_cast] theorem r_ms (t : Nat) (l c : Operand) : run (aMakeSlice E fr σ t l c) = bindO (E.ty t) fun ti => bindO (tkSlice ti.k) fun e => bindO (E.ty e) fun ei => bindO (asI (evalO fr l)) fun l => bindO (asI (evalO fr c)) fun c =>
 iteO (decide (0 ≤ l ∧ l ≤ c ∧ c * ei.bytes ≤ 140737488355328 ∧ c ≤ 9223372036854775807)) (newObj σ (.row ei.size 0 (List.replicate l.toNat ei.zero)) (.rs σ.length 0)) none := rfl
attribute [push_cast] tkSame ofCellsK mapOf lookedUp
@[push_cast] theorem r_lk (t : Nat) (m k : AV) (ok : Bool) : run (aLookup E σ t m k ok) = bindO (E.ty t) fun ti => bindO (tkMap ti.k) fun ke => bindO (E.ty ke.1) fun ki => bindO (E.ty ke.2) fun ei => bindO (mapOf σ m) fun f => iteO (tkSame f.1 ki.k) (bindO (toKey ki.k k) fun key => foundOr ok ei (f.2 key)) none := rfl
@[push_cast] theorem r_fo1 (ok : Bool) (ei : TInfo) (v : AV) : run (foundOr ok ei (some v)) = some (lookedUp ok true v) := rfl
@[push_cast] theorem r_fo2 (ok : Bool) (ei : TInfo) : run (foundOr ok ei none) = bindO (ofCellsK ei.k.agg ei.zero) fun v => some (lookedUp ok false v) := rfl
@[push_cast] theorem r_mu (t : Nat) (m k v : AV) : run (aMapUpdate E σ t m k v) = bindO (E.ty t) fun ti => bindO (tkMap ti.k) fun ke => bindO (E.ty ke.1) fun ki => aMapUpdateV σ ki.k k v m := rfl
@[push_cast] theorem r_mu1 (kk : TK) (k v : AV) (id : Nat) : run (aMapUpdateV σ kk k v (.map id)) = bindO (toKey kk k) fun key => bindO (freeze σ v) fun q => bindO (objMap q.2[id]?) fun f => iteO (tkSame f.1 kk) (some (q.2.set id (.map f.1 (mapPut f.2 key q.1)))) none := rfl
@[push_cast] theorem r_ap (t : Nat) (s x : AV) : run (aAppend E σ t s x) = bindO (E.ty t) fun ti => bindO (tkSlice ti.k) fun e => bindO (E.ty e) fun ei => bindO (slOf x) fun q => iteO (decide (q.1 = ei.size)) (aAppendV σ ei.size ei.bytes q.2 s) none := rfl
@[push_cast] theorem r_ap1 (size bytes : Nat) (xs : List (List AV)) (id ver : Nat) : run (aAppendV σ size bytes xs (.rs id ver)) = bindO (curA σ id ver) fun p => iteO (decide (p.1 = size) && fits (p.2.length + xs.length) bytes) (some (reAp σ id ver p.1 p.2 xs σ[id]?)) none := rfl
@[push_cast] theorem r_ap2 (size bytes : Nat) (xs : List (List AV)) (sz : Nat) (es : List (List AV)) : run (aAppendV σ size bytes xs (.sl true sz es)) = run (iteO ((decide (sz = size) || es.isEmpty) && fits (es.length + xs.length) bytes) (grown σ size es xs) none) := rfl
@[push_cast] theorem r_gr0 (size : Nat) (es : List (List AV)) : run (grown σ size es []) = some (.sl true size es, σ) := rfl
@[push_cast] theorem r_gr1 (size : Nat) (es : List (List AV)) (x : List AV) (xs : List (List AV)) : run (grown σ size es (x :: xs)) = some (.rs σ.length 0, σ ++ [.row size 0 (es ++ (x :: xs))]) := rfl
@[push_cast] theorem r_len0 (t : TypeId) (x : AV) : run (aLen E σ [t] x) = bindO (E.ty t) fun ti => aLenK σ ti.k x := rfl
@[push_cast] theorem r_len1 (s : ByteArray) : run (aLenK σ .string (.str s)) = some (.int .i64 s.size) := rfl
@[push_cast] theorem r_len2 (e : Nat) (f : Bool) (sz : Nat) (es : List (List AV)) : run (aLenK σ (.slice e) (.sl f sz es)) = some (.int .i64 es.length) := rfl
@[push_cast] theorem r_len3 (e id ver : Nat) : run (aLenK σ (.slice e) (.rs id ver)) = bindO (curA σ id ver) fun p => some (.int .i64 p.2.length) := rfl
@[push_cast] theorem r_cv (s d : Nat) (x : AV) : run (aConvert E s d x) = bindO (E.ty s) fun si => bindO (E.ty d) fun di => aConvertK si.k di.k x := rfl
@[push_cast] theorem r_cv1 (j k l : IntKind) (n : Int) : run (aConvertK (.int j) (.int k) (.int l n)) = some (.int k (k.wrap n)) := rfl
@[push_cast] theorem r_cv2 (s : ByteArray) : run (aConvertK .string .string (.str s)) = some (.str s) := rfl
@[push_cast] theorem r_bu1 (ts : Array TypeId) (x : AV) : run (aBuiltin E σ ts .len [x]) = bindO (run (aLen E σ ts.toList x)) fun v => some (v, σ) := rfl
@[push_cast] theorem r_bu2 (ts : Array TypeId) (s x : AV) : run (aBuiltin E σ ts .append [s, x]) = bindO (run (sameTypes ts.toList)) fun t => aAppend E σ t s x := rfl
@[push_cast] theorem r_bu3 (ts : Array TypeId) (k j : IntKind) (a b : Int) : run (aBuiltin E σ ts .min [.int k a, .int j b]) = some (.int k (min a b), σ) := rfl
@[push_cast] theorem r_bu4 (ts : Array TypeId) (k j : IntKind) (a b : Int) : run (aBuiltin E σ ts .max [.int k a, .int j b]) = some (.int k (max a b), σ) := rfl
attribute [push_cast] BinOp.shifts sameTypes
@[push_cast] theorem r_bi1 (op : BinOp) (t : Nat) (k j : IntKind) (a b : Int) : run (aBin E op t (.int k a) (.int j b)) = run (iteO (BinOp.shifts op || decide (k = j)) (aArith op k a b) none) := rfl
@[push_cast] theorem r_bi2 (op : BinOp) (t : Nat) (a b : ByteArray) : run (aBin E op t (.str a) (.str b)) = run (aStr op a b) := rfl
@[push_cast] theorem r_bi3 (op : BinOp) (t : Nat) (a b : Bool) : run (aBin E op t (.bool a) (.bool b)) = bindO (E.ty t) fun ti => bindO (tkBool ti.k) fun _ => eqResult op (a == b) := rfl
@[push_cast] theorem r_bi4 (op : BinOp) (t : Nat) (xs ys : List AV) : run (aBin E op t (.agg xs) (.agg ys)) = bindO (E.eqt t) fun ss => bindO (eqCells ss xs ys) fun r => eqResult op r := rfl
attribute [push_cast] eqCells tkBool eqResult
attribute [push_cast] aArith aStr aUn aNilCheck aResult aResults
@[push_cast] theorem r_ended1 (rs : List ResultVar) : run (ended E rs ⟨.normal, fr, σ⟩) = bindO (run (aResults E fr σ rs)) fun vs => some (vs, σ) := rfl
@[push_cast] theorem r_ended2 (rs : List ResultVar) : run (ended E rs ⟨.ret, fr, σ⟩) = bindO (run (aResults E fr σ rs)) fun vs => some (vs, σ) := rfl
@[push_cast] theorem r_fz1 : run (freeze σ (.bool b)) = some (.bool b, σ) := rfl
@[push_cast] theorem r_fz2 : run (freeze σ (.int k n)) = some (.int k n, σ) := rfl
@[push_cast] theorem r_fz3 : run (freeze σ (.str s)) = some (.str s, σ) := rfl
@[push_cast] theorem r_fz4 : run (freeze σ (.sl f sz es)) = some (.sl false sz es, σ) := rfl
@[push_cast] theorem r_fz5 (cs : List AV) : run (freeze σ (.agg cs)) = bindO (run (freezeLs σ cs)) fun p => some (.agg p.1, p.2) := rfl
@[push_cast] theorem r_fz6 (id ver : Nat) : run (freeze σ (.rs id ver)) = run (objFrz σ id ver σ[id]?) := rfl
@[push_cast] theorem r_fz7 (id ver sz v : Nat) (es : List (List AV)) : run (objFrz σ id ver (some (.row sz v es))) = run (iteO (decide (v = ver)) (some (.sl false sz es, σ.set id (.frz sz v es))) none) := rfl
@[push_cast] theorem r_fz8 (id ver sz v : Nat) (es : List (List AV)) : run (objFrz σ id ver (some (.frz sz v es))) = run (iteO (decide (v = ver)) (some (.sl false sz es, σ)) none) := rfl
@[push_cast] theorem r_fz8a (id ver sz v : Nat) (es : List (List AV)) : run (objFrz σ id ver (some (.app sz v es))) = run (iteO (decide (v = ver)) (some (.sl false sz es, σ.set id (.frz sz v es))) none) := rfl
@[push_cast] theorem r_fz9 : run (freezeLs σ []) = some ([], σ) := rfl
@[push_cast] theorem r_fz10 (c : AV) (cs : List AV) : run (freezeLs σ (c :: cs)) = bindO (run (freezeL σ c)) fun p => bindO (freezeLs p.2 cs) fun q => some (p.1 :: q.1, q.2) := rfl
@[push_cast] theorem r_fz11 : run (freezes σ []) = some ([], σ) := rfl
@[push_cast] theorem r_fz12 (c : AV) (cs : List AV) : run (freezes σ (c :: cs)) = bindO (run (freeze σ c)) fun p => bindO (freezes p.2 cs) fun q => some (p.1 :: q.1, q.2) := rfl
@[push_cast] theorem r_fz13 (id ver : Nat) : run (freezeL σ (.rs id ver)) = run (objFrz σ id ver σ[id]?) := rfl
@[push_cast] theorem r_fz14 : run (freezeL σ (.bool b)) = some (.bool b, σ) := rfl
@[push_cast] theorem r_fz15 : run (freezeL σ (.int k n)) = some (.int k n, σ) := rfl
@[push_cast] theorem r_fz16 : run (freezeL σ (.str s)) = some (.str s, σ) := rfl
@[push_cast] theorem r_fz17 : run (freezeL σ (.sl f sz es)) = some (.sl false sz es, σ) := rfl
@[push_cast] theorem r_fz18 : run (freeze σ .nilp) = some (.nilp, σ) := rfl
@[push_cast] theorem r_fz19 : run (freezeL σ .nilp) = some (.nilp, σ) := rfl
@[push_cast] theorem r_fz20 (cs : List AV) : run (freeze σ (.cref cs)) = some (.cref cs, σ) := rfl
@[push_cast] theorem r_sv0 : run (sealVs σ []) = some ([], σ) := rfl
@[push_cast] theorem r_sv1 (c : AV) (cs : List AV) : run (sealVs σ (c :: cs)) = bindO (run (sealV σ c)) fun p => bindO (sealVs p.2 cs) fun q => some (p.1 :: q.1, q.2) := rfl
@[push_cast] theorem r_sl0 : run (sealLs σ []) = some ([], σ) := rfl
@[push_cast] theorem r_sls (c : AV) (cs : List AV) : run (sealLs σ (c :: cs)) = bindO (run (sealL σ c)) fun p => bindO (sealLs p.2 cs) fun q => some (p.1 :: q.1, q.2) := rfl
@[push_cast] theorem r_sv2 (f : Nat) (cap : List AV) : run (sealV σ (.fn f cap)) = bindO (run (sealLs σ cap)) fun p => some (.fn f p.1, p.2) := rfl
@[push_cast] theorem r_sv3 (b : Bool) : run (sealV σ (.bool b)) = some (.bool b, σ) := rfl
@[push_cast] theorem r_sv4 (k : IntKind) (n : Int) : run (sealV σ (.int k n)) = some (.int k n, σ) := rfl
@[push_cast] theorem r_sv5 (s : ByteArray) : run (sealV σ (.str s)) = some (.str s, σ) := rfl
@[push_cast] theorem r_sv6 (f : Bool) (sz : Nat) (es : List (List AV)) : run (sealV σ (.sl f sz es)) = some (.sl false sz es, σ) := rfl
@[push_cast] theorem r_sv7 (cs : List AV) : run (sealV σ (.agg cs)) = run (freeze σ (.agg cs)) := rfl
@[push_cast] theorem r_sv8 (id ver : Nat) : run (sealV σ (.rs id ver)) = run (freeze σ (.rs id ver)) := rfl
@[push_cast] theorem r_sv9 (cs : List AV) : run (sealV σ (.cref cs)) = some (.cref cs, σ) := rfl
@[push_cast] theorem r_sv10 : run (sealV σ .nilp) = some (.nilp, σ) := rfl
@[push_cast] theorem r_sl1' (id off : Nat) : run (sealL σ (.ptr id off)) = run (sealVar σ id off σ[id]?) := rfl
@[push_cast] theorem r_sl2' (id off : Nat) (cs : List AV) : run (sealVar σ id off (some (.var cs))) = run (iteO (decide (off = 0) && allDataL cs) (some (.cref cs, σ.set id .dead)) none) := rfl
theorem r_pure (fn : Func) (args : List AV) : aPure E fn H N args = bindO (run (bindO fn.body fun c => bindO (aev E H N 0 c (args ++ List.replicate (fn.ntmps - args.length) .top) []) (ended E fn.results.toList))) fun q => bindO (sealVs q.2 q.1) fun p => some (packed p.1) := rfl
end
end Go.Abs
