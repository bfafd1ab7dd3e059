import Derived.Test.YtecjmbaepioobaaGreatAbs12toAbs16
import Derived.OrdersIn
import Derived.LoopNIn
import Derived.RangeFuncOwn
set_option linter.unusedSimpArgs false
set_option linter.unusedVariables false
namespace Go.Abs
open Go.RowKit
variable {E : Env} {g : Ghost} {σ : Store} {w : World}
def CallOk (P : Program) (f : Nat) (args : List AV) (σ : Store) (v : AV) (σ' : Store) : Prop :=
 ∀ (g : Ghost) (w : World) (vs : List Value), Inv g σ w → Reps g args σ.length vs →
   Yields P (callFunc f vs.toArray) w fun val w' => ∃ g', Moved g g' σ σ' w' ∧ Rep g' v σ'.length val
structure EnvOk (E : Env) : Prop where
 ty : ∀ t i, E.ty t = some i → TyOk E.P t i
 eqt : ∀ t ss, E.eqt t = some ss → EqOk E.P t ss
 tab : ∀ f args σ v σ', E.tab f args σ = some (v, σ') → CallOk E.P f args σ v σ'
def Done (g : Ghost) (σ : Store) (v : AV) (σ' : Store) (val : Value) (w' : World) : Prop := ∃ g', Moved g g' σ σ' w' ∧ Rep g' v σ'.length val
theorem Moved.stay (hI : Inv g σ w) : Moved g g σ σ w := ⟨Ext.refl g _, hI, Nat.le_refl _⟩
theorem keepS_eq {x : Option AV} {v : AV} {σ' : Store} (h : keepS σ x = some (v, σ')) : x = some v ∧ σ' = σ := by
 obtain ⟨u, hu, h⟩ := bindO_eq h
 injection h with h
 injection h with h1 h2
 subst h1; exact ⟨hu, h2.symm⟩
theorem pair_inj {α β : Type} {a a' : α} {b b' : β} (h : some (a, b) = some (a', b')) : a = a' ∧ b = b' := by
 injection h with h; injection h with h1 h2; exact ⟨h1, h2⟩
theorem guest_moved {T T' : List (List AV × Bool)} {rest : Store} (hI : Inv g (.guest T :: rest) w) {F F' : Nat → Prop} {C' : Nat → Nat → Option Value} {w' : World}
   (hF : ∀ id' o' b, (AObj.guest T :: rest)[id']? = some o' → owned g id' o' = some b → F b) (hfF : ∀ k, g.fixed k → F k) (hFF : ∀ k, F k → F' k)
   (hrel : g.w0.G.rel T' F' C' w') (up : ∀ b o v, g.C b o = some v → C' b o = some v) (low : ∀ b o v, C' b o = some v → F b → g.C b o = some v) (same : ∀ k, F k → w'.heap[k]? = w.heap[k]?) (hb : Below 0 w w') :
   Moved g { g with C := C' } (.guest T :: rest) (.guest T' :: rest) w' := by
 have he : Ext g { g with C := C' } (AObj.guest T :: rest).length := ⟨up, fun _ _ => rfl, fun _ _ _ _ h => h, Tie.refl _ _⟩
 have hother : ∀ (id : Nat) (o : AObj), (AObj.guest T' :: rest)[id]? = some o → (∃ T, o = AObj.guest T) ∨ (AObj.guest T :: rest)[id]? = some o := fun id o ho => by
   cases id with
   | zero => simp at ho; exact .inl ⟨_, ho.symm⟩
   | succ id => exact .inr (by simpa using ho)
 have hown : ∀ (id : Nat) (o : AObj) (b : Nat), (AObj.guest T' :: rest)[id]? = some o → owned g id o = some b → (AObj.guest T :: rest)[id]? = some o := fun id o b ho hb => by
   rcases hother id o ho with ⟨T, rfl⟩ | h
   · simp [owned] at hb
   · exact h
 refine ⟨he, ?_, by simp⟩
 refine ⟨g.w0.G.comm T' F' C' w' hrel, fun id o ho => ?_, fun id o b ho hb' => ?_, fun id id' o o' b ho ho' hb1 hb2 => ?_, fun k hk => ?_, hI.str.trans hb, fun k hk => ?_, fun b o v hv hf => ?_, fun id T2 hj => ?_⟩
 · rcases hother id o ho with ⟨T, rfl⟩ | h
   · trivial
   · have := ObjOk.keep (w' := w') he.up (List.getElem?_eq_some_iff.1 h).1 (Nat.le_refl _) rfl (fun b hb => same b (hF id o b h hb)) (hI.objs id o h)
     simpa using this
 · have ho2 := hown id o b ho hb'
   obtain ⟨h1, h2, h3⟩ := hI.sep id o b ho2 hb'
   refine ⟨h1, Nat.lt_of_lt_of_le h2 hb.size, fun off => ?_⟩
   cases hc : C' b off with
   | none => exact hc
   | some v => have := low b off v hc (hF id o b ho2 hb'); rw [h3 off] at this; cases this
 · exact hI.inj id id' o o' b (hown id o b ho hb1) (hown id' o' b ho' hb2) hb1 hb2
 · exact (same k (hfF k hk)).trans (hI.below k hk)
 · exact Nat.lt_of_lt_of_le (hI.base k hk) hb.size
 · exact hI.low b o v (low b o v hv (hfF b hf)) hf
 · cases id with
   | zero =>
     simp at hj
     subst hj
     exact ⟨rfl, (hI.guest 0 T rfl).2.1, F', hrel, fun id' o' b ho' hb' => hFF b (hF id' o' b (hown id' o' b ho' hb') hb'), fun k hk => hFF k (hfF k hk)⟩
   | succ id => exact absurd (hI.guest (id + 1) T2 (by simpa using hj)).1 (by omega)
theorem yield_sound {Q : Program} {args : List AV} {v : AV} {σ' : Store} {vals : List Value} (hI : Inv g σ w) (hP : g.w0.G.P = Q) (h : aYield E Q args σ = some (v, σ')) (hr : Reps g args σ.length vals) :
   Yields E.P (Instr.yield g.w0.G.l vals.toArray) w (Done g σ v σ') := by
 unfold aYield at h
 split at h
 · rename_i q T rest
   obtain ⟨hc, h⟩ := iteO_none h
   obtain ⟨h1, h2⟩ := pair_inj h
   subst h1; subst h2
   simp only [Bool.and_eq_true] at hc
   obtain ⟨hPE, rfl⟩ := decYes_of hc.1
   obtain ⟨_, hy, F, hrel, hF, hfF⟩ := hI.guest 0 _ rfl
   obtain ⟨x, b⟩ := q
   have hy := hy x b T F g.C w vals hrel ⟨g, rfl, datas_rep hr hc.2⟩
   obtain ⟨fn, tmps, asg, body, hrun, _⟩ := hy 0 none
   rw [hP, hPE] at hrun hy
   refine .inr (.inr (.inr ⟨_, fn, tmps, asg, body, w, hrun, fun n r => ?_⟩))
   obtain ⟨fn', tmps', asg', body', hrun', hR⟩ := hy n r
   rw [hrun] at hrun'
   injection hrun' with e1 e2
   injection e1 with e3 e4 e5 e6 e7
   subst e4; subst e5; subst e6; subst e7
   refine hR.mono ?_
   rintro e w' ⟨rfl, C', h1, h2, h3, h4, h5⟩
   exact ⟨_, rfl, _, guest_moved hI hF hfF (fun _ h => h) h1 h2 h3 h4 h5, rfl⟩
 · cases h
theorem y_stay {P : Program} {s : Sem Value} {x : Option AV} {v : AV} {σ' : Store} (hI : Inv g σ w) (h : keepS σ x = some (v, σ')) (hs : ∀ v, x = some v → ∃ u, s.run P w = .ok u w ∧ Rep g v σ.length u) :
   Yields P (do pure (.value (← s))) w (Done g σ v σ') := by
 obtain ⟨hx, rfl⟩ := keepS_eq h
 obtain ⟨u, hu, hr⟩ := hs v hx
 exact Yields.value hu ⟨g, Moved.stay hI, hr⟩
theorem evalPs_toList (fr : Fr) (a : Act) (ps : Array (Nat × Operand)) (n : Nat) (h : FrOk g n fr a.tmps) : PartsRep g n (evalPs fr ps.toList) (ps.map fun (i, x) => (i, a.eval x)).toList := by
 have := evalPs_rep h ps.toList
 simpa using this
theorem rs_rep {id ver n : Nat} {u : Value} (h1 : id < n) (h2 : g.hd id ver = some u) (h3 : u.oneCell' = true) : Rep g (.rs id ver) n u := ⟨h1, h2, h3⟩
theorem append_cases (hty : ∀ t i, E.ty t = some i → TyOk E.P t i) (hI : Inv g σ w) {t e : Nat} {ei : TInfo} (ty : TypeId) (hd1 : E.P.underlying t = some (.slice e)) (hei : E.ty e = some ei)
   {xs : List (List AV)} {f : Bool} {s v : AV} {σ' : Store} {sv xv : Value} (h : aAppendV σ ei.size ei.bytes xs s = some (v, σ')) (hs : Rep g s σ.length sv) (hx : Rep g (.sl f ei.size xs) σ.length xv) :
   Yields E.P (do pure (.value (← Builtin.append_ #[t, t] ty #[sv, xv]))) w (Done g σ v σ') := by
 cases s with
 | rs id ver =>
   obtain ⟨p, hc, h⟩ := bindO_eq h
   obtain ⟨hcond, h⟩ := iteO_none h
   injection h with h
   simp only [Bool.and_eq_true, decide_eq_true_eq] at hcond
   obtain ⟨hid, hh, _⟩ := hs
   rcases curA_eq hc with hc | hc
   · rw [hc] at h
     obtain ⟨h1, h2⟩ := Prod.mk.inj h
     subst h1; subst h2
     obtain ⟨g', w', u, hrun, hm, hh', h1⟩ := append_rs hty hI ty hd1 hei hc hcond.1 hcond.2 hh hx
     exact Yields.value hrun ⟨g', hm, rs_rep (by simpa using hid) hh' h1⟩
   · rw [hc] at h
     cases xs with
     | nil =>
       obtain ⟨h1, h2⟩ := Prod.mk.inj h
       subst h1; subst h2
       obtain ⟨hrun, h1⟩ := append_app0 hty hI ty hd1 hei hc hh hx
       exact Yields.value hrun ⟨g, Moved.stay hI, rs_rep hid hh h1⟩
     | cons x0 xs0 =>
       obtain ⟨h1, h2⟩ := Prod.mk.inj h
       subst h1; subst h2
       obtain ⟨g', w', u, hrun, hm, hh', h1⟩ := append_app hty hI ty hd1 hei hc hcond.1 hcond.2 (by simp) hh hx
       exact Yields.value hrun ⟨g', hm, rs_rep (by simpa using hid) hh' h1⟩
 | sl full sz es =>
   cases full with
   | false => simp [aAppendV] at h
   | true =>
     obtain ⟨hcond, h⟩ := iteO_none h
     simp only [Bool.and_eq_true, Bool.or_eq_true, decide_eq_true_eq, List.isEmpty_iff] at hcond
     cases xs with
     | nil =>
       obtain ⟨h1, h2⟩ := pair_inj h
       subst h1; subst h2
       obtain ⟨hrun, hr⟩ := append_none hty hI ty hd1 hei hcond.1 hs hx
       exact Yields.value hrun ⟨g, Moved.stay hI, hr⟩
     | cons x0 xs0 =>
       obtain ⟨h1, h2⟩ := pair_inj h
       subst h1; subst h2
       obtain ⟨g', w', u, hrun, hm, hh', h1⟩ := append_full hty hI ty hd1 hei hcond.1 hcond.2 (by simp) hs hx
       exact Yields.value hrun ⟨g', hm, rs_rep (by simp) hh' h1⟩
 | _ => simp [aAppendV] at h
theorem builtin_sound (hE : EnvOk E) (hI : Inv g σ w) {b : Builtin} {ts : Array TypeId} {ty : Nat} {consts : Array Bool} {args : List AV} {vs : List Value} {v : AV} {σ' : Store} (h : aBuiltin E σ ts b args = some (v, σ')) (hr : Reps g args σ.length vs) :
   Yields E.P (builtin b ts ty consts vs.toArray) w (Done g σ v σ') := by
 cases b <;> (try (simp [aBuiltin] at h; done))
 case len =>
   cases args with
   | nil => simp [aBuiltin] at h
   | cons x l =>
     cases l with
     | cons _ _ => simp [aBuiltin] at h
     | nil =>
       obtain ⟨xv, _, rfl, hx, rfl⟩ := hr
       exact y_stay hI h fun v hv => len_sound hE.ty hI hv hx
 case append =>
   cases args with
   | nil => simp [aBuiltin] at h
   | cons s l =>
     cases l with
     | nil => simp [aBuiltin] at h
     | cons x l =>
       cases l with
       | cons _ _ => simp [aBuiltin] at h
       | nil =>
         obtain ⟨sv, _, rfl, hs, xv, _, rfl, hx, rfl⟩ := hr
         obtain ⟨t, ht, h2⟩ := bindO_eq h
         clear h
         rename aAppend E σ t s x = some (v, σ') => h
         have hts : ts = #[t, t] := by
           cases hl : ts.toList with
           | nil => rw [hl] at ht; simp [sameTypes] at ht
           | cons a l =>
             cases l with
             | nil => rw [hl] at ht; simp [sameTypes] at ht
             | cons b l =>
               cases l with
               | cons _ _ => rw [hl] at ht; simp [sameTypes] at ht
               | nil =>
                 rw [hl] at ht
                 obtain ⟨hab, ht2⟩ := iteO_none ht
                 injection ht2 with ht2
                 have hab := of_decide_eq_true hab
                 rw [← hab, ht2] at hl
                 exact Array.ext' hl
         subst hts
         obtain ⟨ti, hti, h⟩ := bindO_eq h
         obtain ⟨e, he, h⟩ := bindO_eq h
         obtain ⟨ei, hei, h⟩ := bindO_eq h
         obtain ⟨q, hq, h⟩ := bindO_eq h
         obtain ⟨hsz, h⟩ := iteO_none h
         have hsz := of_decide_eq_true hsz
         obtain ⟨d, hd1, hd2⟩ := (hE.ty t ti hti).und
         rw [tkSlice_eq he] at hd2
         have := desc_slice hd2
         subst this
         cases x with
         | sl f sx xs =>
          simp [slOf] at hq
          subst hq
          simp only at hsz
          rename aAppendV σ ei.size ei.bytes xs s = some (v, σ') => h9
          subst hsz
          exact append_cases hE.ty hI ty hd1 hei h9 hs hx
         | _ => simp [slOf] at hq
 case min =>
   cases args with
   | nil => simp [aBuiltin] at h
   | cons x l =>
     cases l with
     | nil => simp [aBuiltin] at h
     | cons y l =>
       cases l with
       | cons _ _ => simp [aBuiltin] at h
       | nil =>
         obtain ⟨xv, _, rfl, hx, yv, _, rfl, hy, rfl⟩ := hr
         exact y_stay hI h fun v hv => minmax_sound (mx := false) hv hx hy
 case max =>
   cases args with
   | nil => simp [aBuiltin] at h
   | cons x l =>
     cases l with
     | nil => simp [aBuiltin] at h
     | cons y l =>
       cases l with
       | cons _ _ => simp [aBuiltin] at h
       | nil =>
         obtain ⟨xv, _, rfl, hx, yv, _, rfl, hy, rfl⟩ := hr
         exact y_stay hI h fun v hv => minmax_sound (mx := true) hv hx hy
theorem evalOs_map {n : Nat} {fr : Fr} {a : Act} (h : FrOk g n fr a.tmps) (xs : Array Operand) : Reps g (evalOs fr xs.toList) n (xs.map a.eval).toList := by
 rw [Array.toList_map]; exact evalOs_rep h xs.toList
theorem op_sound (hE : EnvOk E) (hI : Inv g σ w) {fr : Fr} {a : Act} (hfr : FrOk g σ.length fr a.tmps) (o : Oper) {v : AV} {σ' : Store} (h : aOp E fr σ o.type o.op = some (v, σ')) :
   Yields E.P (execOp a.eval o) w (Done g σ v σ') := by
 obtain ⟨dst, op, ty, pos, after, guard⟩ := o
 simp only at h
 unfold execOp
 cases op <;> (try (simp [aOp] at h; done)) <;> simp only
 case move x =>
   obtain ⟨h1, h2⟩ := pair_inj h
   subst h1; subst h2
   exact .inl ⟨_, w, rfl, g, Moved.stay hI, evalO_rep hfr x⟩
 case assign x =>
   simp only [aOp, aAssign] at h
   cases hn : isNilSlice x with
   | false =>
     rw [hn] at h
     obtain ⟨h1, h2⟩ := pair_inj h
     subst h1; subst h2
     exact .inl ⟨_, w, rfl, g, Moved.stay hI, evalO_rep hfr x⟩
   | true =>
     rw [hn] at h
     obtain ⟨ti, _, h⟩ := bindO_eq h
     obtain ⟨e, _, h⟩ := bindO_eq h
     obtain ⟨ei, _, h⟩ := bindO_eq h
     obtain ⟨h1, h2⟩ := pair_inj h
     subst h1; subst h2
     have hx : a.eval x = .slice none 0 0 := by
       unfold isNilSlice at hn
       split at hn
       · rfl
       · cases hn
     obtain ⟨g', hm, hh⟩ := nilRow_sound hI ei.size
     exact .inl ⟨_, w, by rw [hx]; rfl, g', hm, rs_rep (by simp) hh rfl⟩
 case pick c x y =>
   obtain ⟨cb, hc, h⟩ := bindO_eq h
   have hcv : a.eval c = .bool cb := by
     have := evalO_rep hfr c
     cases hcc : evalO fr c <;> rw [hcc] at hc this <;> simp [asB] at hc
     subst hc; exact this
   rcases iteO_eq h with ⟨hb, h⟩ | ⟨hb, h⟩ <;> obtain ⟨h1, h2⟩ := pair_inj h <;> subst h1 <;> subst h2
   · exact .inl ⟨_, w, by simp [hcv, hb, asBool], g, Moved.stay hI, evalO_rep hfr x⟩
   · exact .inl ⟨_, w, by simp [hcv, hb, asBool], g, Moved.stay hI, evalO_rep hfr y⟩
 case alloc t =>
   obtain ⟨ti, ht, h⟩ := bindO_eq h
   obtain ⟨h1, h2⟩ := pair_inj h
   subst h1; subst h2
   obtain ⟨tinf, z, hinfo, hts, htb, htz, hzr, _⟩ := (hE.ty t ti ht).info
   have hI' := hI.newVar ti.zero z.cells t (hzr g σ.length)
   refine Yields.value (v := .pointer (some ⟨w.heap.size, 0, none⟩)) (w' := w.alloc (.cells z.cells t)) ?_ ⟨_, ⟨g.push_ext _ _ _ (Nat.le_refl _), hI', by simp⟩, by simp, by simp [Ghost.push]⟩
   simp [Instr.alloc, zeroValue, typeInfo, hinfo, htz, newVar, newRow]
 case box t x =>
   obtain ⟨us, hu, h⟩ := bindO_eq h
   obtain ⟨h1, h2⟩ := pair_inj h
   subst h1; subst h2
   obtain ⟨hur, _⟩ := cellsOf_rep hu (evalO_rep hfr x)
   have hI' := hI.newVar us (a.eval x).cells t hur
   refine Yields.value (v := .pointer (some ⟨w.heap.size, 0, none⟩)) (w' := w.alloc (.cells (a.eval x).cells t)) ?_ ⟨_, ⟨g.push_ext _ _ _ (Nat.le_refl _), hI', by simp⟩, by simp, by simp [Ghost.push]⟩
   simp [Instr.box, newVar, newRow]
 case build t ps =>
   obtain ⟨ti, ht, h⟩ := bindO_eq h
   obtain ⟨fs, hfs, h⟩ := bindO_eq h
   obtain ⟨cs, hc, h⟩ := bindO_eq h
   obtain ⟨h1, h2⟩ := pair_inj h
   subst h1; subst h2
   obtain ⟨u, hu, hr⟩ := build_sound (w := w) hE.ty ht hfs hc (evalPs_toList fr a ps _ hfr)
   exact Yields.value hu ⟨g, Moved.stay hI, hr⟩
 case buildSlice t n ps =>
   obtain ⟨ti, ht, h⟩ := bindO_eq h
   obtain ⟨e, he, h⟩ := bindO_eq h
   obtain ⟨ei, hei, h⟩ := bindO_eq h
   obtain ⟨hn, h⟩ := iteO_none h
   obtain ⟨q, hq, h⟩ := bindO_eq h
   obtain ⟨h1, h2⟩ := pair_inj h
   subst h1; subst h2
   obtain ⟨d, hd1, hd2⟩ := (hE.ty t ti ht).und
   rw [tkSlice_eq he] at hd2
   have := desc_slice hd2
   subst this
   obtain ⟨g', w', u, hrun, hm, hr⟩ := buildSlice_sound hE.ty hI hd1 hei (of_decide_eq_true hn) hq (evalPs_toList fr a ps _ hfr)
   exact Yields.value hrun ⟨g', hm, Rep.mono (Ext.refl g' 0) _ 0 _ _ (Nat.le_refl _) (Nat.zero_le _) hr⟩
 case load t x => exact y_stay hI h fun v hv => load_sound hE.ty hI hv (evalO_rep hfr x)
 case store t x y =>
   obtain ⟨σ1, hs, h⟩ := bindO_eq h
   obtain ⟨h1, h2⟩ := pair_inj h
   subst h1; subst h2
   obtain ⟨g', w', hrun, hm⟩ := store_sound hE.ty hI hs (evalO_rep hfr x) (evalO_rep hfr y)
   exact .inr (.inl ⟨w', by rw [Sem.run_bind, hrun]; rfl, g', hm, trivial⟩)
 case nilCheck x =>
   obtain ⟨hx, rfl⟩ := keepS_eq h
   have hr := evalO_rep hfr x
   cases hxx : evalO fr x <;> rw [hxx] at hx hr <;> simp [aNilCheck] at hx <;> subst hx
   · have hr0 := hr
     obtain ⟨_, hv⟩ := hr
     exact .inl ⟨_, w, by rw [hv]; rfl, g, Moved.stay hI, by rw [← hv]; exact hr0⟩
   · have hr0 := hr
     obtain ⟨b, o, hv, _⟩ := hr
     exact .inl ⟨_, w, by rw [hv]; rfl, g, Moved.stay hI, by rw [← hv]; exact hr0⟩
   · have hr0 := hr
     obtain ⟨_, b, o, l, c, _, hv⟩ := hr
     exact .inl ⟨_, w, by rw [hv]; rfl, g, Moved.stay hI, by rw [← hv]; exact hr0⟩
   · have hr0 := hr
     obtain ⟨vs, hv, _⟩ := hr
     exact .inl ⟨_, w, by rw [hv]; rfl, g, Moved.stay hI, by rw [← hv]; exact hr0⟩
   · have hv : a.eval x = _ := hr
     exact .inl ⟨_, w, by rw [hv]; rfl, g, Moved.stay hI, ⟨[], rfl, rfl⟩⟩
 case binOp op t x y u => exact y_stay hI h fun v hv => bin_sound hE.ty hE.eqt hv (evalO_rep hfr x) (evalO_rep hfr y)
 case unOp op t x => exact y_stay hI h fun v hv => un_sound hv (evalO_rep hfr x)
 case convert s d x => exact y_stay hI h fun v hv => conv_sound hE.ty hv (evalO_rep hfr x)
 case makeFunc f first cap =>
   obtain ⟨k, hk, h⟩ := bindO_eq h
   obtain ⟨h1, h2⟩ := pair_inj h
   subst h1; subst h2
   unfold fnFirst at hk
   split at hk
   · rename_i f0
     injection hk with hk
     subst hk
     exact .inl ⟨.func (.func f0) #[] (cap.map a.eval), w, by simp [Instr.makeFunc], g, Moved.stay hI, (cap.map a.eval).toList, by rw [Array.toArray_toList], evalOs_map hfr cap⟩
   · cases hk
 case makeMap t r =>
   cases r with
   | some _ => simp [aOp] at h
   | none =>
     obtain ⟨ti, _, h⟩ := bindO_eq h
     obtain ⟨ke, _, h⟩ := bindO_eq h
     obtain ⟨ki, _, h⟩ := bindO_eq h
     obtain ⟨h1, h2⟩ := pair_inj h
     subst h1; subst h2
     exact Yields.value (v := .map (some w.heap.size)) (w' := w.alloc (.map #[] 0)) rfl ⟨_, hI.newMap ki.k, by simp, by simp [Ghost.push]⟩
 case makeSlice t l c =>
   obtain ⟨ti, ht, h⟩ := bindO_eq h
   obtain ⟨e, he, h⟩ := bindO_eq h
   obtain ⟨ei, hei, h⟩ := bindO_eq h
   obtain ⟨li, hl, h⟩ := bindO_eq h
   obtain ⟨ci, hc, h⟩ := bindO_eq h
   obtain ⟨hn, h⟩ := iteO_none h
   obtain ⟨h1, h2⟩ := pair_inj h
   subst h1; subst h2
   obtain ⟨d, hd1, hd2⟩ := (hE.ty t ti ht).und
   rw [tkSlice_eq he] at hd2
   have := desc_slice hd2
   subst this
   obtain ⟨kl, hkl⟩ := asI_rep hl (evalO_rep hfr l)
   obtain ⟨kc, hkc⟩ := asI_rep hc (evalO_rep hfr c)
   have hn := of_decide_eq_true hn
   obtain ⟨g', w', u, hrun, hm, hh, h1⟩ := makeSlice_sound (kl := kl) (kc := kc) hE.ty hI hd1 hei ⟨hn.1, hn.2.1, hn.2.2.1⟩ hn.2.2.2
   rw [hkl, hkc]
   exact Yields.value hrun ⟨g', hm, rs_rep (by simp) hh h1⟩
 case slice t x lo hi mx =>
   obtain ⟨l, hl, h⟩ := bindO_eq h
   obtain ⟨hh, hhi, h⟩ := bindO_eq h
   obtain ⟨m, hm, h⟩ := bindO_eq h
   obtain ⟨g', u, hrun, hmv, hr⟩ := slice_sound hE.ty hI h (evalO_rep hfr x) (optI_rep hfr hl) (optI_rep hfr hhi) (optI_rep hfr hm)
   exact Yields.value hrun ⟨g', hmv, hr⟩
 case fieldAddr s x f => exact y_stay hI h fun v hv => fieldAddr_sound hE.ty hv (evalO_rep hfr x)
 case field t x f => exact y_stay hI h fun v hv => field_sound hE.ty hv (evalO_rep hfr x)
 case indexAddr t x i => exact y_stay hI h fun v hv => indexAddr_sound hE.ty hI hv (evalO_rep hfr x) (evalO_rep hfr i)
 case index t x i => exact y_stay hI h fun v hv => index_sound hE.ty hv (evalO_rep hfr x) (evalO_rep hfr i)
 case lookup t m k ok => exact y_stay hI h fun v hv => lookup_sound hE.ty hI hv (evalO_rep hfr m) (evalO_rep hfr k)
 case mapUpdate t m k x =>
   obtain ⟨σ1, hs, h⟩ := bindO_eq h
   obtain ⟨h1, h2⟩ := pair_inj h
   subst h1; subst h2
   obtain ⟨g', w', hrun, hm⟩ := mapUpdate_sound hE.ty hI hs (evalO_rep hfr m) (evalO_rep hfr k) (evalO_rep hfr x)
   exact .inr (.inl ⟨w', by rw [Sem.run_bind, hrun]; rfl, g', hm, trivial⟩)
 case extract x i =>
   obtain ⟨vs, hv, h⟩ := bindO_eq h
   obtain ⟨u, hu, h⟩ := bindO_eq h
   obtain ⟨h1, h2⟩ := pair_inj h
   subst h1; subst h2
   have hr := evalO_rep hfr x
   cases hxx : evalO fr x <;> rw [hxx] at hv hr <;> simp [tupleOf] at hv
   subst hv
   obtain ⟨ws, hw, hr⟩ := hr
   obtain ⟨val, h1, h2⟩ := Reps.get hr hu
   exact Yields.value (v := val) (w' := w) (by rw [hw]; simp [Instr.extract, h1]) ⟨g, Moved.stay hI, h2⟩
 case call c =>
   obtain ⟨callee, args, ts⟩ := c
   have hargs := evalOs_map hfr args
   cases callee with
   | builtin b =>
     have := builtin_sound (ty := ty) (consts := args.map fun | .const _ => true | _ => false) hE hI h hargs
     rw [Array.toArray_toList] at this
     exact this
   | value f =>
     have hf := evalO_rep hfr f
     have h : aCallV E σ (evalOs fr args.toList) (evalO fr f) = some (v, σ') := h
     cases hff : evalO fr f <;> rw [hff] at h hf <;> simp only [aCallV] at h <;> try (cases h; done)
     case fn k cap =>
       obtain ⟨cs, hcs, hcr⟩ := hf
       have := hE.tab _ _ _ _ _ h g w _ hI (Reps.append hargs hcr)
       refine (show Yields E.P _ w _ from ?_)
       have he : (do let d ← resolve a.eval { callee := .value f, args, argTypes := ts } ty; invoke d.target d.args : Sem Next) = callFunc k (args.map a.eval ++ cs.toArray) := by
         simp [resolve, hcs, Deferred.ofValue, invoke]
       rw [he]
       have h2 : ((args.map a.eval).toList ++ cs).toArray = args.map a.eval ++ cs.toArray := by apply Array.ext'; simp
       rw [h2] at this
       exact this
     case fnc k =>
       have hcs : a.eval f = .func (.func k) #[] #[] := hf
       have := hE.tab _ _ _ _ _ h g w _ hI hargs
       refine (show Yields E.P _ w _ from ?_)
       have he : (do let d ← resolve a.eval { callee := .value f, args, argTypes := ts } ty; invoke d.target d.args : Sem Next) = callFunc k (args.map a.eval) := by
         simp [resolve, hcs, Deferred.ofValue, invoke]
       rw [he]
       have h2 : (args.map a.eval).toList.toArray = args.map a.eval := Array.toArray_toList ..
       rw [h2] at this
       exact this
     case yfn Q =>
       obtain ⟨_, hP, hval⟩ := hf
       have he : (do let d ← resolve a.eval { callee := .value f, args, argTypes := ts } ty; invoke d.target d.args : Sem Next) = Instr.yield g.w0.G.l (args.map a.eval) := by
         simp [resolve, hval, Deferred.ofValue, invoke]
       refine (show Yields E.P _ w _ from ?_)
       rw [he]
       have h2 : (args.map a.eval).toList.toArray = args.map a.eval := Array.toArray_toList ..
       rw [← h2]
       exact yield_sound hI hP h hargs
   | invoke _ _ => simp [aOp, aCallee] at h
end Go.Abs
namespace Go.Abs
open Go.RowKit
variable {E : Env} {g : Ghost} {σ : Store} {w : World}
noncomputable def stepI (E : Env) (ops : Array Oper) (i : Nat) (s : Fr × Store) : Option (Fr × Store) :=
 match ops[i]? with
 | none => some s
 | some o => bindO (wants ops s.1 o.guard) fun b => iteO b (bindO (aOp E s.1 s.2 o.type o.op) fun p => some (setT s.1 o.dst p.1, p.2)) (some (setT s.1 o.dst (.tuple []), s.2))
noncomputable def runI (E : Env) (ops : Array Oper) : List Nat → Fr × Store → Option (Fr × Store)
 | [], s => some s
 | i :: L, s => bindO (stepI E ops i s) (runI E ops L)
theorem aOps_runI (ops : Array Oper) : ∀ (os : List Oper) (k : Nat) (fr : Fr) (σ : Store) (r : ARes), (∀ j, os[j]? = ops[k + j]?) → aOps E ops os fr σ = some r →
   r.e = .normal ∧ runI E ops (List.range' k os.length) (fr, σ) = some (r.fr, r.σ)
 | [], k, fr, σ, r, _, h => by
   simp [aOps] at h
   subst h
   exact ⟨rfl, rfl⟩
 | o :: os, k, fr, σ, r, hj, h => by
   have ho : ops[k]? = some o := by have := hj 0; simpa using this.symm
   have hj' : ∀ j, os[j]? = ops[k + 1 + j]? := fun j => by have := hj (j + 1); rw [show k + 1 + j = k + (j + 1) by omega, ← this]; simp
   obtain ⟨b, hb, h1⟩ := bindO_eq h
   rw [List.length_cons, List.range'_succ]
   simp only [runI, stepI, ho, hb, bindO_some]
   rcases iteO_eq h1 with ⟨rfl, h2⟩ | ⟨rfl, h2⟩
   · obtain ⟨p, hp, h3⟩ := bindO_eq h2
     obtain ⟨h4, h5⟩ := aOps_runI ops os (k + 1) _ _ r hj' h3
     exact ⟨h4, by simp only [iteO_true, hp, bindO_some]; exact h5⟩
   · obtain ⟨h4, h5⟩ := aOps_runI ops os (k + 1) _ _ r hj' h2
     exact ⟨h4, by simp only [iteO_false, bindO_some]; exact h5⟩
theorem asB_eq {x : AV} {b : Bool} (h : asB x = some b) : x = .bool b := by
 cases x <;> simp [asB] at h; rw [h]
theorem wants_sound {ops : Array Oper} {fr : Fr} {tmps : Array Value} {n : Nat} (hfr : FrOk g n fr tmps) {o : Oper} {b : Bool} (h : wants ops fr o.guard = some b) : Region.wanted o (yielded ops tmps) = b := by
 unfold Region.wanted
 cases hg : o.guard with
 | none => rw [hg] at h; injection h
 | some q =>
   rw [hg] at h
   obtain ⟨t, ht, h1⟩ := bindO_eq h
   have hr := hfr.getD t
   have hy : ∀ v, tmps.getD t undef = v → yielded ops tmps q.1 = match v with | .bool b => some b | _ => none := fun v hv => by
     simp only [yielded, ht, Option.bind_some]
     rw [Array.getD_eq_getD_getElem?] at hv
     cases hx : tmps[t]? with
     | none => rw [hx] at hv; subst hv; rfl
     | some u => rw [hx] at hv; simp at hv; subst hv; cases u <;> rfl
   cases hc : fr.getD t .top with
   | bool b' =>
     rw [hc] at h1 hr
     injection h1 with h1
     have hr : tmps.getD t undef = .bool b' := hr
     simp only [hy _ hr, ← h1]
     cases b' <;> cases q.2 <;> rfl
   | tuple cs =>
     rw [hc] at h1 hr
     cases cs with
     | nil =>
       injection h1 with h1
       obtain ⟨vs, e, h2⟩ := hr
       simp only [hy _ e, ← h1]
       rfl
     | cons c cs => cases h1
   | _ => rw [hc] at h1; cases h1
theorem not_defer {fr : Fr} {o : Oper} {p : AV × Store} (h : aOp E fr σ o.type o.op = some p) : ∀ c, o.op ≠ .defer c := fun c hc => by rw [hc] at h; simp [aOp] at h
theorem put_getD (a : Act) {d : Option Tmp} (v : Value) {t : Nat} (h : d ≠ some t) : (a.put d v).tmps.getD t undef = a.tmps.getD t undef := by
 cases d with
 | none => rfl
 | some d =>
   have : d ≠ t := fun e => h (by rw [e])
   simp only [Act.put, Array.getD_eq_getD_getElem?, Array.getElem?_setIfInBounds_ne this]
theorem step_wp2 (hE : EnvOk E) (hI : Inv g σ w) {ops : Array Oper} {i n : Nat} {r : Option Nat} {fr fr' : Fr} {σ' : Store} {a : Act} {K : Act → World → Prop} {Q : Exit → Act → World → Prop} (hfr : FrOk g σ.length fr a.tmps)
   (h : stepI E ops i (fr, σ) = some (fr', σ')) (hK : ∀ g' a' w', Moved g g' σ σ' w' → FrOk g' σ'.length fr' a'.tmps → a'.defers = a.defers → (∀ t, (∀ o, ops[i]? = some o → o.dst ≠ some t) → a'.tmps.getD t undef = a.tmps.getD t undef) → K a' w') : wpOpIn (wideR r) n E.P ops Q i K a w := by
 unfold wpOpIn
 unfold stepI at h
 cases ho : ops[i]? with
 | none =>
   rw [ho] at h
   obtain ⟨h1, h2⟩ := pair_inj h
   subst h1; subst h2
   exact hK g a w (Moved.stay hI) hfr rfl fun _ _ => rfl
 | some o =>
   rw [ho] at h
   obtain ⟨b, hb, h1⟩ := bindO_eq h
   have hw := wants_sound hfr hb
   simp only [hw]
   rcases iteO_eq h1 with ⟨rfl, h2⟩ | ⟨rfl, h2⟩
   · obtain ⟨p, hp, h3⟩ := bindO_eq h2
     obtain ⟨h4, h5⟩ := pair_inj h3
     subst h4; subst h5
     simp only [if_true]
     refine wpIn_of_yields (not_defer hp) ((op_sound hE hI hfr o (v := p.1) (σ' := p.2) hp).mono ?_)
     rintro v w' ⟨g', hm, hr⟩
     refine hK g' _ w' hm ((hfr.mono hm.ext hm.len).put o.dst hr) ?_ fun t ht => put_getD a v (ht o ho)
     cases o.dst <;> rfl
   · obtain ⟨h4, h5⟩ := pair_inj h2
     subst h4; subst h5
     simp only [Bool.false_eq_true, if_false]
     refine ⟨fun _ _ => trivial, hK g _ w (Moved.stay hI) (hfr.put o.dst (c := .tuple []) ⟨[], rfl, rfl⟩) ?_ fun t ht => put_getD a _ (ht o ho)⟩
     cases o.dst <;> rfl
theorem step_wp (hE : EnvOk E) (hI : Inv g σ w) {ops : Array Oper} {i n : Nat} {r : Option Nat} {fr fr' : Fr} {σ' : Store} {a : Act} {K : Act → World → Prop} {Q : Exit → Act → World → Prop} (hfr : FrOk g σ.length fr a.tmps)
   (h : stepI E ops i (fr, σ) = some (fr', σ')) (hK : ∀ g' a' w', Moved g g' σ σ' w' → FrOk g' σ'.length fr' a'.tmps → a'.defers = a.defers → K a' w') : wpOpIn (wideR r) n E.P ops Q i K a w :=
 step_wp2 hE hI hfr h fun g' a' w' h1 h2 h3 _ => hK g' a' w' h1 h2 h3
theorem Moved.trans {g g' g'' : Ghost} {σ σ' σ'' : Store} {w' w'' : World} (h : Moved g g' σ σ' w') (h' : Moved g' g'' σ' σ'' w'') : Moved g g'' σ σ'' w'' :=
 ⟨h.ext.trans h'.ext h.len, h'.inv, Nat.le_trans h.len h'.len⟩
theorem ops_wp (hE : EnvOk E) {ops : Array Oper} {n : Nat} {r : Option Nat} {Q : Exit → Act → World → Prop} : ∀ (L : List Nat) (g : Ghost) (σ σ' : Store) (w : World) (fr fr' : Fr) (a : Act), Inv g σ w → FrOk g σ.length fr a.tmps →
   runI E ops L (fr, σ) = some (fr', σ') → (∀ g' a' w', Moved g g' σ σ' w' → FrOk g' σ'.length fr' a'.tmps → a'.defers = a.defers → Q .normal a' w') → wpOpsIn (wideR r) n E.P ops Q L a w
 | [], g, σ, σ', w, fr, fr', a, hI, hfr, h, hQ => by
   obtain ⟨h1, h2⟩ := pair_inj h
   subst h1; subst h2
   exact hQ g a w (Moved.stay hI) hfr rfl
 | i :: L, g, σ, σ', w, fr, fr', a, hI, hfr, h, hQ => by
   obtain ⟨s, hs, h1⟩ := bindO_eq h
   rw [wpOpsIn_cons]
   refine step_wp (fr' := s.1) (σ' := s.2) hE hI hfr hs fun g' a' w' hm hf hd => ?_
   exact ops_wp hE L g' s.2 σ' w' s.1 fr' a' hm.inv hf h1 fun g'' a'' w'' hm' hf' hd' => hQ g'' a'' w'' (hm.trans hm') hf' (hd'.trans hd)
theorem region_wp (hE : EnvOk E) (hI : Inv g σ w) {id : Nat} {ops : Array Oper} {n : Nat} {r : Option Nat} {Q : Exit → Act → World → Prop} {fr : Fr} {a : Act} {res : ARes} (hfr : FrOk g σ.length fr a.tmps)
   (h : aOps E ops ops.toList fr σ = some res) (hQ : ∀ g' a' w', Moved g g' σ res.σ w' → FrOk g' res.σ.length res.fr a'.tmps → a'.defers = a.defers → Q .normal a' w') : (Code.region id ops false).wpIn (wideR r) n E.P Q a w := by
 refine wpIn_region ?_
 have hr := (aOps_runI (E := E) ops ops.toList 0 fr σ res (fun j => by simp) h).2
 rw [Array.length_toList, ← List.range_eq_range'] at hr
 exact ops_wp hE _ g σ res.σ w fr res.fr a hI hfr hr hQ
end Go.Abs
namespace Go.Abs
open Go.RowKit
variable {E : Env} {g : Ghost} {σ : Store} {w : World}
theorem keepObjs_get (n0 n : Nat) (σ : Store) : ∀ (os : Store) (id j : Nat), (keepObjs n0 n σ id os)[j]? = (os[j]?).map (AObj.keep n0 n σ (id + j))
 | [], id, j => by simp [keepObjs]
 | o :: os, id, 0 => by simp [keepObjs]
 | o :: os, id, j + 1 => by
   simp only [keepObjs, List.getElem?_cons_succ]
   rw [keepObjs_get n0 n σ os (id + 1) j, show id + 1 + j = id + (j + 1) by omega]
theorem keepObjs_length (n0 n : Nat) (σ : Store) : ∀ (os : Store) (id : Nat), (keepObjs n0 n σ id os).length = os.length
 | [], _ => rfl
 | _ :: os, id => by simp [keepObjs, keepObjs_length n0 n σ os (id + 1)]
theorem keepSt_length (n0 n : Nat) (σ : Store) (h : n ≤ σ.length) : (keepSt n0 n σ).length = n := by
 simp [keepSt, keepObjs_length]; omega
theorem keepSt_get (n0 n : Nat) (σ : Store) (j : Nat) {o : AObj} (h : (keepSt n0 n σ)[j]? = some o) : j < n ∧ ∃ o', σ[j]? = some o' ∧ o = o'.keep n0 n σ j := by
 simp only [keepSt, keepObjs_get, Nat.zero_add] at h
 obtain ⟨o', h1, h2⟩ := Option.map_eq_some_iff.1 h
 rw [List.getElem?_take] at h1
 split at h1
 · exact ⟨by assumption, o', h1, h2.symm⟩
 · cases h1
def preHd (g : Ghost) (id : Nat) : Nat → Option Value
 | 0 => none
 | k + 1 => g.hd id k
def keepHd (g : Ghost) (id ver : Nat) : Option AObj → Option Value
 | some (.row _ v _) => if ver = 0 then g.hd id v else none
 | some (.app _ v _) => if ver = 0 then preHd g id v else if ver = 1 then g.hd id v else none
 | _ => none
def Ghost.keep (g : Ghost) (n0 : Nat) (σ : Store) : Ghost :=
 { g with hd := fun id ver => if id < n0 then g.hd id ver else keepHd g id ver σ[id]? }
theorem Ghost.keep_ext (g : Ghost) (n0 : Nat) (σ : Store) : Ext g (g.keep n0 σ) n0 :=
 ⟨fun _ _ _ h => h, fun _ _ => rfl, fun id hid ver v h => by simp only [Ghost.keep]; rw [if_pos hid]; exact h, Tie.refl _ _⟩
theorem keepL_rep {n0 n : Nat} {c : AV} {v : Value} (h : Rep g c σ.length v) : Rep (g.keep n0 σ) (c.keepL n0 n σ) n v := by
 have up : ∀ {c : AV}, Rep g c 0 v → Rep (g.keep n0 σ) c n v := fun h => Rep.mono (g.keep_ext n0 σ) _ 0 n v (Nat.zero_le _) (Nat.zero_le _) h
 cases c with
 | ptr id off =>
   simp only [AV.keepL]
   split
   · rename_i hd
     exact ⟨of_decide_eq_true hd, h.2⟩
   · trivial
 | map id =>
   simp only [AV.keepL]
   split
   · rename_i hd
     exact ⟨of_decide_eq_true hd, h.2⟩
   · trivial
 | rs id ver =>
   simp only [AV.keepL]
   split
   · rename_i hd
     have hd := of_decide_eq_true hd
     obtain ⟨_, h2, h3⟩ := h
     split
     · rename_i h0
       have h0 := of_decide_eq_true h0
       exact ⟨hd, by simp only [Ghost.keep]; rw [if_pos h0]; exact h2, h3⟩
     · rename_i h0
       have h0 := of_decide_eq_false h0
       cases ho : σ[id]? with
       | none => trivial
       | some o =>
         cases o with
         | row sz v' es =>
           simp only [rowVer]
           split
           · rename_i hv
             simp only [Bool.and_eq_true, decide_eq_true_eq] at hv
             refine ⟨hd, ?_, h3⟩
             simp only [Ghost.keep]
             rw [if_neg h0, ho]
             simp only [keepHd, if_true]
             rw [hv.2]; exact h2
           · trivial
         | app sz v' es =>
           simp only [rowVer]
           split
           · rename_i hv
             simp only [Bool.and_eq_true, decide_eq_true_eq] at hv
             refine ⟨hd, ?_, h3⟩
             simp only [Ghost.keep]
             rw [if_neg h0, ho]
             simp only [keepHd, if_true]
             rw [if_neg (by omega), hv.2]; exact h2
           · trivial
         | _ => trivial
   · trivial
 | bool _ => exact h
 | int _ _ => exact h
 | str _ => exact h
 | sl _ _ _ => exact up h
 | cref _ => exact up h
 | nilfn => exact h
 | fnc f => exact h
 | nilp => exact h
 | nilmap => exact h
 | nilif => exact h
 | yfn P =>
   simp only [AV.keepL]
   split
   · rename_i hd
     exact ⟨of_decide_eq_true hd, h.2⟩
   · trivial
 | _ => trivial
theorem keepLs_rep {n0 n : Nat} : ∀ {cs : List AV} {vs : List Value}, Reps g cs σ.length vs → Reps (g.keep n0 σ) (cs.map (AV.keepL n0 n σ)) n vs
 | [], _, h => h
 | _ :: _, _, ⟨v, vs', e, h1, h2⟩ => ⟨v, vs', e, keepL_rep h1, keepLs_rep h2⟩
theorem keep_rep {n0 n : Nat} {c : AV} {v : Value} (h : Rep g c σ.length v) : Rep (g.keep n0 σ) (c.keep n0 n σ) n v := by
 cases c with
 | agg cs => obtain ⟨vs, e, hr⟩ := h; exact ⟨vs, e, keepLs_rep hr⟩
 | tuple cs => obtain ⟨vs, e, hr⟩ := h; exact ⟨vs, e, keepLs_rep hr⟩
 | fn f cs => obtain ⟨vs, e, hr⟩ := h; exact ⟨vs, e, keepLs_rep hr⟩
 | _ => exact keepL_rep h
theorem keepFr0_get (n0 n : Nat) (σ : Store) (ks : List Nat) : ∀ (fr : Fr) (i j : Nat), (keepFr0 n0 n σ ks i fr)[j]? = (fr[j]?).map fun v => match ks.contains (i + j) with | true => v.keep n0 n σ | false => .top
 | [], _, _ => by simp [keepFr0]
 | v :: fr, i, 0 => by simp only [keepFr0, List.getElem?_cons_zero, Option.map_some, Nat.add_zero]; rfl
 | v :: fr, i, j + 1 => by
   simp only [keepFr0, List.getElem?_cons_succ]
   rw [keepFr0_get n0 n σ ks fr (i + 1) j, show i + 1 + j = i + (j + 1) by omega]
theorem keepFr0_length (n0 n : Nat) (σ : Store) (ks : List Nat) : ∀ (fr : Fr) (i : Nat), (keepFr0 n0 n σ ks i fr).length = fr.length
 | [], _ => rfl
 | _ :: fr, i => by simp [keepFr0, keepFr0_length n0 n σ ks fr (i + 1)]
theorem keepFr0_ok {n0 n : Nat} {ks : List Nat} {fr : Fr} {tmps : Array Value} (h : FrOk g σ.length fr tmps) : FrOk (g.keep n0 σ) n (keepFr0 n0 n σ ks 0 fr) tmps := by
 refine ⟨by rw [keepFr0_length]; exact h.size, fun i c hi => ?_⟩
 rw [keepFr0_get] at hi
 obtain ⟨v, hv, hc⟩ := Option.map_eq_some_iff.1 hi
 split at hc
 · subst hc; exact keep_rep (h.get i v hv)
 · subst hc; trivial
theorem looseL_rep {n : Nat} {c : AV} {v : Value} (h : Rep g c n v) : Rep g c.looseL n v := by
 cases c with
 | sl f sz es => obtain ⟨a, cap, e, h3, _, h4⟩ := h; exact ⟨a, cap, e, h3, by simp, h4⟩
 | _ => exact h
theorem looseLs_rep {n : Nat} : ∀ {cs : List AV} {vs : List Value}, Reps g cs n vs → Reps g (looseLs cs) n vs
 | [], _, h => h
 | _ :: _, _, ⟨v, vs', e, h1, h2⟩ => ⟨v, vs', e, looseL_rep h1, looseLs_rep h2⟩
theorem loose_rep {n : Nat} {c : AV} {v : Value} (h : Rep g c n v) : Rep g c.loose n v := by
 cases c with
 | sl f sz es => exact looseL_rep h
 | agg cs => obtain ⟨vs, e, hr⟩ := h; exact ⟨vs, e, looseLs_rep hr⟩
 | _ => exact h
theorem looseFr_ok {n : Nat} {tmps : Array Value} : ∀ (ks : List Nat) {fr : Fr}, FrOk g n fr tmps → FrOk g n (looseFr ks fr) tmps
 | [], _, h => h
 | k :: ks, fr, h => by
   unfold looseFr
   split
   · refine looseFr_ok ks ⟨by rw [List.length_set]; exact h.size, fun i c hi => ?_⟩
     rw [List.getElem?_set] at hi
     split at hi
     · rename_i hk
       subst hk
       split at hi
       · injection hi with hi; subst hi; exact loose_rep (h.getD _)
       · cases hi
     · exact h.get i c hi
   · exact looseFr_ok ks h
theorem keepFr_ok {n0 n : Nat} {ks : List Nat} {fr : Fr} {tmps : Array Value} (h : FrOk g σ.length fr tmps) : FrOk (g.keep n0 σ) n (keepFr n0 n σ ks 0 fr) tmps := looseFr_ok ks (keepFr0_ok h)
theorem dropFr_get (ks : List Nat) : ∀ (fr : Fr) (i j : Nat), (dropFr ks i fr)[j]? = (fr[j]?).map fun v => match ks.contains (i + j) with | true => v | false => .top
 | [], _, _ => by simp [dropFr]
 | v :: fr, i, 0 => by simp only [dropFr, List.getElem?_cons_zero, Option.map_some, Nat.add_zero]; rfl
 | v :: fr, i, j + 1 => by
   simp only [dropFr, List.getElem?_cons_succ]
   rw [dropFr_get ks fr (i + 1) j, show i + 1 + j = i + (j + 1) by omega]
theorem dropFr_length (ks : List Nat) : ∀ (fr : Fr) (i : Nat), (dropFr ks i fr).length = fr.length
 | [], _ => rfl
 | _ :: fr, i => by simp [dropFr, dropFr_length ks fr (i + 1)]
theorem dropFr_ok {n : Nat} {ks : List Nat} {fr : Fr} {tmps : Array Value} (h : FrOk g n fr tmps) : FrOk g n (dropFr ks 0 fr) tmps := by
 refine ⟨by rw [dropFr_length]; exact h.size, fun i c hi => ?_⟩
 rw [dropFr_get] at hi
 obtain ⟨v, hv, hc⟩ := Option.map_eq_some_iff.1 hi
 split at hc
 · subst hc; exact h.get i v hv
 · subst hc; trivial
theorem foreign_keep0 {n0 id ver : Nat} (h : id < n0) : foreign (g.keep n0 σ) id ver = foreign g id ver := by
 cases ver <;> simp only [foreign, Ghost.keep, h, if_true]
theorem foreign_keep1 {n0 id ver sz : Nat} {es : List (List AV)} (h : ¬ id < n0) (ho : σ[id]? = some (.app sz ver es)) : foreign (g.keep n0 σ) id 1 = foreign g id ver := by
 cases ver <;> simp only [foreign, Ghost.keep, keepHd, preHd, h, if_false, if_true, ho]
theorem owned_keep' {n0 n : Nat} {id : Nat} {o : AObj} {b : Nat} (ho : σ[id]? = some o) (h : owned (g.keep n0 σ) id (o.keep n0 n σ id) = some b) : owned g id o = some b := by
 cases o with
 | row sz ver es =>
   simp only [AObj.keep] at h
   by_cases h0 : id < n0
   · simp only [h0, decide_true, owned, rowBlock, Ghost.keep, if_true] at h ⊢
     exact h
   · simp only [h0, decide_false, owned, rowBlock, Ghost.keep, keepHd, if_false, if_true, ho] at h ⊢
     exact h
 | app sz ver es =>
   simp only [AObj.keep] at h
   by_cases h0 : id < n0
   · simp only [h0, decide_true, owned, rowBlock, foreign_keep0 h0] at h ⊢
     simp only [Ghost.keep, h0, if_true] at h
     exact h
   · simp only [h0, decide_false, owned, rowBlock, foreign_keep1 h0 ho] at h ⊢
     simp only [Ghost.keep, keepHd, h0, if_false, if_true, ho] at h
     simpa using h
 | var cs => exact h
 | map kk m => exact h
 | frz _ _ _ => simp [AObj.keep, owned] at h
 | dead => simp [AObj.keep, owned] at h
 | guest _ => exact h
theorem keep_inv {n0 n : Nat} (hI : Inv g σ w) (hn : n ≤ σ.length) : Inv (g.keep n0 σ) (keepSt n0 n σ) w := by
 have he := g.keep_ext n0 σ
 refine ⟨hI.comm, fun id o ho => ?_, fun id o b ho hb => ?_, fun id id' o o' b ho ho' hb hb' => ?_, hI.below, hI.str, hI.base, hI.low, fun id T hg => ?_⟩
 · obtain ⟨hid, o', ho', rfl⟩ := keepSt_get n0 n σ id ho
   have hobj := hI.objs id o' ho'
   rw [keepSt_length n0 n σ hn]
   cases o' with
   | var cs =>
     obtain ⟨vs, t, h1, h2⟩ := hobj
     exact ⟨vs, t, h1, keepLs_rep h2⟩
   | row sz ver es =>
     obtain ⟨⟨a, cap, h1, h2⟩, h3, h4⟩ := hobj
     have hrow : RowOk (g.keep n0 σ) w sz es a cap := by
       rcases h2 with h2 | ⟨h5, h6, b, vs, t, h7, h8, h9, h10⟩
       · exact .inl h2
       · exact .inr ⟨h5, h6, b, vs, t, h7, h8, h9, Reps.mono he _ 0 0 _ (Nat.zero_le _) (Nat.le_refl _) h10⟩
     simp only [AObj.keep]
     by_cases h0 : id < n0
     · simp only [h0, decide_true]
       refine ⟨⟨a, cap, ?_, hrow⟩, h3, fun k hk => ?_⟩
       · simp only [Ghost.keep]; rw [if_pos h0]; exact h1
       · simp only [Ghost.keep]; rw [if_pos h0]; exact h4 k hk
     · simp only [h0, decide_false]
       refine ⟨⟨a, cap, ?_, hrow⟩, h3, fun k hk => ?_⟩
       · simp only [Ghost.keep]; rw [if_neg h0, ho']; simp only [keepHd, if_true]; exact h1
       · simp only [Ghost.keep]; rw [if_neg h0, ho']; simp only [keepHd]; rw [if_neg (by omega)]
   | app sz ver es =>
     obtain ⟨⟨a, cap, h1, h2⟩, h3, h4⟩ := hobj
     have hap : AppOk (g.keep n0 σ) w sz es a cap (foreign g id ver) := by
       cases hf : foreign g id ver with
       | true => rw [hf] at h2; exact FullOk.up he.up h2
       | false => rw [hf] at h2; exact RowOk.up he.up (fun _ _ _ => rfl) h2
     simp only [AObj.keep]
     by_cases h0 : id < n0
     · simp only [h0, decide_true]
       refine ⟨⟨a, cap, ?_, by rw [foreign_keep0 h0]; exact hap⟩, h3, fun k hk => ?_⟩
       · simp only [Ghost.keep]; rw [if_pos h0]; exact h1
       · simp only [Ghost.keep]; rw [if_pos h0]; exact h4 k hk
     · simp only [h0, decide_false]
       refine ⟨⟨a, cap, ?_, by rw [foreign_keep1 h0 ho']; exact hap⟩, h3, fun k hk => ?_⟩
       · simp only [Ghost.keep]; rw [if_neg h0, ho']; simp only [keepHd]; rw [if_neg (by omega), if_pos trivial]; exact h1
       · simp only [Ghost.keep]; rw [if_neg h0, ho']; simp only [keepHd]; rw [if_neg (by omega), if_neg (by omega)]
   | map kk m =>
     obtain ⟨ents, clock, h1, h2⟩ := hobj
     exact ⟨ents, clock, h1, MapOk.mono he h2⟩
   | frz _ _ _ => trivial
   | dead => trivial
   | guest _ => trivial
 · obtain ⟨hid, o', ho', rfl⟩ := keepSt_get n0 n σ id ho
   exact hI.sep id o' b ho' (owned_keep' ho' hb)
 · obtain ⟨_, p, hp, rfl⟩ := keepSt_get n0 n σ id ho
   obtain ⟨_, p', hp', rfl⟩ := keepSt_get n0 n σ id' ho'
   exact hI.inj id id' p p' b hp hp' (owned_keep' hp hb) (owned_keep' hp' hb')
 · obtain ⟨_, p, hp, hpe⟩ := keepSt_get n0 n σ id hg
   have hpg : p = .guest T := by cases p <;> simp only [AObj.keep] at hpe <;> first | (injection hpe with hpe; rw [hpe]) | (split at hpe <;> cases hpe) | cases hpe
   subst hpg
   obtain ⟨h0, hy, F, hrel, hF, hfF⟩ := hI.guest id T hp
   refine ⟨h0, hy, F, hrel, fun id' o' b ho' hb' => ?_, hfF⟩
   obtain ⟨_, p', hp', rfl⟩ := keepSt_get n0 n σ id' ho'
   exact hF id' p' b hp' (owned_keep' hp' hb')
def exitOf : AExit → Exit
 | .normal => .normal
 | .exit id => .exit id
 | .ret => .ret
def mark (D : Nat) : Deferred := { target := .collected D, args := #[] }
def MarksOk (g g' : Ghost) (ds ds' : List Deferred) : Prop :=
 ∃ ms : List Nat, ds' = ms.map mark ++ ds ∧ ms.Nodup ∧ ∀ D ∈ ms, g'.fixed D ∧ ¬ g.fixed D ∧ g'.w0.w.heap[D]? = some (.deferred (some []))
theorem MarksOk.of_eq {g g' : Ghost} {ds ds' : List Deferred} (h : ds' = ds) : MarksOk g g' ds ds' := ⟨[], h, List.nodup_nil, fun _ h => by simp at h⟩
theorem MarksOk.trans {g g' g'' : Ghost} {ds ds' ds'' : List Deferred} (h : MarksOk g g' ds ds') (h' : MarksOk g' g'' ds' ds'') (t : Tie g.fixed g.w0 g'.fixed g'.w0) (t' : Tie g'.fixed g'.w0 g''.fixed g''.w0) : MarksOk g g'' ds ds'' := by
 obtain ⟨ms, rfl, h1, h2⟩ := h
 obtain ⟨ms', rfl, h3, h4⟩ := h'
 refine ⟨ms' ++ ms, by simp, List.nodup_append.2 ⟨h3, h1, fun a ha b hb e => ?_⟩, fun D hD => ?_⟩
 · subst e; exact (h4 a ha).2.1 (h2 a hb).1
 · rcases List.mem_append.1 hD with hD | hD
   · obtain ⟨h5, h6, h7⟩ := h4 D hD
     exact ⟨h5, fun hf => h6 (t.fix D hf), h7⟩
   · obtain ⟨h5, h6, h7⟩ := h2 D hD
     exact ⟨t'.fix D h5, h6, (t'.same D h5).trans h7⟩
structure Ends (E : Env) (len0 : Nat) (g : Ghost) (a : Act) (r : ARes) (g' : Ghost) (a' : Act) (w' : World) : Prop where
 ext : Ext g g' E.n0
 inv : Inv g' r.σ w'
 len : len0 ≤ r.σ.length
 fr : FrOk g' r.σ.length r.fr a'.tmps
 defers : MarksOk g g' a.defers a'.defers
 blk : ∀ id, id < len0 → g'.blk id = g.blk id
theorem Ends.trans {E : Env} {len0 len1 : Nat} {g g' g'' : Ghost} {a a' a'' : Act} {r r' : ARes} {w' w'' : World} (h : Ends E len0 g a r g' a' w') (h' : Ends E len1 g' a' r' g'' a'' w'') (hl : len0 ≤ len1) : Ends E len0 g a r' g'' a'' w'' :=
 ⟨h.ext.trans h'.ext (Nat.le_refl _), h'.inv, Nat.le_trans hl h'.len, h'.fr, h.defers.trans h'.defers h.ext.tie h'.ext.tie, fun id hid => (h'.blk id (Nat.lt_of_lt_of_le hid hl)).trans (h.blk id hid)⟩
def noRange : Code → Bool
 | .seq a b => noRange a && noRange b
 | .cond _ a b => noRange a && noRange b
 | .block _ b => noRange b
 | .loop b => noRange b
 | .rangeFunc _ _ _ _ => false
 | _ => true
def drawsOk (ok : Nat → Array Oper → Bool) : Code → Bool
 | .region id ops true => ok id ops
 | .seq a b => drawsOk ok a && drawsOk ok b
 | .cond _ a b => drawsOk ok a && drawsOk ok b
 | .block _ b => drawsOk ok b
 | .loop b => drawsOk ok b
 | .rangeFunc _ _ a b => drawsOk ok a && drawsOk ok b && noRange a && noRange b
 | _ => true
def Sound (E : Env) (n : Nat) (rr : Option Nat) (c : Code) (f : Fr → Store → Option ARes) : Prop :=
 ∀ (g : Ghost) (σ : Store) (w : World) (fr : Fr) (a : Act) (r : ARes) (Q : Exit → Act → World → Prop), Inv g σ w → E.n0 ≤ σ.length → FrOk g σ.length fr a.tmps → f fr σ = some r →
   (∀ g' a' w', Ends E σ.length g a r g' a' w' → Q (exitOf r.e) a' w') → c.wpIn (wideR rr) n E.P Q a w
theorem inv_rel {g : Ghost} {σ σ' : Store} {w : World} (hl : σ'.length = σ.length)
   (h : ∀ (id : Nat) (o' : AObj), σ'[id]? = some o' → σ[id]? = some o' ∨ ∃ cs cs', σ[id]? = some (.var cs) ∧ o' = .var cs' ∧ ∀ n vs, Reps g cs n vs → Reps g cs' n vs) (hI : Inv g σ w) : Inv g σ' w := by
 have hown : ∀ {id : Nat} {o' : AObj} {b : Nat}, σ'[id]? = some o' → owned g id o' = some b → ∃ o, σ[id]? = some o ∧ owned g id o = some b := fun {id o' b} ho hb => by
   rcases h id o' ho with h1 | ⟨cs, cs', h1, rfl, _⟩
   · exact ⟨o', h1, hb⟩
   · exact ⟨_, h1, hb⟩
 refine ⟨hI.comm, fun id o' ho => ?_, fun id o' b ho hb => ?_, fun id id' o o' b ho ho' hb hb' => ?_, hI.below, hI.str, hI.base, hI.low, fun id T hg => ?_⟩
 · rw [hl]
   rcases h id o' ho with h1 | ⟨cs, cs', h1, rfl, h2⟩
   · exact hI.objs id o' h1
   · obtain ⟨vs, t, h3, h4⟩ := hI.objs id _ h1
     exact ⟨vs, t, h3, h2 _ _ h4⟩
 · obtain ⟨o, h1, h2⟩ := hown ho hb
   exact hI.sep id o b h1 h2
 · obtain ⟨p, h1, h2⟩ := hown ho hb
   obtain ⟨p', h3, h4⟩ := hown ho' hb'
   exact hI.inj id id' p p' b h1 h3 h2 h4
 · rcases h id _ hg with h1 | ⟨_, _, _, h1, _⟩
   · obtain ⟨h2, h3, F, h4, h5, h6⟩ := hI.guest id T h1
     refine ⟨h2, h3, F, h4, fun id' o' b ho' hb' => ?_, h6⟩
     obtain ⟨p, h7, h8⟩ := hown ho' hb'
     exact h5 id' p b h7 h8
   · cases h1
theorem reps_loose {n : Nat} : ∀ {cs : List AV} {vs : List Value} (off : Nat), Reps g cs n vs → Reps g (cs.set off (cs.getD off .top).looseL) n vs
 | [], _, _, h => h
 | c :: cs, _, 0, ⟨v, vs', e, h1, h2⟩ => ⟨v, vs', e, looseL_rep h1, h2⟩
 | c :: cs, _, off + 1, ⟨v, vs', e, h1, h2⟩ => ⟨v, vs', e, h1, by simpa using reps_loose off h2⟩
theorem looseObj_inv {id off : Nat} (hI : Inv g σ w) : Inv g (looseObj id off σ σ[id]?) w ∧ (looseObj id off σ σ[id]?).length = σ.length := by
 cases ho : σ[id]? with
 | none => exact ⟨hI, rfl⟩
 | some o =>
   cases o with
   | var cs =>
     refine ⟨inv_rel (by simp [looseObj]) (fun j o' hj => ?_) hI, by simp [looseObj]⟩
     simp only [looseObj, List.getElem?_set] at hj
     split at hj
     · rename_i h1
       subst h1
       split at hj
       · injection hj with hj
         exact .inr ⟨cs, _, ho, hj.symm, fun n vs hr => reps_loose off hr⟩
       · cases hj
     · exact .inl hj
   | _ => exact ⟨hI, rfl⟩
theorem looseSt_inv : ∀ (ks : List Nat) {σ : Store}, Inv g σ w → Inv g (looseSt ks σ) w ∧ (looseSt ks σ).length = σ.length
 | [], _, h => ⟨h, rfl⟩
 | k :: ks, σ, h => by
   unfold looseSt
   split
   · obtain ⟨h1, h2⟩ := looseObj_inv (id := (k - 1000000) / 1000) (off := (k - 1000000) % 1000) h
     obtain ⟨h3, h4⟩ := looseSt_inv ks h1
     exact ⟨h3, h4.trans h2⟩
   · exact looseSt_inv ks h
theorem keepSl_inv {n0 n : Nat} {ks : List Nat} (hI : Inv g σ w) (hn : n ≤ σ.length) : Inv (g.keep n0 σ) (keepSl n0 n ks σ) w := (looseSt_inv ks (keep_inv hI hn)).1
theorem keepSl_length {n0 n : Nat} {ks : List Nat} (hI : Inv g σ w) (hn : n ≤ σ.length) : (keepSl n0 n ks σ).length = n := (looseSt_inv ks (keep_inv (n0 := n0) hI hn)).2.trans (keepSt_length n0 n σ hn)
theorem loop_rounds {n : Nat} {rr : Option Nat} {c : Code} {body : Fr → Store → Option ARes} (hb : Sound E n rr c body) (ks : List Nat) (m : Nat) (hm : E.n0 ≤ m) : ∀ (N : Nat) (g : Ghost) (σ : Store) (w : World) (fr : Fr) (a : Act) (r : ARes) (Q : Exit → Act → World → Prop),
   Inv g σ w → σ.length = m → FrOk g σ.length fr a.tmps → aLoop E.n0 body ks m N fr σ = some r → (∀ g' a' w', Ends E m g a r g' a' w' → Q (exitOf r.e) a' w') → Code.roundsIn (wideR rr) n E.P c Q N a w
 | 0, _, _, _, _, _, _, _, _, _, _, h, _ => by simp [aLoop] at h
 | N + 1, g, σ, w, fr, a, r, Q, hI, hl, hfr, h, hQ => by
   rw [roundsIn_succ]
   obtain ⟨r1, hr1, h1⟩ := bindO_eq h
   refine hb g σ w fr a r1 _ hI (by omega) hfr hr1 fun g' a' w' hE => ?_
   obtain ⟨e, fr1, σ1⟩ := r1
   cases e with
   | normal =>
     have h2 : aLoop E.n0 body ks m N (keepFr E.n0 m σ1 ks 0 fr1) (keepSl E.n0 m ks σ1) = some r := h1
     have hml : m ≤ σ1.length := hl ▸ hE.len
     have hlen := keepSl_length (n0 := E.n0) (ks := ks) hE.inv hml
     refine loop_rounds hb ks m hm N (g'.keep E.n0 σ1) _ w' _ a' r Q (keepSl_inv hE.inv hml) hlen ?_ h2 fun g'' a'' w'' hE' => ?_
     · rw [hlen]; exact keepFr_ok hE.fr
     · have hE1 : Ends E m g a ⟨.normal, keepFr E.n0 m σ1 ks 0 fr1, keepSl E.n0 m ks σ1⟩ (g'.keep E.n0 σ1) a' w' :=
         ⟨hE.ext.trans (g'.keep_ext E.n0 σ1) (Nat.le_refl _), keepSl_inv hE.inv hml, Nat.le_of_eq hlen.symm, by simp only [hlen]; exact keepFr_ok hE.fr, hE.defers, fun id hid => hE.blk id (by omega)⟩
       exact hQ g'' a'' w'' (hE1.trans hE' (Nat.le_refl _))
   | exit id =>
     simp only [thenO] at h1
     injection h1 with h1
     subst h1
     exact hQ g' a' w' (hl ▸ hE)
   | ret =>
     simp only [thenO] at h1
     injection h1 with h1
     subst h1
     exact hQ g' a' w' (hl ▸ hE)
end Go.Abs
namespace Go.Abs
open Go.RowKit
variable {E : Env} {g : Ghost} {σ : Store} {w : World}
section
variable {g g' : Ghost}
mutual
theorem Rep.data (hC : ∀ b o v, g.C b o = some v → g'.C b o = some v) : ∀ (x : AV) (n : Nat) (v : Value), Rep g x 0 v → Rep g' x n v
  | .bool _, _, _, hr => hr
  | .int _ _, _, _, hr => hr
  | .str _, _, _, hr => hr
  | .agg cs, n, _, ⟨vs, e, hr⟩ => ⟨vs, e, Reps.data hC cs n vs hr⟩
  | .tuple cs, n, _, ⟨vs, e, hr⟩ => ⟨vs, e, Reps.data hC cs n vs hr⟩
  | .sl _ sz es, _, _, ⟨a, cap, e, h1, h2, h3⟩ => ⟨a, cap, e, h1, h2, h3.imp id fun ⟨b, o, ea, hr⟩ => ⟨b, o, ea, RepE.data hC es sz b o hr⟩⟩
  | .top, _, _, _ => trivial
  | .ptr _ _, _, _, ⟨h1, _⟩ => absurd h1 (Nat.not_lt_zero _)
  | .cref cs, _, _, ⟨b, o, e, hr⟩ => ⟨b, o, e, RepC.data hC cs b o hr⟩
  | .rs _ _, _, _, ⟨h1, _⟩ => absurd h1 (Nat.not_lt_zero _)
  | .rptr _ _ _ _ _, _, _, ⟨h1, _⟩ => absurd h1 (Nat.not_lt_zero _)
  | .map _, _, _, ⟨h1, _⟩ => absurd h1 (Nat.not_lt_zero _)
  | .fn _ cap, n, _, ⟨vs, e, hr⟩ => ⟨vs, e, Reps.data hC cap n vs hr⟩
  | .nilfn, _, _, hr => hr
  | .fnc _, _, _, hr => hr
  | .nilp, _, _, hr => hr
  | .nilmap, _, _, hr => hr
  | .nilif, _, _, hr => hr
  | .yfn _, _, _, ⟨h1, _⟩ => absurd h1 (Nat.not_lt_zero _)
theorem Reps.data (hC : ∀ b o v, g.C b o = some v → g'.C b o = some v) : ∀ (cs : List AV) (n : Nat) (vs : List Value), Reps g cs 0 vs → Reps g' cs n vs
  | [], _, _, hr => hr
  | c :: cs, n, _, ⟨v, vs', e, h1, h2⟩ => ⟨v, vs', e, Rep.data hC c n v h1, Reps.data hC cs n vs' h2⟩
theorem RepC.data (hC : ∀ b o v, g.C b o = some v → g'.C b o = some v) : ∀ (cs : List AV) (b o : Nat), RepC g cs b o → RepC g' cs b o
  | [], _, _, _ => trivial
  | c :: cs, b, o, ⟨⟨v, e, h1⟩, h2⟩ => ⟨⟨v, hC b o v e, Rep.data hC c 0 v h1⟩, RepC.data hC cs b (o + 1) h2⟩
theorem RepE.data (hC : ∀ b o v, g.C b o = some v → g'.C b o = some v) : ∀ (es : List (List AV)) (sz b o : Nat), RepE g es sz b o → RepE g' es sz b o
  | [], _, _, _, _ => trivial
  | e :: es, sz, b, o, ⟨h1, h2, h3⟩ => ⟨RepC.data hC e b o h1, h2, RepE.data hC es sz b (o + sz) h3⟩
end
end
structure UpB (g g' : Ghost) (n : Nat) : Prop where
 C : ∀ b o v, g.C b o = some v → g'.C b o = some v
 blk : ∀ id, id < n → g'.blk id = g.blk id
 G : g'.w0.G = g.w0.G
theorem noRowL_rep {g' : Ghost} {n : Nat} (h : UpB g g' n) {c : AV} {v : Value} (hr : Rep g c n v) : Rep g' c.noRowL n v := by
 cases c with
 | ptr id off => exact ⟨hr.1, by rw [h.blk id hr.1]; exact hr.2⟩
 | map id => exact ⟨hr.1, by rw [h.blk id hr.1]; exact hr.2⟩
 | yfn P => exact ⟨hr.1, by rw [h.G]; exact hr.2⟩
 | sl f sz es => exact Rep.data h.C (.sl f sz es) n v (by simpa only [Rep] using hr)
 | cref cs => exact Rep.data h.C (.cref cs) n v (by simpa only [Rep] using hr)
 | bool _ => exact hr
 | int _ _ => exact hr
 | str _ => exact hr
 | nilfn => exact hr
 | fnc f => exact hr
 | nilp => exact hr
 | nilmap => exact hr
 | nilif => exact hr
 | _ => trivial
theorem noRowLs_rep {g' : Ghost} {n : Nat} (h : UpB g g' n) : ∀ {cs : List AV} {vs : List Value}, Reps g cs n vs → Reps g' (cs.map AV.noRowL) n vs
 | [], _, hr => hr
 | _ :: _, _, ⟨v, vs', e, h1, h2⟩ => ⟨v, vs', e, noRowL_rep h h1, noRowLs_rep h h2⟩
theorem noRow_rep {g' : Ghost} {n : Nat} (h : UpB g g' n) {c : AV} {v : Value} (hr : Rep g c n v) : Rep g' c.noRow n v := by
 cases c with
 | agg cs => obtain ⟨vs, e, h1⟩ := hr; exact ⟨vs, e, noRowLs_rep h h1⟩
 | tuple cs => obtain ⟨vs, e, h1⟩ := hr; exact ⟨vs, e, noRowLs_rep h h1⟩
 | fn f cs => obtain ⟨vs, e, h1⟩ := hr; exact ⟨vs, e, noRowLs_rep h h1⟩
 | _ => exact noRowL_rep h hr
theorem noRow_fr {g' : Ghost} {n : Nat} (h : UpB g g' n) {fr : Fr} {tmps : Array Value} (hf : FrOk g n fr tmps) : FrOk g' n (fr.map AV.noRow) tmps := by
 refine ⟨by simpa using hf.size, fun i c hi => ?_⟩
 rw [List.getElem?_map] at hi
 obtain ⟨v, hv, rfl⟩ := Option.map_eq_some_iff.1 hi
 exact noRow_rep h (hf.get i v hv)
theorem setPs_fr' {n : Nat} : ∀ (ps : List Nat) (xs : List AV) (vals : List Value) (fr : Fr) (tmps : Array Value), FrOk g n fr tmps → Reps g xs n vals →
   FrOk g n (setPs ps xs fr) ((ps.zip vals).foldl (fun t (p, v) => t.setIfInBounds p v) tmps)
 | [], xs, vals, fr, tmps, hf, _ => by simpa [setPs] using hf
 | p :: ps, [], vals, fr, tmps, hf, hr => by
   have hr : vals = [] := hr
   subst hr
   simpa [setPs] using hf
 | p :: ps, x :: xs, vals, fr, tmps, hf, ⟨v, vs, e, h1, h2⟩ => by
   subst e
   have hf' := FrOk.put (a := ⟨tmps, []⟩) hf (some p) h1
   exact setPs_fr' ps xs vs _ _ hf' h2
theorem setPs_fr {n : Nat} (ps : Array Nat) (xs : List AV) (vals : List Value) (fr : Fr) (tmps : Array Value) (h : FrOk g n fr tmps) (hr : Reps g xs n vals) :
   FrOk g n (setPs ps.toList xs fr) ((ps.zip vals.toArray).foldl (fun t (p, v) => t.setIfInBounds p v) tmps) := by
 rw [← Array.foldl_toList, Array.toList_zip]
 exact setPs_fr' _ _ _ _ _ h hr
def Fits : List (List AV) → List (List AV × Bool) → Prop
 | [], T => T = []
 | x :: xs, T => (∃ T', T = (x, true) :: T' ∧ Fits xs T') ∨ T = [(x, false)]
theorem contR_eq {q q' : AExit × Store} {f : Store → Option (AExit × Store)} (h : contR q f = some q') : (q.1 = .normal ∧ f q.2 = some q') ∨ (q.1 ≠ .normal ∧ q = q') := by
 obtain ⟨e, σ⟩ := q
 cases e with
 | normal => exact .inl ⟨rfl, h⟩
 | exit id => injection h with h; exact .inr ⟨(by intro h; cases h), h⟩
 | ret => injection h with h; exact .inr ⟨(by intro h; cases h), h⟩
theorem todo_normal {rd : List AV → Store → Option (AExit × Store)} {x : List AV} {xs : List (List AV)} {q : AExit × Store} (h : rd x σ = some q) (hq : q.1 = .normal) : todo rd (x :: xs) σ = (x, true) :: todo rd xs q.2 := by
 simp only [todo, h, hq]
theorem todo_stop {rd : List AV → Store → Option (AExit × Store)} {x : List AV} {xs : List (List AV)} {q : AExit × Store} (h : rd x σ = some q) (hq : q.1 ≠ .normal) : todo rd (x :: xs) σ = [(x, false)] := by
 simp only [todo, h]
 obtain ⟨e, σ'⟩ := q
 cases e with
 | normal => exact absurd rfl hq
 | exit id => rfl
 | ret => rfl
theorem todo_fits {rd : List AV → Store → Option (AExit × Store)} {q : AExit × Store} : ∀ (xs : List (List AV)) (σ : Store), aRange rd xs σ = some q → Fits xs (todo rd xs σ)
 | [], _, _ => rfl
 | x :: xs, σ, h => by
   obtain ⟨q1, h1, h2⟩ := bindO_eq h
   rcases contR_eq h2 with ⟨h3, h4⟩ | ⟨h3, h4⟩
   · exact .inl ⟨_, todo_normal h1 h3, todo_fits xs _ h4⟩
   · exact .inr (todo_stop h1 h3)
def SeqOk (P : Program) (v : AV) (xs : List (List AV)) : Prop :=
 ∀ (g : Ghost) (n : Nat) (val : Value), Rep g v n val → ∃ f caps, val = .func (.func f) #[] caps ∧ (∀ args w, (callFunc f args).run P w = .ok (.enter f args) w) ∧
   ∀ (G : Guest) T F C W, G.P = P → YieldRule G → Fits xs T → G.rel T F C W → (∀ b o v, g.C b o = some v → C b o = some v) →
     Calls P f (#[.func (.yield G.l) #[] #[]] ++ caps) W fun e W' => ∃ val, e = .returned val ∧ ∃ F' C', G.rel [] F' C' W'
def jumpOf : AExit → Option Code
 | .normal => none
 | .exit id => some (.exit id)
 | .ret => some .ret
section
variable (n0 m : Nat) (g : Ghost) (w : World) (rd : List AV → Store → Option (AExit × Store)) (q : AExit × Store) (rec : LoopState → Option Code → Loop)
structure WrapRel (T : List (List AV × Bool)) (F : Nat → Prop) (C : Nat → Nat → Option Value) (W : World) (g1 : Ghost) (σ1 : Store) : Prop where
 eC : g1.C = C
 w0 : g1.w0 = ⟨W, C, g.w0.G⟩
 fixed : g1.fixed = fun k => g.fixed k ∨ F k ∨ k = w.heap.size + 1 ∨ k = w.heap.size
 inv : Inv g1 σ1 W
 len : σ1.length = m
 new : ∀ b, F b → w.heap.size + 2 ≤ b ∧ b < W.heap.size
 up : ∀ b o v, g.C b o = some v → C b o = some v
 blk : ∀ id, id < m → g1.blk id = g.blk id
 hd : ∀ id, id < n0 → ∀ ver v, g.hd id ver = some v → g1.hd id ver = some v
 old : ∀ k, g.fixed k → W.heap[k]? = w.heap[k]?
 str : Below 0 w W
 low : ∀ b o v, C b o = some v → g.fixed b → g.C b o = some v
 D : W.heap[w.heap.size]? = some (.deferred (some []))
 st : (∃ xs1, aRange rd xs1 σ1 = some q ∧ T = todo rd xs1 σ1 ∧ W.heap[w.heap.size + 1]? = some (.loop (rec .ready none))) ∨
   (T = [] ∧ q.2 = σ1 ∧ ∃ c, jumpOf q.1 = some c ∧ W.heap[w.heap.size + 1]? = some (.loop (rec .done (some c))))
def wrapRel (T : List (List AV × Bool)) (F : Nat → Prop) (C : Nat → Nat → Option Value) (W : World) : Prop := ∃ g1 σ1, WrapRel n0 m g w rd q rec T F C W g1 σ1
end
end Go.Abs
namespace Go.Abs
open Go.RowKit
variable {E : Env} {g : Ghost} {σ : Store} {w : World}
section
variable {n0 m : Nat} {rd : List AV → Store → Option (AExit × Store)} {q : AExit × Store} {rec : LoopState → Option Code → Loop} {T : List (List AV × Bool)} {F : Nat → Prop} {C : Nat → Nat → Option Value} {W : World} {g1 : Ghost} {σ1 : Store}
theorem WrapRel.Llt (h : WrapRel n0 m g w rd q rec T F C W g1 σ1) : w.heap.size + 1 < W.heap.size := by
 rcases h.st with ⟨_, _, _, h1⟩ | ⟨_, _, _, _, h1⟩ <;> exact (Array.getElem?_eq_some_iff.1 h1).1
theorem wrap_comm (T : List (List AV × Bool)) (F : Nat → Prop) (C : Nat → Nat → Option Value) (W : World) (h : wrapRel n0 m g w rd q rec T F C W) (b o : Nat) (v : Value) (hv : C b o = some v) : W.cell? ⟨b, o, none⟩ = some v := by
 obtain ⟨g1, σ1, h⟩ := h
 exact h.inv.comm b o v (by rw [h.eC]; exact hv)
theorem wrap_step (hI : Inv g σ w) (T : List (List AV × Bool)) (F : Nat → Prop) (C C2 : Nat → Nat → Option Value) (A B : World) (h : wrapRel n0 m g w rd q rec T F C A) (up : ∀ b o v, C b o = some v → C2 b o = some v)
   (comm : ∀ b o v, C2 b o = some v → B.cell? ⟨b, o, none⟩ = some v) (low : ∀ b o v, C2 b o = some v → C b o = some v ∨ F b ∨ A.heap.size ≤ b) (same : ∀ k, k < A.heap.size → ¬ F k → B.heap[k]? = A.heap[k]?) (hb : Below 0 A B) :
   wrapRel n0 m g w rd q rec T (fun k => F k ∨ (A.heap.size ≤ k ∧ k < B.heap.size)) C2 B := by
 obtain ⟨g1, σ1, h⟩ := h
 have hL := h.Llt
 have hkeep : ∀ k, k < w.heap.size + 2 → B.heap[k]? = A.heap[k]? := fun k hk => same k (by omega) fun hf => by have := (h.new k hf).1; omega
 have hsz := h.str.size
 have hinv := h.inv.foreign (C2 := C2) (B := B) (fun k => g.fixed k ∨ (F k ∨ (A.heap.size ≤ k ∧ k < B.heap.size)) ∨ k = w.heap.size + 1 ∨ k = w.heap.size) (by rw [h.eC]; exact up) comm
   (fun b o v hv => by
     rw [h.eC, h.fixed]
     have hbl := World.block_lt_of_cell? B ⟨b, o, none⟩ (comm b o v hv)
     rcases low b o v hv with h1 | h1 | h1
     · exact .inl h1
     · exact .inr (.inl (.inr (.inl h1)))
     · exact .inr (.inr ⟨h1, hbl⟩))
   (fun k hk hnf => same k hk fun hf => hnf (by rw [h.fixed]; exact .inr (.inl hf))) hb
   (fun k hk => by
     rw [h.fixed]
     rcases hk with h1 | (h1 | h1) | h1 | h1
     · exact .inl (.inl h1)
     · exact .inl (.inr (.inl h1))
     · exact .inr h1.1
     · exact .inl (.inr (.inr (.inl h1)))
     · exact .inl (.inr (.inr (.inr h1))))
   (fun k hk => by
     have hs := hb.size
     rcases hk with h1 | (h1 | h1) | h1 | h1
     · have := hI.base k h1; omega
     · have := (h.new k h1).2; omega
     · exact h1.2
     · omega
     · omega)
 refine ⟨_, σ1, ⟨rfl, by rw [h.w0], rfl, hinv, h.len, fun b hf => ?_, fun b o v hv => up b o v (h.up b o v hv), h.blk, h.hd, fun k hk => ?_, h.str.trans hb, fun b o v hv hf => ?_, ?_, ?_⟩⟩
 · have hs := hb.size
   rcases hf with h1 | h1
   · have := h.new b h1; omega
   · omega
 · rw [hkeep k (by have := hI.base k hk; omega)]; exact h.old k hk
 · have hbl := hI.base b hf
   rcases low b o v hv with h1 | h1 | h1
   · exact h.low b o v h1 hf
   · have := (h.new b h1).1; omega
   · omega
 · rw [hkeep _ (by omega)]; exact h.D
 · rcases h.st with ⟨xs1, h1, h2, h3⟩ | ⟨h1, h2, c, h3, h4⟩
   · exact .inl ⟨xs1, h1, h2, by rw [hkeep _ (by omega)]; exact h3⟩
   · exact .inr ⟨h1, h2, c, h3, by rw [hkeep _ (by omega)]; exact h4⟩
end
def wrapG (n0 m : Nat) (g : Ghost) (w : World) (rd : List AV → Store → Option (AExit × Store)) (q : AExit × Store) (rec : LoopState → Option Code → Loop) (P : Program) (σ : Store) (hI : Inv g σ w) : Guest where
 l := w.heap.size + 1
 P := P
 rel := wrapRel n0 m g w rd q rec
 comm := wrap_comm
 lt := fun _ _ _ _ h k hk => by obtain ⟨g1, σ1, h⟩ := h; exact (h.new k hk).2
 step := wrap_step hI
theorem Inv.turn (hI : Inv g σ w) {L : Nat} {_o : Obj} {r : Loop} (hL : g.fixed L) (hr : w.heap[L]? = some (.loop r)) (o' : Loop) :
   Inv { g with w0 := ⟨w.putObj L (.loop o'), g.C, g.w0.G⟩ } σ (w.putObj L (.loop o')) := by
 have hno : ∀ b o v, g.C b o = some v → b ≠ L := fun b o v hv e => by
   have := hI.comm b o v hv
   subst e
   simp [World.cell?, hr] at this
 have hget : ∀ k, k ≠ L → (w.putObj L (.loop o')).heap[k]? = w.heap[k]? := fun k hk => World.putObj_heap_other hk
 refine hI.foreign (C2 := g.C) g.fixed (fun _ _ _ h => h) (fun b o v hv => ?_) (fun b o v hv => .inl hv) (fun k _ hk => hget k fun e => hk (e ▸ hL)) ⟨rfl, rfl, rfl, by simp, fun k hk => absurd hk (Nat.not_lt_zero _)⟩ (fun k hk => .inl hk)
   (fun k hk => by rw [World.putObj_size]; exact hI.base k hk)
 rw [← hI.comm b o v hv]
 exact World.cell?_of_block (w := w) (a := ⟨b, o, none⟩) (hget b (hno b o v hv))
end Go.Abs
namespace Go.Abs
open Go.RowKit
variable {E : Env} {g : Ghost} {σ : Store} {w : World}
theorem FrOk.up {g g' : Ghost} {n : Nat} {fr : Fr} {tmps : Array Value} (h : FrOk g n fr tmps) (hu : Up g g' n) : FrOk g' n fr tmps :=
 ⟨h.size, fun i c hi => Rep.up hu c n n _ (Nat.le_refl _) (Nat.le_refl _) (h.get i c hi)⟩
theorem putObj_below (W : World) (L : Nat) (o : Obj) : Below 0 W (W.putObj L o) := ⟨rfl, rfl, rfl, by simp, fun k hk => absurd hk (Nat.not_lt_zero _)⟩
section
variable {m : Nat} {rd : List AV → Store → Option (AExit × Store)} {q : AExit × Store} {rec : LoopState → Option Code → Loop} {T T' : List (List AV × Bool)} {F : Nat → Prop} {C : Nat → Nat → Option Value} {W W2 W3 : World} {g1 g2 g3 : Ghost} {σ1 : Store}
 {a1 a2 a3 : Act} {r1 r2 : ARes} {o2 : Loop}
theorem wrap_round (h : WrapRel E.n0 m g w rd q rec T F C W g1 σ1) (hI : Inv g σ w) (hE2 : Ends E σ1.length g1 a1 r1 g2 a2 W2) (hE3 : Ends E r1.σ.length { g2 with w0 := ⟨W2.putObj (w.heap.size + 1) (.loop o2), g2.C, g2.w0.G⟩ } a2 r2 g3 a3 W3) (o : Loop)
   (hL3 : ∃ r, W3.heap[w.heap.size + 1]? = some (.loop r)) (_hle : E.n0 ≤ m)
   (hst : (∃ xs1, aRange rd xs1 (keepSt E.n0 m r2.σ) = some q ∧ T' = todo rd xs1 (keepSt E.n0 m r2.σ) ∧ o = rec .ready none) ∨ (T' = [] ∧ q.2 = keepSt E.n0 m r2.σ ∧ ∃ c, jumpOf q.1 = some c ∧ o = rec .done (some c))) :
   wrapRel E.n0 m g w rd q rec T' F g3.C (W3.putObj (w.heap.size + 1) (.loop o)) ∧ (∀ b o v, C b o = some v → g3.C b o = some v) ∧ (∀ b o v, g3.C b o = some v → F b → C b o = some v) ∧
     (∀ k, F k → (W3.putObj (w.heap.size + 1) (.loop o)).heap[k]? = W.heap[k]?) ∧ Below 0 W (W3.putObj (w.heap.size + 1) (.loop o)) := by
 have t12 := hE2.ext.tie
 have t23 := hE3.ext.tie
 have hfx : ∀ k, g1.fixed k → g3.fixed k := fun k hk => t23.fix k (t12.fix k hk)
 have hsame3 : ∀ k, g1.fixed k → k ≠ w.heap.size + 1 → W3.heap[k]? = W.heap[k]? := fun k hk hne => by
   have h2 := t12.fix k hk
   rw [hE3.inv.below k (hfx k hk), t23.same k h2]
   show (W2.putObj (w.heap.size + 1) (.loop o2)).heap[k]? = _
   rw [World.putObj_heap_other hne, hE2.inv.below k h2, t12.same k hk, h.w0]
 have hsame : ∀ k, g1.fixed k → k ≠ w.heap.size + 1 → (W3.putObj (w.heap.size + 1) (.loop o)).heap[k]? = W.heap[k]? := fun k hk hne => (World.putObj_heap_other hne).trans (hsame3 k hk hne)
 have hb : Below 0 W (W3.putObj (w.heap.size + 1) (.loop o)) := by
   have e1 := t12.str.trans hE2.inv.str
   rw [h.w0] at e1
   exact (((e1.trans (putObj_below _ _ _)).trans t23.str).trans hE3.inv.str).trans (putObj_below _ _ _)
 have hup : ∀ b o v, C b o = some v → g3.C b o = some v := fun b o v hv => hE3.ext.C b o v (hE2.ext.C b o v (by rw [h.eC]; exact hv))
 have hlow : ∀ b o v, g3.C b o = some v → g1.fixed b → C b o = some v := fun b o v hv hf => by
   have e1 := t23.low b o v (hE3.inv.low b o v hv (hfx b hf)) (t12.fix b hf)
   have e2 := t12.low b o v (hE2.inv.low b o v e1 (t12.fix b hf)) hf
   rw [h.w0] at e2
   exact e2
 have hF1 : ∀ k, F k → g1.fixed k := fun k hk => by rw [h.fixed]; exact .inr (.inl hk)
 have hg1 : ∀ k, g.fixed k → g1.fixed k := fun k hk => by rw [h.fixed]; exact .inl hk
 have hFne : ∀ k, F k → k ≠ w.heap.size + 1 := fun k hk e => by have := (h.new k hk).1; omega
 have hgne : ∀ k, g.fixed k → k ≠ w.heap.size + 1 := fun k hk e => by have := hI.base k hk; omega
 have hLf : g1.fixed (w.heap.size + 1) := by rw [h.fixed]; exact .inr (.inr (.inl rfl))
 have hDf : g1.fixed w.heap.size := by rw [h.fixed]; exact .inr (.inr (.inr rfl))
 obtain ⟨rL, hrL⟩ := hL3
 have hml : m ≤ r2.σ.length := by have := hE2.len; have := hE3.len; have := h.len; omega
 have hlen := keepSt_length E.n0 m r2.σ hml
 have hG : g3.w0.G = g.w0.G := by rw [t23.G]; show g2.w0.G = _; rw [t12.G, h.w0]
 have hno : ∀ b o v, g3.C b o = some v → b ≠ w.heap.size + 1 := fun b o v hv e => by
   have := hE3.inv.comm b o v hv
   subst e
   simp [World.cell?, hrL] at this
 have hinv := (keep_inv hE3.inv hml (n0 := E.n0)).foreign (B := W3.putObj (w.heap.size + 1) (.loop o)) (C2 := g3.C) (fun k => g.fixed k ∨ F k ∨ k = w.heap.size + 1 ∨ k = w.heap.size) (fun _ _ _ h => h)
   (fun b o' v hv => by
     rw [← hE3.inv.comm b o' v hv]
     exact World.cell?_of_block (w := W3) (a := ⟨b, o', none⟩) (World.putObj_heap_other (hno b o' v hv)))
   (fun _ _ _ hv => .inl hv) (fun k _ hnf => World.putObj_heap_other fun e => hnf (by subst e; exact hfx _ hLf)) (putObj_below _ _ _)
   (fun k hk => .inl (hfx k (by rw [h.fixed]; exact hk)))
   (fun k hk => by
     rw [World.putObj_size]
     exact hE3.inv.base k (hfx k (by rw [h.fixed]; exact hk)))
 refine ⟨⟨{ g3.keep E.n0 r2.σ with C := g3.C, fixed := fun k => g.fixed k ∨ F k ∨ k = w.heap.size + 1 ∨ k = w.heap.size, w0 := ⟨W3.putObj (w.heap.size + 1) (.loop o), g3.C, g3.w0.G⟩ }, keepSt E.n0 m r2.σ, ⟨rfl, ?_, rfl, hinv, hlen, fun b hf => ?_, fun b o v hv => hup b o v (h.up b o v hv), fun id hid => ?_, fun id hid ver v hv => ?_, fun k hk => ?_, h.str.trans hb, fun b o v hv hf => ?_, ?_, ?_⟩⟩, hup, fun b o v hv hf => hlow b o v hv (hF1 b hf), fun k hk => hsame k (hF1 k hk) (hFne k hk), hb⟩
 · show W0.mk _ _ g3.w0.G = _
   rw [hG]
 · have := h.new b hf
   have := hb.size
   omega
 · show g3.blk id = _
   have e1 : g3.blk id = g2.blk id := hE3.blk id (by have := hE2.len; have := h.len; omega)
   rw [e1, hE2.blk id (by have := h.len; omega)]
   exact h.blk id hid
 · have e1 := hE3.ext.hd id hid ver v (hE2.ext.hd id hid ver v (h.hd id hid ver v hv))
   exact (g3.keep_ext E.n0 r2.σ).hd id hid ver v e1
 · rw [hsame k (hg1 k hk) (hgne k hk)]; exact h.old k hk
 · exact h.low b o v (hlow b o v hv (hg1 b hf)) hf
 · rw [hsame _ hDf (by omega)]; exact h.D
 · have hself : (W3.putObj (w.heap.size + 1) (.loop o)).heap[w.heap.size + 1]? = some (.loop o) := World.putObj_heap_same (Array.getElem?_eq_some_iff.1 hrL).1
   rcases hst with ⟨xs1, h1, h2, rfl⟩ | ⟨h1, h2, c, h3, rfl⟩
   · exact .inl ⟨xs1, h1, h2, hself⟩
   · exact .inr ⟨h1, h2, c, h3, hself⟩
end
theorem todo_ne {rd : List AV → Store → Option (AExit × Store)} {q : AExit × Store} : ∀ {xs : List (List AV)} {σ : Store}, aRange rd xs σ = some q → todo rd xs σ = [] → xs = []
 | [], _, _, _ => rfl
 | x :: xs, σ, h, ht => by
   obtain ⟨q1, h1, h2⟩ := bindO_eq h
   rcases contR_eq h2 with ⟨h3, _⟩ | ⟨h3, _⟩
   · rw [todo_normal h1 h3] at ht; cases ht
   · rw [todo_stop h1 h3] at ht; cases ht
def recOf (w : World) (fn : FuncId) (tmps : Array Value) (ps : Array Tmp) (asg body : Code) (st : LoopState) (pe : Option Code) : Loop :=
 { state := st, pending := pe, fn := fn, tmps := tmps, params := ps, assign := asg, body := body, defers := w.heap.size }
theorem wrap_rule (hI : Inv g σ w) {m : Nat} {fa fb : Fr → Store → Option ARes} {fn : FuncId} {tmps : Array Value} {ps : Array Tmp} {asg body : Code} (ha : ∀ n l, Sound E n (some l) asg fa) (hb : ∀ n l, Sound E n (some l) body fb)
   {fr : Fr} (hfr : ∀ g1 : Ghost, UpB g g1 m → FrOk g1 m fr tmps) (hle : E.n0 ≤ m) (q : AExit × Store) : YieldRule (wrapG E.n0 m g w (aRound E.n0 fa fb ps.toList fr m) q (recOf w fn tmps ps asg body) E.P σ hI) := by
 intro x b T F C W vals hrel hx n r
 obtain ⟨g1, σ1, h⟩ := hrel
 obtain ⟨gx, hgx, hx⟩ := hx
 have hst := h.st
 have hst := hst.resolve_right (fun ⟨h0, _⟩ => by cases h0)
 obtain ⟨xs1, hrun, htodo, hL⟩ := hst
 cases xs1 with
 | nil => cases htodo
 | cons x' xs' =>
   obtain ⟨q1, hq1, hcont⟩ := bindO_eq hrun
   have hx' : x = x' := by
     rcases contR_eq hcont with ⟨h3, _⟩ | ⟨h3, _⟩
     · rw [todo_normal hq1 h3] at htodo; injection htodo with e1 _; injection e1
     · rw [todo_stop hq1 h3] at htodo; injection htodo with e1 _; injection e1
   subst hx'
   have hq1' := hq1
   obtain ⟨hlen, h1⟩ := iteO_none hq1'
   have hlen := of_decide_eq_true hlen
   obtain ⟨r1, hr1, h2⟩ := bindO_eq h1
   obtain ⟨e1, fr1, σ2⟩ := r1
   cases e1 with
   | exit _ => cases h2
   | ret => cases h2
   | normal =>
     obtain ⟨r2, hr2, h3⟩ := bindO_eq h2
     injection h3 with h3
     have hG1 : UpB g g1 m := ⟨fun b o v hv => by rw [h.eC]; exact h.up b o v hv, h.blk, by rw [h.w0]⟩
     have hvl : vals.length = ps.size := by have := Reps.length hx; rw [this, hlen]; simp
     have hy := run_yield (P := E.P) (args := vals.toArray) hL (by simpa [recOf] using hvl)
     refine ⟨fn, _, asg, body, hy, roundIn_of_wpIn trivial ?_⟩
     have hfr0 : FrOk g1 σ1.length (setPs ps.toList x fr) ((ps.zip vals.toArray).foldl (fun t (p, v) => t.setIfInBounds p v) tmps) := by
       rw [h.len]
       exact setPs_fr ps x vals fr tmps (hfr g1 hG1) (Reps.data (g := gx) (g' := g1) (by rw [hgx, h.eC]; exact fun _ _ _ h => h) x m vals hx)
     refine ha n _ g1 σ1 W (setPs ps.toList x fr) _ _ _ h.inv (by rw [h.len]; exact hle) hfr0 hr1 fun g2 a2 W2 hE2 => ?_
     have hLf : g1.fixed (w.heap.size + 1) := by rw [h.fixed]; exact .inr (.inr (.inl rfl))
     have hL2 : W2.heap[w.heap.size + 1]? = some (.loop (recOf w fn tmps ps asg body .ready none)) := by
       rw [hE2.inv.below _ (hE2.ext.tie.fix _ hLf), hE2.ext.tie.same _ hLf, h.w0]; exact hL
     refine ⟨_, run_beginRound hL2 rfl, ?_⟩
     have hI2 := hE2.inv.turn (_o := .loop (recOf w fn tmps ps asg body .ready none)) (hE2.ext.tie.fix _ hLf) hL2 { recOf w fn tmps ps asg body .ready none with state := .busy }
     have hfr2 : FrOk { g2 with w0 := ⟨W2.putObj (w.heap.size + 1) (.loop { recOf w fn tmps ps asg body .ready none with state := .busy }), g2.C, g2.w0.G⟩ } σ2.length fr1 a2.tmps := hE2.fr.up ⟨fun _ _ _ h => h, fun _ _ => rfl, fun _ _ _ _ h => h, rfl⟩
     refine hb n _ _ σ2 _ fr1 a2 r2 _ hI2 (Nat.le_trans (by rw [h.len]; exact hle) hE2.len) hfr2 hr2 fun g3 a3 W3 hE3 => ?_
     have hL3 : W3.heap[w.heap.size + 1]? = some (.loop { recOf w fn tmps ps asg body .ready none with state := .busy }) := by
       have hLf2 := hE2.ext.tie.fix _ hLf
       rw [hE3.inv.below _ (hE3.ext.tie.fix _ hLf2), hE3.ext.tie.same _ hLf2]
       exact World.putObj_heap_same (Array.getElem?_eq_some_iff.1 hL2).1
     have fin : ∀ jump, ((∃ xs1, aRange (aRound E.n0 fa fb ps.toList fr m) xs1 (keepSt E.n0 m r2.σ) = some q ∧ T = todo (aRound E.n0 fa fb ps.toList fr m) xs1 (keepSt E.n0 m r2.σ) ∧ jump = none) ∨
         (T = [] ∧ q.2 = keepSt E.n0 m r2.σ ∧ jumpOf q.1 = jump ∧ jump ≠ none)) → b = jump.isNone →
         ∃ v w', (Instr.endRound (w.heap.size + 1) jump).run E.P W3 = .ok v w' ∧ (Ending.returned v = .returned (.bool b) ∧ ∃ C', wrapRel E.n0 m g w (aRound E.n0 fa fb ps.toList fr m) q (recOf w fn tmps ps asg body) T F C' w' ∧
           (∀ b o v, C b o = some v → C' b o = some v) ∧ (∀ b o v, C' b o = some v → F b → C b o = some v) ∧ (∀ k, F k → w'.heap[k]? = W.heap[k]?) ∧ Below 0 W w') := fun jump hj hbj => by
       refine ⟨_, _, run_endRound jump hL3, by rw [hbj], g3.C, ?_⟩
       refine wrap_round h hI hE2 hE3 _ ⟨_, hL3⟩ hle ?_
       rcases hj with ⟨xs1, h4, h5, rfl⟩ | ⟨h4, h5, h6, h7⟩
       · exact .inl ⟨xs1, h4, h5, rfl⟩
       · cases jump with
         | none => exact absurd rfl h7
         | some c => exact .inr ⟨h4, h5, c, h6, rfl⟩
     rcases contR_eq hcont with ⟨h4, h5⟩ | ⟨h4, h5⟩
     · rw [todo_normal hq1 h4] at htodo
       injection htodo with e1 e2
       injection e1 with _ e3
       rw [← h3] at h4 h5 e2
       simp only at h4 h5 e2
       rw [h4]
       exact fin none (.inl ⟨xs', h5, e2, rfl⟩) e3
     · rw [todo_stop hq1 h4] at htodo
       injection htodo with e1 e2
       injection e1 with _ e3
       rw [← h3] at h4 h5
       simp only at h4
       cases hre : r2.e with
       | normal => exact absurd hre h4
       | exit id => exact fin (some (.exit id)) (.inr ⟨e2, by rw [← h5], by rw [← h5]; show jumpOf r2.e = _; rw [hre]; rfl, by simp⟩) e3
       | ret => exact fin (some .ret) (.inr ⟨e2, by rw [← h5], by rw [← h5]; show jumpOf r2.e = _; rw [hre]; rfl, by simp⟩) e3
end Go.Abs
namespace Go.Abs
open Go.RowKit
variable {E : Env} {g : Ghost} {σ : Store} {w : World}
structure SeqEnv (E : Env) : Prop where
 seq : ∀ v xs, E.seq v = some xs → SeqOk E.P v xs
theorem range_sound (hS : SeqEnv E) {n : Nat} {f : Operand} {ps : Array Tmp} {asg body : Code} {fa fb : Fr → Store → Option ARes} (ha : ∀ n l, Sound E n (some l) asg fa) (hb : ∀ n l, Sound E n (some l) body fb) :
   Sound E n none (.rangeFunc f ps asg body) fun fr σ => bindO (E.seq (evalO fr f)) fun xs => bindO (aRange (aRound E.n0 fa fb ps.toList (fr.map AV.noRow) σ.length) xs (keepSt E.n0 σ.length σ)) fun q => some ⟨q.1, fr.map AV.noRow, q.2⟩ := by
 intro g σ w fr a r Q hI hl hfr hr hQ
 obtain ⟨xs, hxs, h1⟩ := bindO_eq hr
 obtain ⟨q, hq, h2⟩ := bindO_eq h1
 injection h2 with h2
 subst h2
 obtain ⟨gf, caps, hval, hcall, hseq⟩ := hS.seq _ _ hxs g _ _ (evalO_rep hfr f)
 have hlen := keepSt_length E.n0 σ.length σ (Nat.le_refl _)
 have hI0 := keep_inv hI (Nat.le_refl _) (n0 := E.n0)
 refine wpIn_rangeFunc ?_
 intro fn _
 have hfr0 : ∀ g1 : Ghost, UpB (g.keep E.n0 σ) g1 σ.length → FrOk g1 σ.length (fr.map AV.noRow) a.tmps := fun g1 h => noRow_fr (g := g) ⟨h.C, h.blk, h.G⟩ hfr
 have hrule := wrap_rule (E := E) hI0 (m := σ.length) ha hb hfr0 hl (fn := fn) (ps := ps) q
 -- the two blocks
 let W1 : World := (w.alloc (.deferred (some []))).alloc (.loop (recOf w fn a.tmps ps asg body .ready none))
 have hs1 : W1.heap.size = w.heap.size + 2 := by simp [W1]
 have hold : ∀ k, k < w.heap.size → W1.heap[k]? = w.heap[k]? := fun k hk => (Below.heap_alloc _ _ k (by simp; omega)).trans (Below.heap_alloc w _ k hk)
 have hL : W1.heap[w.heap.size + 1]? = some (.loop (recOf w fn a.tmps ps asg body .ready none)) := by
   have := World.alloc_heap_new (w.alloc (.deferred (some []))) (.loop (recOf w fn a.tmps ps asg body .ready none))
   rwa [World.size_alloc] at this
 have hD : W1.heap[w.heap.size]? = some (.deferred (some [])) := (Below.heap_alloc _ _ _ (by simp)).trans (World.alloc_heap_new w _)
 have hb1 : Below 0 w W1 := ((Below.refl 0 w).alloc (Nat.zero_le _) _).alloc (Nat.zero_le _) _
 have hI1 := hI0.foreign (B := W1) (C2 := g.C) (fun k => g.fixed k ∨ False ∨ k = w.heap.size + 1 ∨ k = w.heap.size) (fun _ _ _ h => h)
   (fun b o v hv => by
     have hc := hI.comm b o v hv
     rw [← hc]
     exact World.cell?_of_block (w := w) (a := ⟨b, o, none⟩) (hold b (hI.lt hv)))
   (fun _ _ _ hv => .inl hv) (fun k hk _ => hold k hk) hb1
   (fun k hk => by
     rcases hk with h | h | h | h
     · exact .inl h
     · exact h.elim
     · exact .inr (by omega)
     · exact .inr (by omega))
   (fun k hk => by
     rcases hk with h | h | h | h
     · have := hI.base k h; omega
     · exact h.elim
     · omega
     · omega)
 have hstart : wrapRel E.n0 σ.length (g.keep E.n0 σ) w (aRound E.n0 fa fb ps.toList (fr.map AV.noRow) σ.length) q (recOf w fn a.tmps ps asg body) (todo (aRound E.n0 fa fb ps.toList (fr.map AV.noRow) σ.length) xs (keepSt E.n0 σ.length σ)) (fun _ => False) g.C W1 := by
   refine ⟨{ g.keep E.n0 σ with C := g.C, fixed := fun k => g.fixed k ∨ False ∨ k = w.heap.size + 1 ∨ k = w.heap.size, w0 := ⟨W1, g.C, g.w0.G⟩ }, _, ⟨rfl, rfl, rfl, hI1, hlen, fun b h => h.elim, fun _ _ _ h => h, fun _ _ => rfl, fun _ _ _ _ h => h, fun k hk => hold k (hI.base k hk), hb1, fun b o v hv _ => hv, hD, .inl ⟨xs, hq, rfl, hL⟩⟩⟩
 have hcalls := hseq (wrapG E.n0 σ.length (g.keep E.n0 σ) w _ q (recOf w fn a.tmps ps asg body) E.P _ hI0) _ _ _ _ rfl hrule (todo_fits xs _ hq) hstart (fun _ _ _ h => h)
 refine ⟨w.heap.size + 1, [mark w.heap.size], W1, { target := .fn (.func gf) caps, args := #[.func (.yield (w.heap.size + 1)) #[] #[]] }, W1, gf, #[.func (.yield (w.heap.size + 1)) #[] #[]] ++ caps, W1, ?_, ?_, ?_, ?_, fun h => by simp [wideR, Fence.wide] at h, ?_⟩
 · exact run_enterLoop_outer _ _ _ _ _
 · simp only [resolve, hval]
   simp [go_sem]
 · intro _ _; trivial
 · simp [invoke, go_sem, hcall]
 · refine callsIn_wideR (hcalls.mono ?_)
   rintro e W ⟨v, rfl, F', C', g1, σ1, h⟩
   -- the end of the loop
   have key : ∀ st pe, W.heap[w.heap.size + 1]? = some (.loop (recOf w fn a.tmps ps asg body st pe)) → q.2 = σ1 →
       Ends E σ.length g a ⟨q.1, fr.map AV.noRow, q.2⟩ { g1 with fixed := fun k => g.fixed k ∨ k = w.heap.size, w0 := ⟨W.putObj (w.heap.size + 1) (.loop { recOf w fn a.tmps ps asg body st pe with state := .exhausted }), g1.C, g1.w0.G⟩ }
         { a with defers := [mark w.heap.size] ++ a.defers } (W.putObj (w.heap.size + 1) (.loop { recOf w fn a.tmps ps asg body st pe with state := .exhausted })) := fun st pe hLL hq2 => by
     have hLf : g1.fixed (w.heap.size + 1) := by rw [h.fixed]; exact .inr (.inr (.inl rfl))
     have hno : ∀ b o v, g1.C b o = some v → b ≠ w.heap.size + 1 := fun b o v hv e => by
       have := h.inv.comm b o v hv
       subst e
       simp [World.cell?, hLL] at this
     have hsz : w.heap.size + 1 < W.heap.size := (Array.getElem?_eq_some_iff.1 hLL).1
     have hinv := h.inv.foreign (B := W.putObj (w.heap.size + 1) (.loop { recOf w fn a.tmps ps asg body st pe with state := .exhausted })) (C2 := g1.C) (fun k => g.fixed k ∨ k = w.heap.size) (fun _ _ _ h => h)
       (fun b o' v hv => by
         rw [← h.inv.comm b o' v hv]
         exact World.cell?_of_block (w := W) (a := ⟨b, o', none⟩) (World.putObj_heap_other (hno b o' v hv)))
       (fun _ _ _ hv => .inl hv) (fun k _ hnf => World.putObj_heap_other fun e => hnf (by subst e; exact hLf)) (putObj_below _ _ _)
       (fun k hk => .inl (by
         rw [h.fixed]
         rcases hk with h1 | h1
         · exact .inl h1
         · exact .inr (.inr (.inr h1))))
       (fun k hk => by
         rw [World.putObj_size]
         rcases hk with h1 | h1
         · have := hI.base k h1; omega
         · omega)
     have hG : g1.w0.G = g.w0.G := by rw [h.w0]; rfl
     refine ⟨⟨fun b o v hv => by show g1.C b o = _; rw [h.eC]; exact h.up b o v hv, fun id hid => h.blk id (by omega), fun id hid ver v hv => h.hd id hid ver v ((g.keep_ext E.n0 σ).hd id hid ver v hv), ⟨fun k hk => .inl hk, fun k hk => ?_, ?_, fun b o v hv hf => ?_, hG⟩⟩, ?_, ?_, ?_, ⟨[w.heap.size], rfl, by simp, fun D hD => ?_⟩, fun id hid => h.blk id hid⟩
     · show (W.putObj (w.heap.size + 1) _).heap[k]? = _
       have hk1 := hI.base k hk
       rw [World.putObj_heap_other (by omega), h.old k hk]
       exact hI.below k hk
     · exact (hI.str.trans h.str).trans (putObj_below _ _ _)
     · have hv : g1.C b o = some v := hv
       rw [h.eC] at hv
       exact hI.low b o v (h.low b o v hv hf) hf
     · simp only [hq2]; exact hinv
     · simp only [hq2, h.len]; exact Nat.le_refl _
     · simp only [hq2, h.len]
       exact hfr0 _ ⟨fun b o v hv => by show g1.C b o = _; rw [h.eC]; exact h.up b o v hv, h.blk, hG⟩
     · have hD' : D = w.heap.size := by simpa using hD
       subst hD'
       refine ⟨.inr rfl, fun hf => ?_, ?_⟩
       · have := hI.base _ hf; omega
       · show (W.putObj (w.heap.size + 1) _).heap[w.heap.size]? = _
         rw [World.putObj_heap_other (by omega)]; exact h.D
   rcases h.st with ⟨xs1, h3, h4, h5⟩ | ⟨_, h3, c, h4, h5⟩
   · have hx := todo_ne h3 h4.symm
     subst hx
     injection h3 with h3
     refine ⟨none, _, run_endLoop h5 (by simp [recOf]), ?_⟩
     have := hQ _ _ _ (key _ _ h5 (by rw [← h3]))
     rw [show q.1 = .normal by rw [← h3]] at this
     exact this
   · refine ⟨some c, _, run_endLoop h5 (by simp [recOf]), ?_⟩
     have := hQ _ _ _ (key _ _ h5 h3)
     cases hq1 : q.1 with
     | normal => rw [hq1] at h4; cases h4
     | exit id =>
       rw [hq1] at h4 this
       injection h4 with h4
       subst h4
       exact wpIn_exit this
     | ret =>
       rw [hq1] at h4 this
       injection h4 with h4
       subst h4
       exact wpIn_ret this
end Go.Abs
