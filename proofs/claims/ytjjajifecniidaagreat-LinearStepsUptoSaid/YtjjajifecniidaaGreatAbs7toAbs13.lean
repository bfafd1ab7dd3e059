import Derived.Test.YtjjajifecniidaaGreatAbs1toAbs6
namespace Go.Abs
open Go.RowKit

/-! ### Stores into a block -/
theorem setCells_heap (b : Nat) : ∀ (us : List Value) (o : Nat) (w : World) (vs : Array Value) (t : TypeId) (fr : Nat × Nat), w.heap[b]? = some (.cells vs t fr) → o + us.length ≤ vs.size →
    (w.setCells b o us).heap[b]? = some (.cells (vs.toList.take o ++ (us ++ vs.toList.drop (o + us.length))).toArray t fr)
  | [], o, w, vs, t, fr, h, _ => by simpa [World.setCells] using h
  | u :: us, o, w, vs, t, fr, h, hl => by
    have hl' : o + 1 + us.length ≤ vs.size := by simp at hl; omega
    have h1 : (w.setCell ⟨b, o, none⟩ u).heap[b]? = some (.cells (vs.setIfInBounds o u) t fr) := by
      simp [World.setCell, Array.getElem?_modify, h]
    have := setCells_heap b us (o + 1) (w.setCell ⟨b, o, none⟩ u) (vs.setIfInBounds o u) t fr h1 (by simpa using hl')
    rw [World.setCells, this]
    congr 2
    congr 1
    rw [Array.toList_setIfInBounds]
    have ho : o < vs.toList.length := by simp at hl ⊢; omega
    rw [List.take_add_one, List.take_set_of_le (by omega), List.getElem?_set_self ho, List.drop_set_of_lt (by omega)]
    simp [Nat.add_assoc, Nat.add_comm 1]
theorem setCells_other (b : Nat) : ∀ (us : List Value) (o : Nat) (w : World) (k : Nat), k ≠ b → (w.setCells b o us).heap[k]? = w.heap[k]?
  | [], _, _, _, _ => rfl
  | u :: us, o, w, k, hk => by rw [World.setCells, setCells_other b us (o + 1) _ k hk, Below.heap_setCell _ _ _ _ hk]
theorem setCells_size (b : Nat) : ∀ (us : List Value) (o : Nat) (w : World), (w.setCells b o us).heap.size = w.heap.size
  | [], _, _ => rfl
  | u :: us, o, w => by rw [World.setCells, setCells_size b us, World.size_setCell]
theorem setCells_streams (b : Nat) : ∀ (us : List Value) (o : Nat) (w : World), (w.setCells b o us).os = w.os ∧ (w.setCells b o us).tape = w.tape ∧ (w.setCells b o us).output = w.output
  | [], _, _ => ⟨rfl, rfl, rfl⟩
  | u :: us, o, w => by rw [World.setCells]; exact setCells_streams b us (o + 1) _
theorem setCells_below {B b : Nat} (hb : B ≤ b) (us : List Value) (o : Nat) (w : World) : Below B w (w.setCells b o us) := by
  obtain ⟨h1, h2, h3⟩ := setCells_streams b us o w
  exact ⟨h1, h2, h3, by rw [setCells_size]; exact Nat.le_refl _, fun k hk => setCells_other b us o w k (by omega)⟩

theorem store_run {P : Program} {t : Nat} {ti : TInfo} (hT : TyOk P t ti) {w : World} {b off : Nat} {vs : Array Value} {tt : TypeId} (hh : w.heap[b]? = some (.cells vs tt (0, 0)))
    {val : Value} (hone : val.cells.toList.all (·.oneCell') = true) (hsz : val.cells.size = ti.size) (hle : off + val.cells.size ≤ vs.size) :
    (Instr.storeAt t (.pointer (some ⟨b, off, none⟩)) val).run P w = .ok () (w.setCells b off val.cells.toList) := by
  have hs := run_sizeOf' hT w
  have := run_storeCells_cells (P := P) b off val.cells.toList 0 w (fun j hj => by rw [cell_of_block hh]; simp at hj ⊢; omega)
    (fun j hj => by simp [World.frozen?, hh]) (fun v hv => by simpa using List.all_eq_true.1 hone v hv)
  simp only [Nat.add_zero] at this
  simp [Instr.storeAt, Instr.sureAddr, storeVar, hs, hsz, this]

/-! ### Owned slices given up -/
theorem frz_row {g : Ghost} {σ : Store} {w : World} (hI : Inv g σ w) {id sz ver : Nat} {es : List (List AV)} {val : Value} (hr : σ[id]? = some (.row sz ver es)) (hv : g.hd id ver = some val) :
    ∃ g', Ext g g' σ.length ∧ g'.hd = g.hd ∧ g'.blk = g.blk ∧ Inv g' (σ.set id (.frz sz ver es)) w ∧ Rep g' (.sl false sz es) 0 val := by
  have hid : id < σ.length := (List.getElem?_eq_some_iff.1 hr).1
  obtain ⟨⟨a, cap, hh, hrow⟩, hs, hfresh⟩ := hI.objs id _ hr
  rw [hv] at hh
  injection hh with hh
  subst hh
  have hset : ∀ j, j ≠ id → (σ.set id (AObj.frz sz ver es))[j]? = σ[j]? := fun j hj => by rw [List.getElem?_set_ne (by omega)]
  have hsame : (σ.set id (AObj.frz sz ver es))[id]? = some (.frz sz ver es) := by rw [List.getElem?_set_self hid]
  rcases hrow with ⟨rfl, hc0⟩ | ⟨hc, hl, b, vs, t, ha, hheap, hsz, hreps⟩
  · have hrep : Rep g (.sl false sz []) 0 (.slice a 0 cap) := ⟨a, cap, rfl, Nat.zero_le _, by simp, .inl rfl⟩
    refine ⟨g, Ext.refl g _, rfl, rfl, ?_, hrep⟩
    refine hI.change id (Ext.refl g _) (by simp) hset (fun _ _ => rfl) (fun _ _ _ => rfl) (Below.refl _ _) (Nat.le_refl _) (fun _ _ _ h => .inl h) (fun o ho => ?_)
    rw [hsame] at ho; injection ho with ho; subst ho
    exact ⟨⟨_, hv, hrep⟩, fun b hb => by simp [owned] at hb⟩
  · have hown : owned g id (.row sz ver es) = some b := by simp only [owned, rowBlock, hv, ha]; rw [if_neg (by omega)]
    obtain ⟨_, hbl, hnoC⟩ := hI.sep id _ b hr hown
    let g' : Ghost := { g with C := fun b' o => if b' = b ∧ o < es.length * sz then vs[o]? else g.C b' o }
    have hCC : ∀ b' o v, g.C b' o = some v → g'.C b' o = some v := fun b' o v h => by
      show (if b' = b ∧ o < es.length * sz then vs[o]? else g.C b' o) = some v
      rw [if_neg]
      · exact h
      · rintro ⟨rfl, _⟩
        rw [hnoC o] at h
        cases h
    have he : Ext g g' σ.length := ⟨hCC, fun _ _ => rfl, fun _ _ _ _ h => h, Tie.refl _ _⟩
    have hrep : Rep g' (.sl false sz es) 0 (.slice a es.length cap) := by
      refine ⟨a, cap, rfl, hl, by simp, .inr ⟨b, 0, ha, RepE.of_reps hs (RepC.of_reps (Reps.mono he _ 0 0 _ (Nat.zero_le _) (Nat.le_refl _) hreps) fun j v hj => ?_)⟩⟩
      rw [List.getElem?_take] at hj
      split at hj
      · rename_i hj'
        show (if b = b ∧ 0 + j < es.length * sz then vs[0 + j]? else g.C b (0 + j)) = some v
        rw [if_pos ⟨rfl, by omega⟩]
        simpa using hj
      · cases hj
    refine ⟨g', he, rfl, rfl, ?_, hrep⟩
    refine hI.change id he (by simp) hset (fun _ _ => rfl) (fun _ _ _ => rfl) (Below.refl _ _) (Nat.le_refl _) (fun b' o v h => ?_) (fun o ho => ?_)
    · by_cases hb : b' = b ∧ o < es.length * sz
      · refine .inr ⟨?_, .inr ⟨_, hr, by rw [hb.1]; exact hown⟩⟩
        have : vs[o]? = some v := by have h2 : g'.C b' o = some v := h; simp only [g'] at h2; rwa [if_pos hb] at h2
        rw [hb.1, cell_of_block hheap]; exact this
      · refine .inl ?_
        have h2 : g'.C b' o = some v := h; simp only [g'] at h2; rwa [if_neg hb] at h2
    · rw [hsame] at ho; injection ho with ho; subst ho
      exact ⟨⟨_, hv, hrep⟩, fun b hb => by simp [owned] at hb⟩

structure Frozen (g g' : Ghost) (σ σ' : Store) (w : World) : Prop where
  ext : Ext g g' σ.length
  inv : Inv g' σ' w
  len : σ'.length = σ.length
  hd : g'.hd = g.hd
  blk : g'.blk = g.blk
theorem Frozen.refl {g : Ghost} {σ : Store} {w : World} (h : Inv g σ w) : Frozen g g σ σ w := ⟨Ext.refl g _, h, rfl, rfl, rfl⟩
theorem Frozen.trans {g g' g'' : Ghost} {σ σ' σ'' : Store} {w : World} (h : Frozen g g' σ σ' w) (h' : Frozen g' g'' σ' σ'' w) : Frozen g g'' σ σ'' w :=
  ⟨h.ext.trans h'.ext (by rw [h.len]; exact Nat.le_refl _), h'.inv, h'.len.trans h.len, h'.hd.trans h.hd, h'.blk.trans h.blk⟩

theorem objFrz_sound {g : Ghost} {σ : Store} {w : World} (hI : Inv g σ w) {id ver n : Nat} {v' : AV} {σ' : Store} {val : Value} (h : objFrz σ id ver σ[id]? = some (v', σ')) (hr : Rep g (.rs id ver) n val) :
    ∃ g', Frozen g g' σ σ' w ∧ Rep g' v' 0 val := by
  obtain ⟨_, hv, _⟩ := hr
  cases ho : σ[id]? with
  | none => rw [ho] at h; simp [objFrz] at h
  | some o =>
    rw [ho] at h
    cases o with
    | row sz v es =>
      obtain ⟨hvv, h1⟩ := iteO_none h
      have := of_decide_eq_true hvv
      subst this
      injection h1 with h1
      injection h1 with h2 h3
      subst h2; subst h3
      obtain ⟨g', h1, h2, h3, h4, h5⟩ := frz_row hI ho hv
      exact ⟨g', ⟨h1, h4, by simp, h2, h3⟩, h5⟩
    | frz sz v es =>
      obtain ⟨hvv, h1⟩ := iteO_none h
      have := of_decide_eq_true hvv
      subst this
      injection h1 with h1
      injection h1 with h2 h3
      subst h2; subst h3
      obtain ⟨u, hu, hr⟩ := hI.objs id _ ho
      rw [hv] at hu; injection hu with hu; subst hu
      exact ⟨g, Frozen.refl hI, hr⟩
    | _ => simp [objFrz] at h
theorem freezeL_sound {g : Ghost} {σ : Store} {w : World} (hI : Inv g σ w) {n : Nat} {v v' : AV} {σ' : Store} {val : Value} (h : freezeL σ v = some (v', σ')) (hr : Rep g v n val) :
    ∃ g', Frozen g g' σ σ' w ∧ Rep g' v' 0 val := by
  cases v with
  | rs id ver => exact objFrz_sound hI h hr
  | sl f sz es =>
    injection h with h
    injection h with h1 h2
    subst h1; subst h2
    obtain ⟨a, cap, e, h3, _, h4⟩ := hr
    exact ⟨g, Frozen.refl hI, a, cap, e, h3, by simp, h4⟩
  | _ =>
    simp [freezeL] at h <;> (obtain ⟨h1, h2⟩ := h; subst h1; subst h2; exact ⟨g, Frozen.refl hI, by simpa only [Rep] using hr⟩)
theorem freezeLs_sound {w : World} {n : Nat} : ∀ {cs cs' : List AV} {g : Ghost} {σ σ' : Store} {vs : List Value}, Inv g σ w → n ≤ σ.length → freezeLs σ cs = some (cs', σ') → Reps g cs n vs →
    ∃ g', Frozen g g' σ σ' w ∧ Reps g' cs' 0 vs
  | [], _, g, σ, _, _, hI, _, h, hr => by
    simp [freezeLs] at h; obtain ⟨h1, h2⟩ := h; subst h1; subst h2
    exact ⟨g, Frozen.refl hI, hr⟩
  | c :: cs, _, g, σ, _, _, hI, hn, h, ⟨v, vs', e, h1, h2⟩ => by
    obtain ⟨p, hp, h⟩ := bindO_eq h
    obtain ⟨q, hq, h⟩ := bindO_eq h
    injection h with h
    injection h with ha hb
    subst ha; subst hb; subst e
    obtain ⟨g1, f1, r1⟩ := freezeL_sound hI hp h1
    obtain ⟨g2, f2, r2⟩ := freezeLs_sound f1.inv (by rw [f1.len]; exact hn) hq (Reps.mono f1.ext cs n n _ hn (Nat.le_refl _) h2)
    exact ⟨g2, f1.trans f2, v, vs', rfl, Rep.mono f2.ext _ 0 0 _ (Nat.zero_le _) (Nat.le_refl _) r1, r2⟩
theorem freeze_sound {g : Ghost} {σ : Store} {w : World} (hI : Inv g σ w) {n : Nat} (hn : n ≤ σ.length) {v v' : AV} {σ' : Store} {val : Value} (h : freeze σ v = some (v', σ')) (hr : Rep g v n val) :
    ∃ g', Frozen g g' σ σ' w ∧ Rep g' v' 0 val := by
  cases v with
  | agg cs =>
    obtain ⟨p, hp, h⟩ := bindO_eq h
    injection h with h
    injection h with ha hb
    subst ha; subst hb
    obtain ⟨vs, rfl, hr⟩ := hr
    obtain ⟨g', f, r⟩ := freezeLs_sound hI hn hp hr
    exact ⟨g', f, vs, rfl, r⟩
  | rs id ver => exact freezeL_sound hI (show freezeL σ (.rs id ver) = _ from h) hr
  | sl f sz es =>
    injection h with h
    injection h with h1 h2
    subst h1; subst h2
    obtain ⟨a, cap, e, h3, _, h4⟩ := hr
    exact ⟨g, Frozen.refl hI, a, cap, e, h3, by simp, h4⟩
  | _ =>
    simp [freeze] at h <;> (obtain ⟨h1, h2⟩ := h; subst h1; subst h2; exact ⟨g, Frozen.refl hI, by simpa only [Rep] using hr⟩)
theorem freezes_sound {w : World} {n : Nat} : ∀ {cs cs' : List AV} {g : Ghost} {σ σ' : Store} {vs : List Value}, Inv g σ w → n ≤ σ.length → freezes σ cs = some (cs', σ') → Reps g cs n vs →
    ∃ g', Frozen g g' σ σ' w ∧ Reps g' cs' 0 vs
  | [], _, g, σ, _, _, hI, _, h, hr => by
    simp [freezes] at h; obtain ⟨h1, h2⟩ := h; subst h1; subst h2
    exact ⟨g, Frozen.refl hI, hr⟩
  | c :: cs, _, g, σ, _, _, hI, hn, h, ⟨v, vs', e, h1, h2⟩ => by
    obtain ⟨p, hp, h⟩ := bindO_eq h
    obtain ⟨q, hq, h⟩ := bindO_eq h
    injection h with h
    injection h with ha hb
    subst ha; subst hb; subst e
    obtain ⟨g1, f1, r1⟩ := freeze_sound hI hn hp h1
    obtain ⟨g2, f2, r2⟩ := freezes_sound f1.inv (by rw [f1.len]; exact hn) hq (Reps.mono f1.ext cs n n _ hn (Nat.le_refl _) h2)
    exact ⟨g2, f1.trans f2, v, vs', rfl, Rep.mono f2.ext _ 0 0 _ (Nat.zero_le _) (Nat.le_refl _) r1, r2⟩

/-! ### What is handed back -/
theorem seal_var {g : Ghost} {σ : Store} {w : World} (hI : Inv g σ w) {id off n : Nat} {v' : AV} {σ' : Store} {val : Value} (h : sealVar σ id off σ[id]? = some (v', σ')) (hr : Rep g (.ptr id off) n val) :
    ∃ g', Frozen g g' σ σ' w ∧ Rep g' v' 0 val := by
  obtain ⟨_, rfl⟩ := hr
  cases ho : σ[id]? with
  | none => rw [ho] at h; simp [sealVar] at h
  | some o =>
    rw [ho] at h
    cases o with
    | var cs =>
      obtain ⟨hc, h1⟩ := iteO_none h
      simp only [Bool.and_eq_true, decide_eq_true_eq] at hc
      obtain ⟨rfl, hd⟩ := hc
      injection h1 with h1
      injection h1 with h2 h3
      subst h2; subst h3
      have hid : id < σ.length := (List.getElem?_eq_some_iff.1 ho).1
      obtain ⟨vs, t, hheap, hreps⟩ := hI.objs id _ ho
      obtain ⟨_, hbl, hnoC⟩ := hI.sep id _ _ ho rfl
      have hown : owned g id (.var cs) = some (g.blk id) := rfl
      have hreps := dataLs_rep hreps hd
      let g' : Ghost := { g with C := fun b' o => if b' = g.blk id ∧ o < vs.size then vs[o]? else g.C b' o }
      have hCC : ∀ b' o v, g.C b' o = some v → g'.C b' o = some v := fun b' o v h => by
        show (if b' = g.blk id ∧ o < vs.size then vs[o]? else g.C b' o) = some v
        rw [if_neg]
        · exact h
        · rintro ⟨rfl, _⟩
          rw [hnoC o] at h
          cases h
      have he : Ext g g' σ.length := ⟨hCC, fun _ _ => rfl, fun _ _ _ _ h => h, Tie.refl _ _⟩
      have hrep : Rep g' (.cref cs) 0 (.pointer (some ⟨g.blk id, 0, none⟩)) := by
        refine ⟨g.blk id, 0, rfl, RepC.of_reps (Reps.mono he _ 0 0 _ (Nat.zero_le _) (Nat.le_refl _) hreps) fun j v hj => ?_⟩
        have hj' : j < vs.size := by simpa using (List.getElem?_eq_some_iff.1 hj).1
        show (if g.blk id = g.blk id ∧ 0 + j < vs.size then vs[0 + j]? else g.C (g.blk id) (0 + j)) = some v
        rw [if_pos ⟨rfl, by omega⟩]
        simpa using hj
      have hset : ∀ j, j ≠ id → (σ.set id AObj.dead)[j]? = σ[j]? := fun j hj => by rw [List.getElem?_set_ne (by omega)]
      have hsame : (σ.set id AObj.dead)[id]? = some .dead := by rw [List.getElem?_set_self hid]
      refine ⟨g', ⟨he, ?_, by simp, rfl, rfl⟩, hrep⟩
      refine hI.change id he (by simp) hset (fun _ _ => rfl) (fun _ _ _ => rfl) (Below.refl _ _) (Nat.le_refl _) (fun b' o v h => ?_) (fun o ho2 => ?_)
      · by_cases hb : b' = g.blk id ∧ o < vs.size
        · refine .inr ⟨?_, .inr ⟨_, ho, by rw [hb.1]; exact hown⟩⟩
          have : vs[o]? = some v := by have h2 : g'.C b' o = some v := h; simp only [g'] at h2; rwa [if_pos hb] at h2
          rw [hb.1, cell_of_block hheap]; exact this
        · refine .inl ?_
          have h2 : g'.C b' o = some v := h; simp only [g'] at h2; rwa [if_neg hb] at h2
      · rw [hsame] at ho2; injection ho2 with ho2; subst ho2
        exact ⟨trivial, fun b hb => by simp [owned] at hb⟩
    | _ => simp [sealVar] at h
theorem sealL_sound {g : Ghost} {σ : Store} {w : World} (hI : Inv g σ w) {n : Nat} {v v' : AV} {σ' : Store} {val : Value} (h : sealL σ v = some (v', σ')) (hr : Rep g v n val) :
    ∃ g', Frozen g g' σ σ' w ∧ Rep g' v' 0 val := by
  cases v with
  | ptr id off => exact seal_var hI h hr
  | _ => refine freezeL_sound hI ?_ hr; exact h
theorem sealLs_sound {w : World} {n : Nat} : ∀ {cs cs' : List AV} {g : Ghost} {σ σ' : Store} {vs : List Value}, Inv g σ w → n ≤ σ.length → sealLs σ cs = some (cs', σ') → Reps g cs n vs →
    ∃ g', Frozen g g' σ σ' w ∧ Reps g' cs' 0 vs
  | [], _, g, σ, _, _, hI, _, h, hr => by
    simp [sealLs] at h; obtain ⟨h1, h2⟩ := h; subst h1; subst h2
    exact ⟨g, Frozen.refl hI, hr⟩
  | c :: cs, _, g, σ, _, _, hI, hn, h, ⟨v, vs', e, h1, h2⟩ => by
    obtain ⟨p, hp, h⟩ := bindO_eq h
    obtain ⟨q, hq, h⟩ := bindO_eq h
    injection h with h
    injection h with ha hb
    subst ha; subst hb; subst e
    obtain ⟨g1, f1, r1⟩ := sealL_sound hI hp h1
    obtain ⟨g2, f2, r2⟩ := sealLs_sound f1.inv (by rw [f1.len]; exact hn) hq (Reps.mono f1.ext cs n n _ hn (Nat.le_refl _) h2)
    exact ⟨g2, f1.trans f2, v, vs', rfl, Rep.mono f2.ext _ 0 0 _ (Nat.zero_le _) (Nat.le_refl _) r1, r2⟩
theorem sealV_sound {g : Ghost} {σ : Store} {w : World} (hI : Inv g σ w) {n : Nat} (hn : n ≤ σ.length) {v v' : AV} {σ' : Store} {val : Value} (h : sealV σ v = some (v', σ')) (hr : Rep g v n val) :
    ∃ g', Frozen g g' σ σ' w ∧ Rep g' v' 0 val := by
  cases v with
  | fn f cap =>
    obtain ⟨p, hp, h⟩ := bindO_eq h
    injection h with h
    injection h with ha hb
    subst ha; subst hb
    obtain ⟨vs, rfl, hr⟩ := hr
    obtain ⟨g', f, r⟩ := sealLs_sound hI hn hp hr
    exact ⟨g', f, vs, rfl, r⟩
  | _ => refine freeze_sound hI hn ?_ hr; exact h
theorem sealVs_sound {w : World} {n : Nat} : ∀ {cs cs' : List AV} {g : Ghost} {σ σ' : Store} {vs : List Value}, Inv g σ w → n ≤ σ.length → sealVs σ cs = some (cs', σ') → Reps g cs n vs →
    ∃ g', Frozen g g' σ σ' w ∧ Reps g' cs' 0 vs
  | [], _, g, σ, _, _, hI, _, h, hr => by
    simp [sealVs] at h; obtain ⟨h1, h2⟩ := h; subst h1; subst h2
    exact ⟨g, Frozen.refl hI, hr⟩
  | c :: cs, _, g, σ, _, _, hI, hn, h, ⟨v, vs', e, h1, h2⟩ => by
    obtain ⟨p, hp, h⟩ := bindO_eq h
    obtain ⟨q, hq, h⟩ := bindO_eq h
    injection h with h
    injection h with ha hb
    subst ha; subst hb; subst e
    obtain ⟨g1, f1, r1⟩ := sealV_sound hI hn hp h1
    obtain ⟨g2, f2, r2⟩ := sealVs_sound f1.inv (by rw [f1.len]; exact hn) hq (Reps.mono f1.ext cs n n _ hn (Nat.le_refl _) h2)
    exact ⟨g2, f1.trans f2, v, vs', rfl, Rep.mono f2.ext _ 0 0 _ (Nat.zero_le _) (Nat.le_refl _) r1, r2⟩
end Go.Abs
namespace Go.Abs
open Go.RowKit

theorem putAt_eq {cs us cs' : List AV} {off : Nat} (h : putAt cs off us = some cs') : off + us.length ≤ cs.length ∧ cs' = cs.take off ++ (us ++ cs.drop (off + us.length)) := by
  obtain ⟨h1, h2⟩ := iteO_none h
  injection h2 with h2
  exact ⟨of_decide_eq_true h1, h2.symm⟩
theorem putAt_length {cs us cs' : List AV} {off : Nat} (h : putAt cs off us = some cs') : cs'.length = cs.length := by
  obtain ⟨h1, rfl⟩ := putAt_eq h
  simp; omega
theorem Reps.splice {g : Ghost} {n : Nat} {cs us : List AV} {vs ws : List Value} (o : Nat) (h : Reps g cs n vs) (h' : Reps g us n ws) :
    Reps g (cs.take o ++ (us ++ cs.drop (o + us.length))) n (vs.take o ++ (ws ++ vs.drop (o + ws.length))) := by
  rw [Reps.length h']
  exact Reps.append (Reps.take o h) (Reps.append h' (Reps.drop _ h))
theorem take_splice {α : Type} (vs ws : List α) (o m : Nat) (h : o + ws.length ≤ m) (hm : m ≤ vs.length) :
    (vs.take o ++ (ws ++ vs.drop (o + ws.length))).take m = (vs.take m).take o ++ (ws ++ (vs.take m).drop (o + ws.length)) := by
  have h1 : (vs.take o).length = o := by simp; omega
  have h2 : (vs.take o).take m = vs.take o := List.take_of_length_le (by omega)
  have h3 : ws.take (m - o) = ws := List.take_of_length_le (by omega)
  have h4 : (vs.take m).take o = vs.take o := by rw [List.take_take, Nat.min_eq_left (by omega)]
  rw [List.take_append, h1, List.take_append, h2, h3, h4, List.drop_take, Nat.sub_sub]
theorem flatten_length {α : Type} {sz : Nat} : ∀ {es : List (List α)}, (∀ e ∈ es, e.length = sz) → es.flatten.length = es.length * sz
  | [], _ => by simp
  | e :: es, h => by
    rw [List.flatten_cons, List.length_append, h e (by simp), flatten_length (fun e' h' => h e' (List.mem_cons_of_mem _ h')), List.length_cons, Nat.add_mul]
    omega
theorem flatten_set {α : Type} {sz : Nat} : ∀ {es : List (List α)} {i off : Nat} {cs us : List α}, (∀ e ∈ es, e.length = sz) → es[i]? = some cs → off + us.length ≤ sz →
    (es.set i (cs.take off ++ (us ++ cs.drop (off + us.length)))).flatten = es.flatten.take (i * sz + off) ++ (us ++ es.flatten.drop (i * sz + off + us.length))
  | [], _, _, _, _, _, h, _ => by simp at h
  | e :: es, 0, off, cs, us, hs, h, hl => by
    simp at h
    subst h
    have he := hs e (by simp)
    rw [List.set_cons_zero, List.flatten_cons, List.flatten_cons, Nat.zero_mul, Nat.zero_add, List.take_append_of_le_length (by omega), List.drop_append_of_le_length (by omega)]
    simp
  | e :: es, i + 1, off, cs, us, hs, h, hl => by
    have he := hs e (by simp)
    have ih := flatten_set (fun e' h' => hs e' (List.mem_cons_of_mem _ h')) (i := i) (off := off) (cs := cs) (us := us) (by simpa using h) hl
    have h1 : e.take ((i + 1) * sz + off) = e := List.take_of_length_le (by rw [Nat.add_mul]; omega)
    have h2 : e.drop ((i + 1) * sz + off + us.length) = [] := List.drop_eq_nil_of_le (by rw [Nat.add_mul]; omega)
    have h3 : (i + 1) * sz + off - e.length = i * sz + off := by rw [Nat.add_mul]; omega
    have h4 : (i + 1) * sz + off + us.length - e.length = i * sz + off + us.length := by rw [Nat.add_mul]; omega
    rw [List.set_cons_succ, List.flatten_cons, List.flatten_cons, ih, List.take_append, List.drop_append, h1, h2, h3, h4, List.append_assoc, List.nil_append]

theorem allLeaf_splice {cs us : List AV} {a b : Nat} (h : allLeaf cs = true) (h' : allLeaf us = true) : allLeaf (cs.take a ++ (us ++ cs.drop b)) = true := by
  rw [allLeaf_iff] at *
  intro c hc
  simp only [List.mem_append] at hc
  rcases hc with hc | hc | hc
  · exact h c (List.mem_of_mem_take hc)
  · exact h' c hc
  · exact h c (List.mem_of_mem_drop hc)
theorem cellsOf_leaf {v : AV} {us : List AV} (h : cellsOf v = some us) : allLeaf us = true := by
  cases v <;> simp only [cellsOf] at h
  case agg cs =>
    obtain ⟨h1, h2⟩ := iteO_none h
    injection h2 with h2
    rw [← h2]; exact h1
  all_goals first | (injection h with h; subst h; rfl) | cases h
structure Moved (g g' : Ghost) (σ σ' : Store) (w' : World) : Prop where
  ext : Ext g g' σ.length
  inv : Inv g' σ' w'
  len : σ.length ≤ σ'.length

theorem set_other {σ : Store} {id : Nat} {o : AObj} (j : Nat) (hj : j ≠ id) : (σ.set id o)[j]? = σ[j]? := by rw [List.getElem?_set_ne (by omega)]

theorem store_sound {E : Env} {g : Ghost} {σ σ' : Store} {w : World} (hty : ∀ t i, E.ty t = some i → TyOk E.P t i) (hI : Inv g σ w) {t : Nat} {a v : AV} {addr val : Value}
    (h : aStore E σ t a v = some σ') (ha : Rep g a σ.length addr) (hv : Rep g v σ.length val) :
    ∃ g' w', (Instr.storeAt t addr val).run E.P w = .ok () w' ∧ Moved g g' σ σ' w' := by
  obtain ⟨ti, ht, h⟩ := bindO_eq h
  have hT := hty t ti ht
  cases a with
  | ptr id off =>
    obtain ⟨us, hu, h⟩ := bindO_eq h
    obtain ⟨hsz, h⟩ := iteO_none h
    have hsz := of_decide_eq_true hsz
    obtain ⟨cs, hc, h⟩ := bindO_eq h
    obtain ⟨cs', hp, h⟩ := bindO_eq h
    injection h with h
    subst h
    have hc := objVar_eq hc
    obtain ⟨hle, rfl⟩ := putAt_eq hp
    obtain ⟨hid, rfl⟩ := ha
    obtain ⟨vs, tt, hh, hr⟩ := hI.objs id _ hc
    obtain ⟨hur, hone⟩ := cellsOf_rep hu hv
    have hul := Reps.length hur
    have hvl := Reps.length hr
    have hb := hI.sep id _ _ hc rfl
    simp at hul hvl
    refine ⟨g, _, store_run hT hh hone (by omega) (by omega), Ext.refl g _, ?_, by simp⟩
    refine hI.change id (Ext.refl g _) (by simp) (fun j hj => set_other j hj) (fun _ _ => rfl) (fun k _ hk => setCells_other _ _ _ _ _ fun e => hk _ hc (by rw [e]; rfl)) (setCells_below (Nat.zero_le _) _ _ _)
      (by rw [setCells_size]; exact Nat.le_refl _) (fun _ _ _ h => .inl h) (fun o ho => ?_)
    rw [List.getElem?_set_self hid] at ho
    injection ho with ho
    subst ho
    refine ⟨⟨_, tt, setCells_heap _ _ _ _ _ _ _ hh (by simp; omega), ?_⟩, fun b hb' => ?_⟩
    · simpa using Reps.splice off hr hur
    · refine ⟨.inr ⟨_, hc, hb'⟩, ?_, ?_⟩
      · rw [setCells_size]; simp [owned] at hb'; subst hb'; exact hb.2.1
      · simp [owned] at hb'; subst hb'; exact hb.2.2
  | rptr id ver sz i off =>
    obtain ⟨q, hq, h⟩ := bindO_eq h
    obtain ⟨us, hu, h⟩ := bindO_eq h
    obtain ⟨hsz, h⟩ := iteO_none h
    have hsz := of_decide_eq_true hsz
    obtain ⟨p, hc, h⟩ := bindO_eq h
    obtain ⟨hsz', h⟩ := iteO_none h
    have hsz' := of_decide_eq_true hsz'
    obtain ⟨cs, hi, h⟩ := bindO_eq h
    obtain ⟨cs', hp, h⟩ := bindO_eq h
    injection h with h
    subst h
    have hc := cur_eq hc
    obtain ⟨hle, rfl⟩ := putAt_eq hp
    obtain ⟨g1, f1, r1⟩ := freeze_sound hI (Nat.le_refl _) hq hv
    obtain ⟨hid, b, len, c, hhd, rfl⟩ := ha
    rw [← f1.hd] at hhd
    have hI1 := f1.inv
    obtain ⟨⟨a, cap, hh, hrow⟩, hs, hfresh⟩ := hI1.objs id _ hc
    rw [hhd] at hh
    injection hh with hh
    injection hh with ha hlen hcap
    have hcs := (hs cs (List.mem_of_getElem? hi)).1
    have hcl := (hs cs (List.mem_of_getElem? hi)).2
    rcases hrow with ⟨hnil, _⟩ | ⟨hcpos, hl, b', vs, tt, ha', hheap, hszv, hreps⟩
    · rw [hnil] at hi; simp at hi
    rw [← ha] at ha'
    injection ha' with ha'
    injection ha' with hbb
    subst hbb
    have hown : owned g1 id (.row p.1 ver p.2) = some b := by simp only [owned, rowBlock, hhd]; rw [if_neg (by omega)]
    have hb := hI1.sep id _ b hc hown
    obtain ⟨hur, hone⟩ := cellsOf_rep hu r1
    have hul := Reps.length hur
    simp at hul
    have hil : i < p.2.length := (List.getElem?_eq_some_iff.1 hi).1
    have hfl := flatten_length (lengths hs)
    have hrl := Reps.length hreps
    rw [hfl] at hrl
    have hcapsz : p.2.length * p.1 ≤ vs.size := Nat.le_trans (Nat.mul_le_mul_right _ hl) hszv
    have hpos : i * p.1 + p.1 ≤ p.2.length * p.1 := by
      have := Nat.mul_le_mul_right p.1 (show i + 1 ≤ p.2.length from hil)
      rw [Nat.add_mul, Nat.one_mul] at this; exact this
    have hin : i * p.1 + off + us.length ≤ p.2.length * p.1 := by omega
    refine ⟨g1, _, store_run hT (b := b) (off := i * sz + off) hheap hone (by omega) (by rw [← hsz']; omega), f1.ext, ?_, by simp [f1.len]⟩
    have hid1 : id < q.2.length := by rw [f1.len]; exact hid
    refine hI1.change id (Ext.refl g1 _) (by simp) (fun j hj => set_other j hj) (fun _ _ => rfl) (fun k _ hk => setCells_other _ _ _ _ _ fun e => hk _ hc (by rw [e]; exact hown)) (setCells_below (Nat.zero_le _) _ _ _)
      (by rw [setCells_size]; exact Nat.le_refl _) (fun _ _ _ h => .inl h) (fun o ho => ?_)
    rw [List.getElem?_set_self hid1] at ho
    injection ho with ho
    subst ho
    subst hsz'
    refine ⟨⟨⟨a, cap, ?_, .inr ⟨hcpos, by simpa using hl, b, _, tt, ha.symm, setCells_heap _ _ _ _ _ _ _ hheap (by simp; omega), ?_, ?_⟩⟩, ?_, hfresh⟩, fun b' hb' => ?_⟩
    · rw [hhd, ← ha, hlen, hcap]; simp
    · simp
      omega
    · rw [flatten_set (lengths hs) hi (by omega)]
      have hsp := Reps.splice (i * p.1 + off) hreps hur

      simp only [List.length_set]
      rw [take_splice _ _ _ _ (by simp; omega) (by simp; omega)]
      exact hsp
    · intro e he
      rcases List.mem_or_eq_of_mem_set he with he | he
      · exact hs e he
      · rw [he]
        refine ⟨by simp; omega, allLeaf_splice hcl (cellsOf_leaf hu)⟩
    · have : owned g1 id (.row p.1 ver p.2) = some b' := by simpa [owned] using hb'
      rw [hown] at this
      injection this with this
      subst this
      refine ⟨.inr ⟨_, hc, hown⟩, ?_, hb.2.2⟩
      rw [setCells_size]; exact hb.2.1
  | _ => simp [aStoreV] at h
end Go.Abs
namespace Go.Abs
open Go.RowKit
variable {E : Env} {g : Ghost} {σ : Store} {w : World}

theorem tkStruct_eq {k : TK} {fs : List (Nat × Nat)} (h : tkStruct k = some fs) : k = .struct fs := by
  cases k <;> simp [tkStruct] at h; rw [h]
theorem tkSlice_eq {k : TK} {e : Nat} (h : tkSlice k = some e) : k = .slice e := by
  cases k <;> simp [tkSlice] at h; rw [h]
theorem tkMap_eq {k : TK} {e : Nat × Nat} (h : tkMap k = some e) : k = .map e.1 e.2 := by
  cases k <;> simp [tkMap] at h; rw [← h]
theorem desc_struct {d : TypeDesc} {gs : List (Nat × Nat)} (h : descOk d (.struct gs)) : ∃ fs, d = .struct fs ∧ fs.toList.map (fun f => (f.type, f.offset)) = gs := by
  cases d <;> simp [descOk] at h; exact ⟨_, rfl, h⟩
theorem desc_slice {d : TypeDesc} {e : Nat} (h : descOk d (.slice e)) : d = .slice e := by
  cases d <;> simp [descOk] at h; rw [h]
theorem desc_array {d : TypeDesc} {n e : Nat} (h : descOk d (.array n e)) : d = .array n e := by
  cases d <;> simp [descOk] at h; rw [h.1, h.2]
theorem desc_map {d : TypeDesc} {k e : Nat} (h : descOk d (.map k e)) : d = .map k e := by
  cases d <;> simp [descOk] at h; rw [h.1, h.2]
theorem desc_int {d : TypeDesc} {k : IntKind} (h : descOk d (.int k)) : d = .int k := by
  cases d <;> simp [descOk] at h; rw [h]
theorem desc_string {d : TypeDesc} (h : descOk d .string) : d = .string := by
  cases d <;> simp [descOk] at h; rfl
theorem desc_bool {d : TypeDesc} (h : descOk d .bool) : d = .bool := by
  cases d <;> simp [descOk] at h; rfl

theorem asI_rep {x : AV} {i : Int} {n : Nat} {v : Value} (h : asI x = some i) (hr : Rep g x n v) : ∃ k, v = .int k i := by
  cases x <;> simp [asI] at h
  subst h; exact ⟨_, hr⟩
theorem inB_eq {i : Int} {n : Nat} (h : inB i n = true) : 0 ≤ i ∧ i < (n : Int) := of_decide_eq_true h
theorem inS_eq {l h : Int} {n : Nat} (e : inS l h n = true) : 0 ≤ l ∧ l ≤ h ∧ h ≤ (n : Int) := of_decide_eq_true e

theorem fieldAddr_sound (hty : ∀ t i, E.ty t = some i → TyOk E.P t i) {s f : Nat} {a v : AV} {n : Nat} {addr : Value} (h : aFieldAddr E s a f = some v) (ha : Rep g a n addr) :
    ∃ u, (Instr.fieldAt s addr f).run E.P w = .ok u w ∧ Rep g v n u := by
  obtain ⟨ti, ht, h⟩ := bindO_eq h
  obtain ⟨fs, hfs, h⟩ := bindO_eq h
  obtain ⟨fo, hfo, h⟩ := bindO_eq h
  obtain ⟨fi, hfi, h⟩ := bindO_eq h
  have hT := hty s ti ht
  have hF := hty _ fi hfi
  obtain ⟨d, hd1, hd2⟩ := hT.und
  rw [tkStruct_eq hfs] at hd2
  obtain ⟨ffs, rfl, hm⟩ := desc_struct hd2
  have hz : fi.size ≠ 0 := by
    intro hz
    rw [hz] at h; simp [iteO] at h
  have h : aFieldAt fo.2 a = some v := by
    rcases iteO_eq h with ⟨_, h⟩ | ⟨_, h⟩
    · cases h
    · exact h
  rw [← hm, List.getElem?_map] at hfo
  obtain ⟨fl, hfl, hfe⟩ := Option.map_eq_some_iff.1 hfo
  have hfl' : ffs[f]? = some fl := by simpa using hfl
  have hso := run_sizeOf' hF w
  have h1 : fo.1 = fl.type := by rw [← hfe]
  have h2 : fo.2 = fl.offset := by rw [← hfe]
  rw [h1] at hso
  have hrun : ∀ ad, (Instr.fieldAt s (.pointer (some ad)) f).run E.P w = .ok (.pointer (some (ad.add fo.2))) w := fun ad => by
    simp [Instr.fieldAt, run_underlying hd1, hfl', Instr.sureAddr, fieldPlace, hso, hz, h2]
  cases a with
  | ptr id off =>
    obtain ⟨hid, rfl⟩ := ha
    injection h with h
    subst h
    exact ⟨_, hrun _, hid, by rw [Addr.add_mid]⟩
  | cref cs =>
    obtain ⟨b, o, rfl, hr⟩ := ha
    injection h with h
    subst h
    exact ⟨_, hrun _, b, o + fo.2, by rw [Addr.add_mid], RepC.drop _ hr⟩
  | rptr id ver sz i off =>
    obtain ⟨hid, b, len, c, hh, rfl⟩ := ha
    injection h with h
    subst h
    exact ⟨_, hrun _, hid, b, len, c, hh, by rw [Addr.add_mid, Nat.add_assoc]⟩
  | _ => simp [aFieldAt] at h

theorem part_sound {t : Nat} {ti : TInfo} (hT : TyOk E.P t ti) {cs : List AV} {off n : Nat} {v : AV} {vs : List Value} (h : partOf ti cs off = some v) (hr : Reps g cs n vs) :
    ∃ u, (part t vs.toArray off).run E.P w = .ok u w ∧ Rep g v n u := by
  have hagg := run_isAgg' hT w
  have hso := run_sizeOf' hT w
  simp only [partOf] at h
  cases hk : ti.k.agg with
  | true =>
    rw [hk] at h hagg
    simp only [partK] at h
    obtain ⟨hle, h⟩ := iteO_none h
    injection h with h
    subst h
    refine ⟨.agg ((vs.drop off).take ti.size).toArray, ?_, _, rfl, Reps.take _ (Reps.drop _ hr)⟩
    simp [part, hagg, hso]
  | false =>
    rw [hk] at h hagg
    simp only [partK] at h
    obtain ⟨u, h1, h2⟩ := Reps.get hr h
    exact ⟨u, by simp [part, hagg, h1], h2⟩

theorem field_sound (hty : ∀ t i, E.ty t = some i → TyOk E.P t i) {t f : Nat} {x v : AV} {n : Nat} {val : Value} (h : aField E t x f = some v) (hx : Rep g x n val) :
    ∃ u, (Instr.field t val f).run E.P w = .ok u w ∧ Rep g v n u := by
  obtain ⟨ti, ht, h⟩ := bindO_eq h
  obtain ⟨fs, hfs, h⟩ := bindO_eq h
  obtain ⟨fo, hfo, h⟩ := bindO_eq h
  obtain ⟨fi, hfi, h⟩ := bindO_eq h
  have hT := hty t ti ht
  have hF := hty _ fi hfi
  obtain ⟨d, hd1, hd2⟩ := hT.und
  rw [tkStruct_eq hfs] at hd2
  obtain ⟨ffs, rfl, hm⟩ := desc_struct hd2
  rw [← hm, List.getElem?_map] at hfo
  obtain ⟨fl, hfl, hfe⟩ := Option.map_eq_some_iff.1 hfo
  have hfl' : ffs[f]? = some fl := by simpa using hfl
  have h1 : fo.1 = fl.type := by rw [← hfe]
  have h2 : fo.2 = fl.offset := by rw [← hfe]
  cases x with
  | agg cs =>
    obtain ⟨vs, rfl, hr⟩ := hx
    have h : partOf fi cs fo.2 = some v := h
    obtain ⟨u, hu, hr⟩ := part_sound (w := w) hF h hr
    refine ⟨u, ?_, hr⟩
    rw [h1, h2] at hu
    simp [Instr.field, run_underlying hd1, hfl', asAgg, hu]
  | _ => simp [aFieldV] at h

theorem indexAddr_sound (hty : ∀ t i, E.ty t = some i → TyOk E.P t i) (hI : Inv g σ w) {t : Nat} {x i v : AV} {n : Nat} {xv iv : Value} (h : aIndexAddr E σ t x i = some v)
    (hx : Rep g x n xv) (hi : Rep g i n iv) : ∃ u, (Instr.indexAt t xv iv).run E.P w = .ok u w ∧ Rep g v n u := by
  obtain ⟨ti, ht, h⟩ := bindO_eq h
  obtain ⟨j, hj, h⟩ := bindO_eq h
  have hT := hty t ti ht
  obtain ⟨d, hd1, hd2⟩ := hT.und
  obtain ⟨k, rfl⟩ := asI_rep hj hi
  cases hk : ti.k with
  | slice e =>
    rw [hk] at h hd2
    obtain ⟨ei, hei, h⟩ := bindO_eq h
    have hE := run_sizeOf' (hty e ei hei) w
    have hd := desc_slice hd2
    subst hd
    cases x with
    | sl f sz es =>
      obtain ⟨hsz, h⟩ := iteO_none h
      obtain ⟨hb, h⟩ := iteO_none h
      injection h with h
      subst h
      have hsz := of_decide_eq_true hsz
      have hb := inB_eq hb
      obtain ⟨a, cap, rfl, _, _, hr⟩ := hx
      rcases hr with rfl | ⟨b, o, rfl, hr⟩
      · simp at hb; omega
      · have hlt : j.toNat < es.length := by omega
        have hget : es[j.toNat]? = some (es.getD j.toNat []) := by
          rw [List.getElem?_eq_getElem hlt, List.getD_eq_getElem?_getD, List.getElem?_eq_getElem hlt]; rfl
        have := (RepE.get hr hget).1
        refine ⟨.pointer (some ⟨b, o + j.toNat * sz, none⟩), ?_, b, _, rfl, this⟩
        simp [Instr.indexAt, asIntOf, run_underlying hd1, hE, hb, hsz, Addr.add_mid]
    | rs id ver =>
      obtain ⟨p, hc, h⟩ := bindO_eq h
      obtain ⟨hsz, h⟩ := iteO_none h
      obtain ⟨hb, h⟩ := iteO_none h
      injection h with h
      subst h
      have hsz := of_decide_eq_true hsz
      have hb := inB_eq hb
      obtain ⟨hid, hh, _⟩ := hx
      obtain ⟨⟨a, cap, hh', hrow⟩, hs, _⟩ := hI.objs id _ (cur_eq hc)
      rw [hh] at hh'
      injection hh' with hh'
      subst hh'
      rcases hrow with ⟨hnil, _⟩ | ⟨hcpos, hl, b, vs, tt, rfl, hheap, hszv, hreps⟩
      · rw [hnil] at hb; simp at hb; omega
      · refine ⟨.pointer (some ⟨b, j.toNat * p.1, none⟩), ?_, hid, b, _, _, hh, by simp⟩
        simp [Instr.indexAt, asIntOf, run_underlying hd1, hE, hb, hsz, Addr.add_mid]
    | _ => simp [aAtSlice] at h
  | array m e =>
    rw [hk] at h hd2
    obtain ⟨ei, hei, h⟩ := bindO_eq h
    have hE := run_sizeOf' (hty e ei hei) w
    have hd := desc_array hd2
    subst hd
    cases x with
    | ptr id off =>
      obtain ⟨hb, h⟩ := iteO_none h
      injection h with h
      subst h
      have hb := inB_eq hb
      obtain ⟨hid, rfl⟩ := hx
      refine ⟨_, ?_, hid, rfl⟩
      simp [Instr.indexAt, asIntOf, run_underlying hd1, hE, hb, Instr.sureAddr, Addr.add_mid]
    | _ => simp [aAtArray] at h
  | _ => rw [hk] at h; simp [aIndexAddrK] at h

theorem index_sound (hty : ∀ t i, E.ty t = some i → TyOk E.P t i) {t : Nat} {x i v : AV} {n : Nat} {xv iv : Value} (h : aIndex E t x i = some v)
    (hx : Rep g x n xv) (hi : Rep g i n iv) : ∃ u, (Instr.index t xv iv).run E.P w = .ok u w ∧ Rep g v n u := by
  obtain ⟨ti, ht, h⟩ := bindO_eq h
  obtain ⟨j, hj, h⟩ := bindO_eq h
  have hT := hty t ti ht
  obtain ⟨d, hd1, hd2⟩ := hT.und
  obtain ⟨k, rfl⟩ := asI_rep hj hi
  cases hk : ti.k with
  | string =>
    rw [hk] at h hd2
    have hd := desc_string hd2
    subst hd
    cases x with
    | str s =>
      obtain ⟨hb, h⟩ := iteO_none h
      injection h with h
      subst h
      have hb := inB_eq hb
      have hx : xv = .string s := hx
      subst hx
      have hlt : j.toNat < s.size := by omega
      refine ⟨.int .u8 (bt s j), ?_, rfl⟩
      have hget : s[j.toNat]? = some (s.data.toList.getD j.toNat 0) := by
        rw [getElem?_pos s j.toNat hlt]
        simp only [List.getD_eq_getElem?_getD]
        rw [List.getElem?_eq_getElem (by simpa using hlt)]
        rfl
      simp [Instr.index, asIntOf, run_underlying hd1, hb.1, hget, bt]
    | _ => simp [aIndexK] at h
  | array m e =>
    rw [hk] at h hd2
    have hd := desc_array hd2
    subst hd
    cases x with
    | agg cs =>
      obtain ⟨ei, hei, h⟩ := bindO_eq h
      have hE := run_sizeOf' (hty e ei hei) w
      obtain ⟨hb, h⟩ := iteO_none h
      have hb := inB_eq hb
      obtain ⟨vs, rfl, hr⟩ := hx
      obtain ⟨u, hu, hr⟩ := part_sound (w := w) (hty e ei hei) h hr
      refine ⟨u, ?_, hr⟩
      simp [Instr.index, asIntOf, run_underlying hd1, hb, hE, hu]
    | _ => simp [aIndexK] at h
  | _ => rw [hk] at h; simp [aIndexK] at h
end Go.Abs
namespace Go.Abs
open Go.RowKit
variable {E : Env} {g : Ghost} {σ : Store} {w : World}

def EqOk (P : Program) (t : Nat) (ss : List TK) : Prop :=
  ∀ (g : Ghost) (n : Nat) (xs ys : List AV) (vs us : List Value) (r : Bool) (w : World), eqCells ss xs ys = some r → Reps g xs n vs → Reps g ys n us →
    (Op.equal t (.agg vs.toArray) (.agg us.toArray)).run P w = .ok r w ∧ P.eqGuardType P.depth t = false

theorem arith_sound {P : Program} {op : BinOp} {t : Nat} {k k' : IntKind} {x y : Operand} {a b : Int} {v : AV} (hk : (BinOp.shifts op || decide (k = k')) = true) (h : aArith op k a b = some v) :
    ∃ u, (do eqGuard op t x y (.int k a) (.int k' b); binOp op t (.int k a) (.int k' b)).run P w = .ok u w ∧ Rep g v 0 u := by
  have hg : (eqGuard op t x y (.int k a) (.int k' b)).run P w = .ok () w := by
    unfold eqGuard
    split <;> rfl
  cases op with
  | shl =>
    simp only [aArith] at h
    rcases iteO_eq h with ⟨_, h⟩ | ⟨hb, h⟩
    · cases h
    · injection h with h; subst h
      have hb : ¬ b < 0 := by simpa using hb
      refine ⟨_, ?_, rfl⟩
      rw [Sem.run_bind, hg]
      simp only [Result.andThen_ok, binOp, Op.shift]
      rw [if_neg hb]; rfl
  | shr =>
    simp only [aArith] at h
    rcases iteO_eq h with ⟨_, h⟩ | ⟨hb, h⟩
    · cases h
    · injection h with h; subst h
      have hb : ¬ b < 0 := by simpa using hb
      refine ⟨_, ?_, rfl⟩
      rw [Sem.run_bind, hg]
      simp only [Result.andThen_ok, binOp, Op.shift]
      rw [if_neg hb]; rfl
  | quo =>
    have hk : k = k' := by simpa [BinOp.shifts] using hk
    subst hk
    simp only [aArith] at h
    rcases iteO_eq h with ⟨_, h⟩ | ⟨hb, h⟩
    · cases h
    · injection h with h; subst h
      have hb : ¬ b = 0 := by simpa using hb
      refine ⟨_, ?_, rfl⟩
      rw [Sem.run_bind, hg]
      simp [binOp, Op.intDiv, hb]
  | rem =>
    have hk : k = k' := by simpa [BinOp.shifts] using hk
    subst hk
    simp only [aArith] at h
    rcases iteO_eq h with ⟨_, h⟩ | ⟨hb, h⟩
    · cases h
    · injection h with h; subst h
      have hb : ¬ b = 0 := by simpa using hb
      refine ⟨_, ?_, rfl⟩
      rw [Sem.run_bind, hg]
      simp [binOp, Op.intDiv, hb]
  | _ =>
    have hk : k = k' := by simpa [BinOp.shifts] using hk
    subst hk
    simp only [aArith] at h
    injection h with h
    subst h
    refine ⟨_, ?_, rfl⟩
    rw [Sem.run_bind, hg]
    simp [binOp, Op.intArith, Op.intBits, Op.intCmp]

theorem str_sound {P : Program} {op : BinOp} {t : Nat} {x y : Operand} {a b : ByteArray} {v : AV} (h : aStr op a b = some v) :
    ∃ u, (do eqGuard op t x y (.string a) (.string b); binOp op t (.string a) (.string b)).run P w = .ok u w ∧ Rep g v 0 u := by
  have hg : (eqGuard op t x y (.string a) (.string b)).run P w = .ok () w := by
    unfold eqGuard
    split <;> rfl
  cases op <;> simp only [aStr] at h
  case add =>
    obtain ⟨hb, h⟩ := iteO_none h
    injection h with h; subst h
    have hb := of_decide_eq_true hb
    refine ⟨_, ?_, rfl⟩
    rw [Sem.run_bind, hg]
    have : ¬ (((a.size + b.size : Nat) : Int) > IntKind.i64.max) := by simp [IntKind.max, IntKind.signed, IntKind.bits]; omega
    simp only [Result.andThen_ok, binOp, Op.stringOp]
    rw [if_neg this]; rfl
  all_goals first
    | (injection h with h; subst h; refine ⟨_, ?_, rfl⟩; rw [Sem.run_bind, hg]; rfl)
    | cases h

theorem bin_sound (hty : ∀ t i, E.ty t = some i → TyOk E.P t i) (heq : ∀ t ss, E.eqt t = some ss → EqOk E.P t ss) {op : BinOp} {t : Nat} {x y : Operand} {a b v : AV} {n : Nat} {av bv : Value}
    (h : aBin E op t a b = some v) (ha : Rep g a n av) (hb : Rep g b n bv) :
    ∃ u, (do eqGuard op t x y av bv; binOp op t av bv).run E.P w = .ok u w ∧ Rep g v n u := by
  have up : ∀ {v : AV} {u : Value}, Rep g v 0 u → Rep g v n u := fun h => Rep.mono (Ext.refl g n) _ 0 n _ (Nat.zero_le _) (Nat.zero_le _) h
  cases a with
  | int k i =>
    cases b with
    | int k' j =>
      obtain ⟨hk, h⟩ := iteO_none h
      have ha : av = .int k i := ha
      have hb : bv = .int k' j := hb
      subst ha; subst hb
      obtain ⟨u, h1, h2⟩ := arith_sound (P := E.P) (t := t) (x := x) (y := y) (g := g) (w := w) hk h
      exact ⟨u, h1, up h2⟩
    | _ => simp [aBin] at h
  | str s =>
    cases b with
    | str r =>
      have ha : av = .string s := ha
      have hb : bv = .string r := hb
      subst ha; subst hb
      obtain ⟨u, h1, h2⟩ := str_sound (P := E.P) (t := t) (x := x) (y := y) (g := g) (w := w) (show aStr op s r = some v from h)
      exact ⟨u, h1, up h2⟩
    | _ => simp [aBin] at h
  | bool s =>
    cases b with
    | bool r =>
      have ha : av = .bool s := ha
      have hb : bv = .bool r := hb
      subst ha; subst hb
      obtain ⟨ti, ht, h⟩ := bindO_eq h
      obtain ⟨_, hk, h⟩ := bindO_eq h
      obtain ⟨d, hd1, hd2⟩ := (hty t ti ht).und
      have hk : ti.k = .bool := by cases hk' : ti.k <;> simp [hk', tkBool] at hk; rfl
      rw [hk] at hd2
      have hd := desc_bool hd2
      subst hd
      have hg : (eqGuard op t x y (.bool s) (.bool r)).run E.P w = .ok () w := by
        unfold eqGuard
        split <;> rfl
      have hq : (Op.equal t (.bool s) (.bool r)).run E.P w = .ok (s == r) w := by
        show (Op.equalIn (9999 + 1) t (.bool s) (.bool r)).run E.P w = _
        unfold Op.equalIn
        rw [Sem.run_bind, run_underlying hd1 w]
        rfl
      cases op <;> simp [eqResult] at h <;> subst h <;> refine ⟨_, ?_, rfl⟩ <;> rw [Sem.run_bind, hg] <;> simp [binOp, hq]
    | _ => simp [aBin] at h
  | agg xs =>
    cases b with
    | agg ys =>
      obtain ⟨ss, hs, h⟩ := bindO_eq h
      obtain ⟨r, hr, h⟩ := bindO_eq h
      obtain ⟨vs, rfl, hvs⟩ := ha
      obtain ⟨us, rfl, hus⟩ := hb
      obtain ⟨hq, hgd⟩ := heq t ss hs g n xs ys vs us r w hr hvs hus
      have hg : (eqGuard op t x y (.agg vs.toArray) (.agg us.toArray)).run E.P w = .ok () w := by
        clear h
        cases op <;> first | rfl | simp [eqGuard, hgd]
      cases op <;> simp [eqResult] at h <;> subst h <;> refine ⟨_, ?_, rfl⟩ <;> rw [Sem.run_bind, hg] <;> simp [binOp, hq]
    | _ => simp [aBin] at h
  | _ => simp [aBin] at h

theorem un_sound {P : Program} {op : UnOp} {x v : AV} {n : Nat} {xv : Value} (h : aUn op x = some v) (hx : Rep g x n xv) : ∃ u, (Op.unary op xv).run P w = .ok u w ∧ Rep g v n u := by
  cases op <;> cases x <;> simp [aUn] at h
  · subst h; have hx : xv = _ := hx; subst hx
    refine ⟨_, rfl, ?_⟩
    simp [Rep]
  · subst h; have hx : xv = _ := hx; subst hx
    exact ⟨_, rfl, rfl⟩

theorem conv_sound (hty : ∀ t i, E.ty t = some i → TyOk E.P t i) {s d : Nat} {x v : AV} {n : Nat} {xv : Value} (h : aConvert E s d x = some v) (hx : Rep g x n xv) :
    ∃ u, (convert s d xv).run E.P w = .ok u w ∧ Rep g v n u := by
  obtain ⟨si, hs, h⟩ := bindO_eq h
  obtain ⟨di, hd, h⟩ := bindO_eq h
  obtain ⟨ds, hs1, hs2⟩ := (hty s si hs).und
  obtain ⟨dd, hd1, hd2⟩ := (hty d di hd).und
  cases hsk : si.k <;> cases hdk : di.k <;> rw [hsk, hdk] at h <;> cases x <;> simp [aConvertK] at h
  · subst h
    rw [hsk] at hs2; rw [hdk] at hd2
    have := desc_int hs2; subst this
    have := desc_int hd2; subst this
    have hx : xv = _ := hx; subst hx
    refine ⟨_, ?_, rfl⟩
    simp [convert, run_underlying hs1, run_underlying hd1, Conv.intToInt]
  · subst h
    rw [hsk] at hs2; rw [hdk] at hd2
    have := desc_string hs2; subst this
    have := desc_string hd2; subst this
    have hx : xv = _ := hx; subst hx
    refine ⟨_, ?_, rfl⟩
    simp [convert, run_underlying hs1, run_underlying hd1]
end Go.Abs
namespace Go.Abs
open Go.RowKit
variable {E : Env} {g : Ghost} {σ : Store} {w : World}

theorem Reps.flatten_one {g : Ghost} {sz n : Nat} {es : List (List AV)} {vs : List Value} (hs : ∀ e ∈ es, ElemOk sz e) (h : Reps g es.flatten n vs) : vs.all (·.oneCell') = true := by
  refine allLeaf_one (g := g) (n := n) (cs := es.flatten) ?_ h
  rw [allLeaf_iff]
  intro c hc
  obtain ⟨e, he, hc⟩ := List.mem_flatten.1 hc
  exact allLeaf_iff.1 (hs e he).2 c hc

/-- The cells of a slice that is given. -/
theorem src_cells {f : Bool} {sx n : Nat} {xs : List (List AV)} {xv : Value} (hx : Rep g (.sl f sx xs) n xv) :
    ∃ news ax cx, xv = .slice ax xs.length cx ∧ Reps g xs.flatten 0 news ∧ (xs ≠ [] → news.length = xs.length * sx) ∧ news.all (·.oneCell') = true ∧ (∀ e ∈ xs, ElemOk sx e) ∧
      ∀ (P : Program) (w' : World), (∀ b o v, g.C b o = some v → w'.cell? ⟨b, o, none⟩ = some v) → (Builtin.firstCells sx xs.length xv).run P w' = .ok news.toArray w' := by
  obtain ⟨a, cap, rfl, hl, _, hr⟩ := hx
  rcases hr with rfl | ⟨b, o, rfl, hr⟩
  · refine ⟨[], a, cap, rfl, rfl, by simp, rfl, by simp, fun P w' _ => ?_⟩
    cases a <;> simp [Builtin.firstCells, loadCells, loadCellsFrom]
  · have hs := RepE.size hr
    obtain ⟨news, h1, h2⟩ := RepC.reps (RepE.reps hr)
    have hlen : news.length = xs.length * sx := by rw [Reps.length h1, flatten_length (lengths hs)]
    refine ⟨news, _, cap, rfl, h1, fun _ => hlen, Reps.flatten_one hs h1, hs, fun P w' hw' => ?_⟩
    refine run_firstCells_some w' sx xs.length ⟨b, o, none⟩ xs.length cap news hlen fun j v hj => ?_
    rw [Addr.add_mid]
    exact hw' b (o + j) v (h2 j v hj)

theorem set_same {σ : Store} {id : Nat} {o o' : AObj} (h : σ[id]? = some o) : (σ.set id o')[id]? = some o' := by
  rw [List.getElem?_set_self (List.getElem?_eq_some_iff.1 h).1]

/-- A new version of an owned slice. -/
def Ghost.ver (g : Ghost) (id ver : Nat) (v : Value) : Ghost := { g with hd := fun j k => if j = id ∧ k = ver then some v else g.hd j k }
theorem Ghost.ver_ext (g : Ghost) (id ver n : Nat) (v : Value) (h : g.hd id ver = none) : Ext g (g.ver id ver v) n := by
  refine ⟨fun _ _ _ hv => hv, fun _ _ => rfl, fun j _ k u hu => ?_, Tie.refl _ _⟩
  simp only [Ghost.ver]
  rw [if_neg]
  · exact hu
  · rintro ⟨rfl, rfl⟩
    rw [h] at hu
    cases hu
theorem Ghost.ver_same (g : Ghost) (id ver : Nat) (v : Value) : (g.ver id ver v).hd id ver = some v := by simp [Ghost.ver]
theorem Ghost.ver_other (g : Ghost) (id ver : Nat) (v : Value) (j : Nat) (h : j ≠ id) : (g.ver id ver v).hd j = g.hd j := by
  funext k; simp [Ghost.ver, h]
theorem Ghost.ver_later (g : Ghost) (id ver : Nat) (v : Value) (k : Nat) (h : ver < k) : (g.ver id ver v).hd id k = g.hd id k := by
  simp only [Ghost.ver]; rw [if_neg]; rintro ⟨_, rfl⟩; omega

theorem append_run {P : Program} {t e : TypeId} {i : TypeInfo} {z : Value} (ty : TypeId) (ht : P.underlying t = some (.slice e)) (hi : P.info? e = some i) (hz : i.zero = some z)
    {a : Option Addr} {n cap : Nat} {ax : Option Addr} {m cx : Nat} {olds news : List Value}
    (hnew : ∀ w', w'.heap = w.heap → (Builtin.firstCells i.size m (.slice ax m cx)).run P w' = .ok news.toArray w')
    (hold : ∀ w', w'.heap = w.heap → (Builtin.firstCells i.size n (.slice a n cap)).run P w' = .ok olds.toArray w')
    (hg : cap < n + m) (h63 : n + m ≤ 140737488355328) (hb : (n + m) * i.bytes ≤ 140737488355328) :
    (Builtin.append_ #[t, t] ty #[.slice a n cap, .slice ax m cx]).run P w =
      .ok (.slice (some ⟨w.heap.size, 0, none⟩) (n + m) (grownCap w (n + m) cap e))
        (w.drew.alloc (.cells (olds ++ news ++ (Builtin.zeroCells z.cells (grownCap w (n + m) cap e - (n + m))).toList).toArray e)) := by
  have hn : ¬ (n + m ≤ cap) := by omega
  have h63' : ¬ (9223372036854775807 < ((n : Int) + (m : Int))) := by omega
  have h48' : ¬ (281474976710656 < Builtin.nextslicecap (n + m) cap * i.bytes) := by have := growslice_fits (old := cap) (by omega) hb; omega
  have hf := hnew w.drew rfl
  have hfo := hold w.drew rfl
  simp [Builtin.append_, run_underlying ht, sizeOf, typeInfo, zeroValue, hi, hz, Builtin.lenOf, hn, h63', h48', Question.forced, hf, hfo, newRow, grownCap]
  congr 2
  apply Array.ext'
  simp
theorem append_room {P : Program} {t e : TypeId} {i : TypeInfo} (ty : TypeId) (ht : P.underlying t = some (.slice e)) (hi : P.info? e = some i)
    {a : Option Addr} {n cap : Nat} {ax : Option Addr} {m cx : Nat} {news : List Value} {w' : World}
    (hnew : (Builtin.firstCells i.size m (.slice ax m cx)).run P w = .ok news.toArray w)
    (hst : (match a with | some ad => storeCells (ad.add (n * i.size)) news | none => pure ()).run P w = .ok () w') (hg : n + m ≤ cap) :
    (Builtin.append_ #[t, t] ty #[.slice a n cap, .slice ax m cx]).run P w = .ok (.slice a (n + m) cap) w' := by
  cases a with
  | none => simp at hst; subst hst; simp [Builtin.append_, run_underlying ht, sizeOf, typeInfo, hi, Builtin.lenOf, hg, hnew]
  | some ad => simp only at hst; simp [Builtin.append_, run_underlying ht, sizeOf, typeInfo, hi, Builtin.lenOf, hg, hnew, hst]

theorem zeroCells_size (z : Array Value) (n : Nat) : (Builtin.zeroCells z n).toList.length = n * z.size := by simp [Builtin.zeroCells]

theorem ElemOk.flatten_len {sz : Nat} {es : List (List AV)} (h : ∀ e ∈ es, ElemOk sz e) : es.flatten.length = es.length * sz := flatten_length (lengths h)

theorem fits_eq {n b : Nat} (h : fits n b = true) : n * b ≤ 140737488355328 ∧ n ≤ 140737488355328 := of_decide_eq_true h

/-- The header and the cells of a current owned slice. -/
theorem row_cells {sz : Nat} {es : List (List AV)} {a : Option Addr} {cap : Nat} (h : RowOk g w sz es a cap) (hs : ∀ e ∈ es, ElemOk sz e) :
    ∃ olds, Reps g es.flatten 0 olds ∧ olds.length = es.length * sz ∧ ∀ (P : Program) (w' : World), w'.heap = w.heap → (Builtin.firstCells sz es.length (.slice a es.length cap)).run P w' = .ok olds.toArray w' := by
  rcases h with ⟨rfl, rfl⟩ | ⟨hc, hl, b, vs, t, rfl, hh, hsz, hr⟩
  · refine ⟨[], rfl, by simp, fun P w' _ => ?_⟩
    cases a <;> simp [Builtin.firstCells, loadCells, loadCellsFrom]
  · have hlen := Reps.length hr
    rw [ElemOk.flatten_len hs] at hlen
    refine ⟨_, hr, hlen, fun P w' hw' => ?_⟩
    refine run_firstCells_some w' sz es.length ⟨b, 0, none⟩ es.length cap _ hlen fun j v hj => ?_
    rw [Addr.add_mid, Nat.zero_add]
    rw [List.getElem?_take] at hj
    split at hj
    · rw [cell_of_block (hw' ▸ hh)]; simpa using hj
    · cases hj

theorem append_rs (hty : ∀ t i, E.ty t = some i → TyOk E.P t i) (hI : Inv g σ w) {t e : Nat} {ei : TInfo} (ty : TypeId) (hse : E.P.underlying t = some (.slice e)) (hei : E.ty e = some ei)
    {id ver sz n : Nat} {es xs : List (List AV)} {f : Bool} {sv xv : Value} (hc : σ[id]? = some (.row sz ver es)) (hsz : sz = ei.size) (hfit : fits (es.length + xs.length) ei.bytes = true)
    (hs : g.hd id ver = some sv) (hx : Rep g (.sl f ei.size xs) n xv) :
    ∃ g' w' u, (Builtin.append_ #[t, t] ty #[sv, xv]).run E.P w = .ok u w' ∧ Moved g g' σ (σ.set id (.row sz (ver + 1) (es ++ xs))) w' ∧ g'.hd id (ver + 1) = some u ∧ u.oneCell' = true := by
  obtain ⟨ti, z, hinfo, hts, htb, htz, hzr, hz1, hzl, _⟩ := (hty e ei hei).info
  obtain ⟨hfb, hfn⟩ := fits_eq hfit
  obtain ⟨news, ax, cx, rfl, hnr, hnl, hn1, hxs, hnrun⟩ := src_cells hx
  obtain ⟨⟨a, cap, hh, hrow⟩, hes, hfresh⟩ := hI.objs id _ hc
  rw [hs] at hh
  injection hh with hh
  subst hh
  subst hsz
  have hall : ∀ e' ∈ es ++ xs, ElemOk ei.size e' := fun e' he' => by
    rcases List.mem_append.1 he' with h | h
    · exact hes e' h
    · exact hxs e' h
  have hCw : ∀ w' : World, w'.heap = w.heap → ∀ b o v, g.C b o = some v → w'.cell? ⟨b, o, none⟩ = some v := fun w' hw' b o v hv => by
    rw [World.cell?_of_block (w := w) (w' := w') (a := ⟨b, o, none⟩) (by rw [hw'])]
    exact hI.comm b o v hv
  have hnone := hfresh (ver + 1) (by omega)
  have hidlt : id < σ.length := (List.getElem?_eq_some_iff.1 hc).1
  have hnl' : news.length = xs.length * ei.size := by rw [Reps.length hnr, ElemOk.flatten_len hxs]
  have hown_old : ∀ b, owned g id (.row ei.size ver es) = some b → ¬ g.fixed b ∧ b < w.heap.size ∧ ∀ off, g.C b off = none := fun b hb => hI.sep id _ b hc hb
  by_cases hroom : es.length + xs.length ≤ cap
  · -- in place
    let u : Value := .slice a (es.length + xs.length) cap
    have he := g.ver_ext id (ver + 1) σ.length u hnone
    rcases hrow with ⟨hnil, hc0⟩ | ⟨hcpos, hl, b, vs, tt, ha, hheap, hszv, hreps⟩
    · -- nothing is there, nothing comes
      have hx0 : xs = [] := by
        have : xs.length = 0 := by omega
        exact List.eq_nil_of_length_eq_zero this
      subst hx0
      subst hnil
      have hn0 : news = [] := by have h2 : news.length = 0 := by simpa using hnl'
                                 exact List.eq_nil_of_length_eq_zero h2
      subst hn0
      refine ⟨g.ver id (ver + 1) u, w, u, ?_, ⟨he, ?_, by simp⟩, g.ver_same id (ver + 1) u, rfl⟩
      · refine append_room ty hse hinfo (by rw [hts]; exact hnrun E.P w (hCw w rfl)) ?_ hroom
        cases a <;> rfl
      · refine hI.change id he (by simp) (fun j hj => set_other j hj) (fun j hj => g.ver_other id _ u j hj) (fun _ _ _ => rfl) (Below.refl _ _) (Nat.le_refl _) (fun _ _ _ h => .inl h) (fun o ho => ?_)
        rw [set_same hc] at ho
        injection ho with ho
        subst ho
        refine ⟨⟨⟨a, cap, g.ver_same id (ver + 1) u, .inl ⟨rfl, hc0⟩⟩, hall, fun k hk => ?_⟩, fun b hb => ?_⟩
        · rw [g.ver_later id (ver + 1) u k hk]; exact hfresh k (by omega)
        · simp only [owned, rowBlock, g.ver_same id (ver + 1) u, u] at hb
          cases a <;> simp [hc0] at hb
    · have hown : owned g id (.row ei.size ver es) = some b := by simp only [owned, rowBlock, hs, ha]; rw [if_neg (by omega)]
      obtain ⟨hb1, hb2, hb3⟩ := hown_old b hown
      have hle : (es.length + xs.length) * ei.size ≤ vs.size := Nat.le_trans (Nat.mul_le_mul_right _ hroom) hszv
      have hle2 : es.length * ei.size + news.length ≤ vs.size := by rw [hnl', ← Nat.add_mul]; exact hle
      have hst := run_storeCells_cells (P := E.P) b (es.length * ei.size) news 0 w (fun j hj => by rw [cell_of_block hheap]; simp; omega) (fun j hj => by simp [World.frozen?, hheap])
        (fun v hv => by simpa using List.all_eq_true.1 hn1 v hv)
      refine ⟨g.ver id (ver + 1) u, w.setCells b (es.length * ei.size) news, u, ?_, ⟨he, ?_, by simp⟩, g.ver_same id (ver + 1) u, rfl⟩
      · refine append_room ty hse hinfo (by rw [hts]; exact hnrun E.P w (hCw w rfl)) ?_ hroom
        rw [ha]
        simp only [Addr.add_mid, Nat.zero_add]
        rw [hts]; exact hst
      · refine hI.change id he (by simp) (fun j hj => set_other j hj) (fun j hj => g.ver_other id _ u j hj) (fun k _ hk => setCells_other _ _ _ _ _ fun e => hk _ hc (by rw [e]; exact hown)) (setCells_below (Nat.zero_le _) _ _ _)
          (by rw [setCells_size]; exact Nat.le_refl _) (fun _ _ _ h => .inl h) (fun o ho => ?_)
        rw [set_same hc] at ho
        injection ho with ho
        subst ho
        refine ⟨⟨⟨a, cap, by rw [List.length_append]; exact g.ver_same id (ver + 1) u, .inr ⟨hcpos, by simpa using hroom, b, _, tt, ha, setCells_heap _ _ _ _ _ _ _ hheap hle2, ?_, ?_⟩⟩, hall, fun k hk => ?_⟩, fun b' hb' => ?_⟩
        · simp; omega
        · have h1 := Reps.append (Reps.mono he _ 0 0 _ (Nat.zero_le _) (Nat.le_refl _) hreps) (Reps.mono he _ 0 0 _ (Nat.zero_le _) (Nat.le_refl _) hnr)
          rw [List.flatten_append]
          have h2 : (vs.toList.take (es.length * ei.size) ++ (news ++ vs.toList.drop (es.length * ei.size + news.length))).take ((es ++ xs).length * ei.size) = vs.toList.take (es.length * ei.size) ++ news := by
            rw [List.length_append, Nat.add_mul, ← hnl']
            rw [← List.append_assoc]
            rw [List.take_left']
            simp; omega
          simp only [h2]
          exact h1
        · rw [g.ver_later id (ver + 1) u k hk]; exact hfresh k (by omega)
        · have hbb : owned (g.ver id (ver + 1) u) id (.row ei.size (ver + 1) (es ++ xs)) = some b := by
            simp only [owned, rowBlock, g.ver_same id (ver + 1) u]
            show (match some u with | some (Value.slice (some a) _ cap) => if cap = 0 then none else some a.block | _ => none) = some b
            simp only [u, ha]
            rw [if_neg (by omega)]
          rw [hbb] at hb'
          injection hb' with hb'
          subst hb'
          exact ⟨.inr ⟨_, hc, hown⟩, by rw [setCells_size]; exact hb2, hb3⟩
  · -- a new block
    obtain ⟨olds, hor, hol, horun⟩ := row_cells hrow hes
    have hge := grownCap_ge w (es.length + xs.length) cap e
    let nc := grownCap w (es.length + xs.length) cap e
    let u : Value := .slice (some ⟨w.heap.size, 0, none⟩) (es.length + xs.length) nc
    have he := g.ver_ext id (ver + 1) σ.length u hnone
    have hrun := append_run (w := w) (a := a) (n := es.length) (cap := cap) (ax := ax) (m := xs.length) (cx := cx) (olds := olds) (news := news) ty hse hinfo htz
      (fun w' hw' => by rw [hts]; exact hnrun E.P w' (hCw w' hw')) (fun w' hw' => by rw [hts]; exact horun E.P w' hw') (by omega) hfn (by rw [htb]; exact hfb)
    refine ⟨g.ver id (ver + 1) u, _, u, hrun, ⟨he, ?_, by simp⟩, g.ver_same id (ver + 1) u, rfl⟩
    have hzs : z.cells.size = ei.size := by have := Reps.length (hzr g 0); simp at this; omega
    refine hI.change id he (by simp) (fun j hj => set_other j hj) (fun j hj => g.ver_other id _ u j hj) (fun k hk _ => Below.heap_alloc w.drew _ k hk)
      (((Below.refl 0 w).drew).alloc (Nat.zero_le _) _) (by simp) (fun _ _ _ h => .inl h) (fun o ho => ?_)
    rw [set_same hc] at ho
    injection ho with ho
    subst ho
    refine ⟨⟨⟨some ⟨w.heap.size, 0, none⟩, nc, by rw [List.length_append]; exact g.ver_same id (ver + 1) u, .inr ⟨?_, by simpa using hge, w.heap.size, _, e, rfl, heap_new w.drew _, ?_, ?_⟩⟩, hall, fun k hk => ?_⟩, fun b' hb' => ?_⟩
    · show 0 < grownCap w (es.length + xs.length) cap e
      omega
    · simp [hol, hnl', hzs, Builtin.zeroCells]
      rw [← Nat.add_assoc, ← Nat.add_mul, ← Nat.add_mul]
      apply Nat.mul_le_mul_right
      show grownCap w (es.length + xs.length) cap e ≤ _
      omega
    · have h1 := Reps.append (Reps.mono he _ 0 0 _ (Nat.zero_le _) (Nat.le_refl _) hor) (Reps.mono he _ 0 0 _ (Nat.zero_le _) (Nat.le_refl _) hnr)
      rw [List.flatten_append]
      have h2 : (olds ++ news ++ (Builtin.zeroCells z.cells (grownCap w (es.length + xs.length) cap e - (es.length + xs.length))).toList).take ((es ++ xs).length * ei.size) = olds ++ news := by
        rw [List.take_left']
        rw [List.length_append, List.length_append, Nat.add_mul, hol, hnl']
      simp only [h2]
      exact h1
    · rw [g.ver_later id (ver + 1) u k hk]; exact hfresh k (by omega)
    · have hbb : owned (g.ver id (ver + 1) u) id (.row ei.size (ver + 1) (es ++ xs)) = some w.heap.size := by
        simp only [owned, rowBlock, g.ver_same id (ver + 1) u]
        show (match some u with | some (Value.slice (some a) _ cap) => if cap = 0 then none else some a.block | _ => none) = some w.heap.size
        simp only [u]
        rw [if_neg (by show ¬ grownCap w (es.length + xs.length) cap e = 0; omega)]
      rw [hbb] at hb'
      injection hb' with hb'
      subst hb'
      refine ⟨.inl (Nat.le_refl _), by simp, fun off => ?_⟩
      cases hcc : g.C w.heap.size off with
      | none => exact hcc
      | some v => have := hI.lt hcc; omega
end Go.Abs
namespace Go.Abs
open Go.RowKit
variable {E : Env} {g : Ghost} {σ : Store} {w : World}

/-! ### New owned slices -/
def Ghost.newRow (g : Ghost) (id : Nat) (v : Value) : Ghost := { g with hd := fun j k => if j = id then (if k = 0 then some v else none) else g.hd j k }
theorem Ghost.newRow_ext (g : Ghost) (id n : Nat) (v : Value) (h : n ≤ id) : Ext g (g.newRow id v) n :=
  ⟨fun _ _ _ hv => hv, fun _ _ => rfl, fun j hj k u hu => by simp only [Ghost.newRow]; rw [if_neg (by omega)]; exact hu, Tie.refl _ _⟩
theorem push_get {σ : Store} {o : AObj} (j : Nat) (hj : j ≠ σ.length) : (σ ++ [o])[j]? = σ[j]? := by
  rcases Nat.lt_or_ge j σ.length with hl | hl
  · rw [List.getElem?_append_left hl]
  · rw [List.getElem?_eq_none (by simp; omega), List.getElem?_eq_none (by omega)]
theorem push_last {σ : Store} {o : AObj} : (σ ++ [o])[σ.length]? = some o := by
  rw [List.getElem?_append_right (Nat.le_refl _)]; simp

theorem Inv.pushRow (hI : Inv g σ w) {w' : World} (hw : ∀ k, k < w.heap.size → w'.heap[k]? = w.heap[k]?) (hb : Below 0 w w') (hs : w.heap.size ≤ w'.heap.size) {sz : Nat} {es : List (List AV)} {a : Option Addr} {cap : Nat}
    (hes : ∀ e ∈ es, ElemOk sz e) (hrow : RowOk g w' sz es a cap) (hblk : ∀ ad, a = some ad → 0 < cap → w.heap.size ≤ ad.block ∧ ad.block < w'.heap.size) :
    ∃ g', Moved g g' σ (σ ++ [.row sz 0 es]) w' ∧ g'.hd σ.length 0 = some (.slice a es.length cap) := by
  let u : Value := .slice a es.length cap
  have he := g.newRow_ext σ.length σ.length u (Nat.le_refl _)
  have hh : (g.newRow σ.length u).hd σ.length 0 = some u := by simp [Ghost.newRow]
  refine ⟨g.newRow σ.length u, ⟨he, ?_, by simp⟩, hh⟩
  refine hI.change σ.length he (by simp) (fun j hj => push_get j hj) (fun j hj => by funext k; simp [Ghost.newRow, hj]) (fun k hk _ => hw k hk) hb hs (fun _ _ _ h => .inl h) (fun o ho => ?_)
  rw [push_last] at ho
  injection ho with ho
  subst ho
  refine ⟨⟨⟨a, cap, hh, ?_⟩, hes, fun k hk => ?_⟩, fun b hb' => ?_⟩
  · rcases hrow with h | ⟨h1, h2, b, vs, t, h3, h4, h5, h6⟩
    · exact .inl h
    · exact .inr ⟨h1, h2, b, vs, t, h3, h4, h5, Reps.mono he _ 0 0 _ (Nat.zero_le _) (Nat.le_refl _) h6⟩
  · simp only [Ghost.newRow, if_true]; rw [if_neg (by omega)]
  · simp only [owned, rowBlock, hh, u] at hb'
    cases a with
    | none => simp at hb'
    | some ad =>
      simp only at hb'
      by_cases hc : cap = 0
      · rw [if_pos hc] at hb'; cases hb'
      · rw [if_neg hc] at hb'
        injection hb' with hb'
        subst hb'
        obtain ⟨h1, h2⟩ := hblk ad rfl (by omega)
        refine ⟨.inl h1, h2, fun off => ?_⟩
        cases hcc : g.C ad.block off with
        | none => exact hcc
        | some v => have := hI.lt hcc; omega

theorem made_flatten (z : Array Value) : ∀ l : Nat, (madeCells z (l * z.size)).toList = (List.replicate l z.toList).flatten
  | 0 => by simp [madeCells]
  | l + 1 => by
    have ih := made_flatten z l
    simp only [madeCells, Array.toList_map, Array.toList_range] at ih ⊢
    rw [List.replicate_succ', List.flatten_append, ← ih, Nat.add_mul, Nat.one_mul, List.range_add, List.map_append, List.map_map]
    congr 1
    simp only [List.flatten_cons, List.flatten_nil, List.append_nil]
    apply List.ext_getElem?
    intro j
    rw [List.getElem?_map]
    by_cases hj : j < z.size
    · rw [List.getElem?_range hj]
      simp only [Option.map_some, Function.comp_def, Nat.mul_add_mod_self_right, Nat.mod_eq_of_lt hj]
      simp [hj]
    · rw [List.getElem?_eq_none (by simp; omega), List.getElem?_eq_none (by simp; omega)]; rfl
theorem made_take (z : Array Value) (l c : Nat) (h : l ≤ c) : (madeCells z (c * z.size)).toList.take (l * z.size) = (List.replicate l z.toList).flatten := by
  have hr : List.replicate c z.toList = List.replicate l z.toList ++ List.replicate (c - l) z.toList := by
    rw [List.replicate_append_replicate]
    congr 1
    omega
  rw [made_flatten, hr, List.flatten_append, List.take_left']
  simp
theorem Reps.replicate {g : Ghost} {n : Nat} {cs : List AV} {vs : List Value} (h : Reps g cs n vs) : ∀ l : Nat, Reps g (List.replicate l cs).flatten n (List.replicate l vs).flatten
  | 0 => by simp [Reps]
  | l + 1 => by
    rw [List.replicate_succ, List.replicate_succ, List.flatten_cons, List.flatten_cons]
    exact Reps.append h (Reps.replicate h l)

theorem makeSlice_sound (hty : ∀ t i, E.ty t = some i → TyOk E.P t i) (hI : Inv g σ w) {t e : Nat} {ei : TInfo} (hse : E.P.underlying t = some (.slice e)) (hei : E.ty e = some ei) {kl kc : IntKind} {l c : Int}
    (h : 0 ≤ l ∧ l ≤ c ∧ c * ei.bytes ≤ 140737488355328) (hc63 : c ≤ 9223372036854775807) :
    ∃ g' w' u, (Instr.makeSlice t (.int kl l) (.int kc c)).run E.P w = .ok u w' ∧ Moved g g' σ (σ ++ [.row ei.size 0 (List.replicate l.toNat ei.zero)]) w' ∧ g'.hd σ.length 0 = some u ∧ u.oneCell' = true := by
  obtain ⟨ti, z, hinfo, hts, htb, htz, hzr, hz1, hzl, hzleaf, _⟩ := (hty e ei hei).info
  have hzs : z.cells.size = ei.size := by have := Reps.length (hzr g 0); simp at this; omega
  have hrun := run_make (P := E.P) w t e ti z hse hinfo htz kl kc l c h.1 h.2.1 (by rw [htb, Int.mul_comm]; omega) hc63
  obtain ⟨g', hm, hh⟩ := hI.pushRow (w' := w.alloc (.cells (madeCells z.cells (c.toNat * ti.size)) e)) (sz := ei.size) (es := List.replicate l.toNat ei.zero) (a := some ⟨w.heap.size, 0, none⟩) (cap := c.toNat)
    (fun k hk => Below.heap_alloc w _ k hk) ((Below.refl _ w).alloc (Nat.zero_le _) _) (by simp) (fun e' he' => by rw [(List.mem_replicate.1 he').2]; exact ⟨hzl, hzleaf⟩)
    (by
      by_cases hc0 : c.toNat = 0
      · refine .inl ⟨?_, hc0⟩
        have : l.toNat = 0 := by omega
        rw [this]; rfl
      · refine .inr ⟨by omega, by simp; omega, w.heap.size, _, e, rfl, heap_new w _, by rw [size_madeCells, hts]; exact Nat.le_refl _, ?_⟩
        rw [hts, ← hzs, List.length_replicate, made_take z.cells l.toNat c.toNat (by omega)]
        exact Reps.replicate (hzr g 0) l.toNat)
    (fun ad had _ => by injection had with had; subst had; exact ⟨Nat.le_refl _, by simp⟩)
  refine ⟨g', _, _, hrun, hm, ?_, rfl⟩
  rw [hh, List.length_replicate]

theorem nilRow_sound (hI : Inv g σ w) (sz : Nat) : ∃ g', Moved g g' σ (σ ++ [.row sz 0 []]) w ∧ g'.hd σ.length 0 = some (.slice none 0 0) :=
  hI.pushRow (a := none) (cap := 0) (fun _ _ => rfl) (Below.refl _ _) (Nat.le_refl _) (by simp) (.inl ⟨rfl, rfl⟩) (fun _ h => by cases h)

/-- Append to a slice that is full: a new block. -/
theorem append_full (hty : ∀ t i, E.ty t = some i → TyOk E.P t i) (hI : Inv g σ w) {t e : Nat} {ei : TInfo} (ty : TypeId) (hse : E.P.underlying t = some (.slice e)) (hei : E.ty e = some ei)
    {sz n m : Nat} {es xs : List (List AV)} {f : Bool} {sv xv : Value} (hsz : sz = ei.size ∨ es = []) (hfit : fits (es.length + xs.length) ei.bytes = true) (hx0 : xs ≠ [])
    (hs : Rep g (.sl true sz es) n sv) (hx : Rep g (.sl f ei.size xs) m xv) :
    ∃ g' w' u, (Builtin.append_ #[t, t] ty #[sv, xv]).run E.P w = .ok u w' ∧ Moved g g' σ (σ ++ [.row ei.size 0 (es ++ xs)]) w' ∧ g'.hd σ.length 0 = some u ∧ u.oneCell' = true := by
  obtain ⟨ti, z, hinfo, hts, htb, htz, hzr, hz1, hzl, hzleaf, _⟩ := (hty e ei hei).info
  obtain ⟨hfb, hfn⟩ := fits_eq hfit
  have hs' : Rep g (.sl true ei.size es) n sv := by
    rcases hsz with h | h
    · rw [← h]; exact hs
    · subst h
      obtain ⟨a, cap, h1, h2, h3, _⟩ := hs
      exact ⟨a, cap, h1, h2, h3, .inl rfl⟩
  have hfull : ∃ a, sv = .slice a es.length es.length := by
    obtain ⟨a, cap, h1, _, h3, _⟩ := hs
    exact ⟨a, by rw [h1, h3 rfl]⟩
  obtain ⟨a0, ha0⟩ := hfull
  obtain ⟨olds, a, cs, hsv, hor, _, _, hes, horun⟩ := src_cells hs'
  obtain ⟨news, ax, cx, rfl, hnr, _, _, hxs, hnrun⟩ := src_cells hx
  subst ha0
  injection hsv with h1 h2 h3
  have hol : olds.length = es.length * ei.size := by rw [Reps.length hor, ElemOk.flatten_len hes]
  have hnl : news.length = xs.length * ei.size := by rw [Reps.length hnr, ElemOk.flatten_len hxs]
  have hzs : z.cells.size = ei.size := by have := Reps.length (hzr g 0); simp at this; omega
  have hxl : 0 < xs.length := List.length_pos_iff.2 hx0
  have hCw : ∀ w' : World, w'.heap = w.heap → ∀ b o v, g.C b o = some v → w'.cell? ⟨b, o, none⟩ = some v := fun w' hw' b o v hv => by
    rw [World.cell?_of_block (w := w) (w' := w') (a := ⟨b, o, none⟩) (by rw [hw'])]
    exact hI.comm b o v hv
  have hge := grownCap_ge w (es.length + xs.length) es.length e
  have hrun := append_run (w := w) (a := a0) (n := es.length) (cap := es.length) (ax := ax) (m := xs.length) (cx := cx) (olds := olds) (news := news) ty hse hinfo htz
    (fun w' hw' => by rw [hts]; exact hnrun E.P w' (hCw w' hw')) (fun w' hw' => by rw [hts]; exact horun E.P w' (hCw w' hw')) (by omega) hfn (by rw [htb]; exact hfb)
  obtain ⟨g', hm, hh⟩ := hI.pushRow (w' := w.drew.alloc (.cells (olds ++ news ++ (Builtin.zeroCells z.cells (grownCap w (es.length + xs.length) es.length e - (es.length + xs.length))).toList).toArray e)) (sz := ei.size) (es := es ++ xs)
    (a := some ⟨w.heap.size, 0, none⟩) (cap := grownCap w (es.length + xs.length) es.length e)
    (fun k hk => Below.heap_alloc w.drew _ k hk) (((Below.refl _ w).drew).alloc (Nat.zero_le _) _) (by simp) (fun e' he' => (List.mem_append.1 he').elim (hes e') (hxs e'))
    (by
      refine .inr ⟨by omega, by simpa using hge, w.heap.size, _, e, rfl, heap_new w.drew _, ?_, ?_⟩
      · simp [hol, hnl, hzs, Builtin.zeroCells]
        rw [← Nat.add_assoc, ← Nat.add_mul, ← Nat.add_mul]
        apply Nat.mul_le_mul_right
        omega
      · rw [List.flatten_append]
        have h2 : (olds ++ news ++ (Builtin.zeroCells z.cells (grownCap w (es.length + xs.length) es.length e - (es.length + xs.length))).toList).take ((es ++ xs).length * ei.size) = olds ++ news := by
          rw [List.take_left']
          rw [List.length_append, List.length_append, Nat.add_mul, hol, hnl]
        simp only [h2]
        exact Reps.append hor hnr)
    (fun ad had _ => by injection had with had; subst had; exact ⟨Nat.le_refl _, by simp⟩)
  refine ⟨g', _, _, hrun, hm, ?_, rfl⟩
  rw [hh, List.length_append]
/-- Append of nothing to a slice that is full. -/
theorem append_none (hty : ∀ t i, E.ty t = some i → TyOk E.P t i) (hI : Inv g σ w) {t e : Nat} {ei : TInfo} (ty : TypeId) (hse : E.P.underlying t = some (.slice e)) (hei : E.ty e = some ei)
    {sz n m : Nat} {es : List (List AV)} {f : Bool} {sv xv : Value} (hsz : sz = ei.size ∨ es = []) (hs : Rep g (.sl true sz es) n sv) (hx : Rep g (.sl f ei.size []) m xv) :
    (Builtin.append_ #[t, t] ty #[sv, xv]).run E.P w = .ok sv w ∧ Rep g (.sl true ei.size es) n sv := by
  obtain ⟨ti, z, hinfo, hts, _⟩ := (hty e ei hei).info
  obtain ⟨news, ax, cx, rfl, hnr, _, _, _, hnrun⟩ := src_cells hx
  have hn0 : news = [] := by simpa [Reps] using hnr
  subst hn0
  obtain ⟨a, cap, rfl, h2, h3, h4⟩ := hs
  refine ⟨?_, a, cap, rfl, h2, h3, ?_⟩
  · have := append_room (P := E.P) (w := w) (w' := w) (t := t) (n := es.length) (cap := cap) (a := a) (ax := ax) (m := 0) (cx := cx) (news := []) ty hse hinfo (by rw [hts]; exact hnrun E.P w hI.comm) (by cases a <;> rfl) (by omega)
    simpa using this
  · rcases hsz with h | h
    · rw [← h]; exact h4
    · exact .inl h
end Go.Abs
namespace Go.Abs
open Go.RowKit
variable {E : Env} {g : Ghost} {σ : Store} {w : World}

theorem fold_set (off : Nat) : ∀ (l : List Value) (k : Nat) (cells : Array Value), off + k + l.length ≤ cells.size →
    ((l.zipIdx k).foldl (fun (cs : Array Value) (p : Value × Nat) => cs.setIfInBounds (off + p.2) p.1) cells).toList = cells.toList.take (off + k) ++ (l ++ cells.toList.drop (off + k + l.length))
  | [], k, cells, _ => by simp
  | v :: l, k, cells, h => by
    have h' : off + k + l.length + 1 ≤ cells.size := by simp at h; omega
    have ih := fold_set off l (k + 1) (cells.setIfInBounds (off + k) v) (by simp; omega)
    rw [List.zipIdx_cons, List.foldl_cons, ih, Array.toList_setIfInBounds]
    have ho : off + k < cells.toList.length := by simp; omega
    rw [← Nat.add_assoc, List.take_add_one, List.take_set_of_le (by omega), List.getElem?_set_self ho, List.drop_set_of_lt (by omega)]
    simp [Nat.add_assoc, Nat.add_comm 1]

/-- The parts of a literal. -/
def PartsRep (g : Ghost) (n : Nat) : List (Nat × AV) → List (Nat × Value) → Prop
  | [], qs => qs = []
  | p :: ps, qs => ∃ v qs', qs = (p.1, v) :: qs' ∧ Rep g p.2 n v ∧ PartsRep g n ps qs'
theorem PartsRep.mono {g g' : Ghost} {m n n' : Nat} (h : Ext g g' m) (hm : n ≤ m) (hn : n ≤ n') : ∀ {ps : List (Nat × AV)} {qs : List (Nat × Value)}, PartsRep g n ps qs → PartsRep g' n' ps qs
  | [], _, hr => hr
  | p :: _, _, ⟨v, qs', e, h1, h2⟩ => ⟨v, qs', e, Rep.mono h p.2 n n' v hm hn h1, PartsRep.mono h hm hn h2⟩
theorem evalPs_rep {n : Nat} {fr : Fr} {a : Act} (h : FrOk g n fr a.tmps) : ∀ ps : List (Nat × Operand), PartsRep g n (evalPs fr ps) (ps.map fun p => (p.1, a.eval p.2))
  | [] => rfl
  | (_, x) :: ps => ⟨_, _, rfl, evalO_rep h x, evalPs_rep h ps⟩

theorem fill_step {place : Nat → Option (Nat × Nat)} {cells : Array Value} {i off size : Nat} {v : Value} {rest : List (Nat × Value)} (hp : place i = some (off, size)) (hs : v.cells.size = size) (hle : off + size ≤ cells.size) :
    Instr.fill place cells ((i, v) :: rest) = Instr.fill place (cells.toList.take off ++ (v.cells.toList ++ cells.toList.drop (off + v.cells.size))).toArray rest := by
  have h1 : ¬ (v.cells.size ≠ size ∨ off + v.cells.size > cells.size) := by omega
  have h2 : (decide (v.cells.size ≠ size) || decide (off + v.cells.size > cells.size)) = false := by simpa using h1
  simp only [Instr.fill, hp]
  rw [h2]
  simp only [Bool.false_eq_true, if_false]
  congr 1
  rw [← Array.foldl_toList, Array.toList_zipIdx]
  have := fold_set off v.cells.toList 0 cells (by simp; omega)
  apply Array.ext'
  simpa using this

theorem buildCells_sound {k : TK} {place : Nat → Option (Nat × Nat)} (hpl : ∀ i q, aPlace E k i = some q → place i = some q) {n : Nat} :
    ∀ {ps : List (Nat × AV)} {qs : List (Nat × Value)} {cs cs' : List AV} {cells : Array Value}, aBuildCells E k ps cs = some cs' → PartsRep g n ps qs → Reps g cs n cells.toList →
      ∃ cells', Instr.fill place cells qs = some cells' ∧ Reps g cs' n cells'.toList
  | [], _, cs, _, cells, h, hp, hr => by
    simp [aBuildCells] at h; subst h
    simp [PartsRep] at hp; subst hp
    exact ⟨cells, rfl, hr⟩
  | (i, v) :: ps, _, cs, cs', cells, h, ⟨u, qs', e, h1, h2⟩, hr => by
    subst e
    obtain ⟨q, hq, h⟩ := bindO_eq h
    obtain ⟨us, hu, h⟩ := bindO_eq h
    obtain ⟨hsz, h⟩ := iteO_none h
    obtain ⟨cs1, hput, h⟩ := bindO_eq h
    have hsz := of_decide_eq_true hsz
    obtain ⟨hle, rfl⟩ := putAt_eq hput
    obtain ⟨hur, _⟩ := cellsOf_rep hu h1
    have hul := Reps.length hur
    have hcl := Reps.length hr
    simp at hul hcl
    obtain ⟨cells', hf, hr'⟩ := buildCells_sound hpl (cells := (cells.toList.take q.1 ++ (u.cells.toList ++ cells.toList.drop (q.1 + u.cells.toList.length))).toArray) h h2 (Reps.splice q.1 hr hur)
    refine ⟨cells', ?_, hr'⟩
    rw [fill_step (off := q.1) (size := q.2) (hpl i q hq) (by omega) (by omega)]
    simpa using hf

theorem mapM_run {α β : Type} {P : Program} (f : α → Sem β) (h : α → β) : ∀ l : List α, (∀ x ∈ l, (f x).run P w = .ok (h x) w) → (l.mapM f).run P w = .ok (l.map h) w
  | [], _ => rfl
  | x :: l, hl => by
    rw [List.mapM_cons, Sem.run_bind, hl x (by simp)]
    simp [mapM_run f h l fun y hy => hl y (by simp [hy])]

theorem build_sound (hty : ∀ t i, E.ty t = some i → TyOk E.P t i) {t : Nat} {ti : TInfo} (ht : E.ty t = some ti) {n : Nat} {ps : List (Nat × AV)} {qs : Array (Nat × Value)} {cs : List AV}
    {fs0 : List (Nat × Nat)} (hst : tkStruct ti.k = some fs0) (h : aBuildCells E ti.k ps ti.zero = some cs) (hp : PartsRep g n ps qs.toList) : ∃ u, (Instr.build t qs).run E.P w = .ok u w ∧ Rep g (.agg cs) n u := by
  have hT := hty t ti ht
  obtain ⟨tinf, z, hinfo, hts, htb, htz, hzr, hz1, hzl, hzleaf, _⟩ := hT.info
  obtain ⟨d, hd1, hd2⟩ := hT.und
  cases hk : ti.k with
  | struct gs =>
    rw [hk] at h hd2
    obtain ⟨fs, rfl, hm⟩ := desc_struct hd2
    have hsub := hT.sub gs hk
    have hpl : ∀ i q, aPlace E (.struct gs) i = some q → (fs.map fun f => (f.offset, ((E.P.info? f.type).map (·.size)).getD 0))[i]? = some q := fun i q hq => by
      obtain ⟨fo, hfo, hq⟩ := bindO_eq hq
      obtain ⟨fi, hfi, hq⟩ := bindO_eq hq
      injection hq with hq
      rw [← hm, List.getElem?_map] at hfo
      obtain ⟨fl, hfl, hfe⟩ := Option.map_eq_some_iff.1 hfo
      have hF := (hty _ fi hfi).size
      rw [Array.getElem?_map, show fs[i]? = some fl by simpa using hfl]
      simp only [Option.map_some]
      rw [← hq, ← hfe]
      rw [← hfe] at hF
      simp [hF]
    obtain ⟨cells', hf, hr⟩ := buildCells_sound (E := E) hpl (cells := z.cells) h hp (hzr g n)
    refine ⟨.agg cells', ?_, cells'.toList, by simp, hr⟩
    have hmap : (fs.mapM fun f => do pure (f.offset, ← sizeOf f.type) : Sem _).run E.P w = .ok (fs.map fun f => (f.offset, ((E.P.info? f.type).map (·.size)).getD 0)) w := by
      rw [Array.mapM_eq_mapM_toList, Sem.run_map, mapM_run (w := w) _ (fun f : Field => (f.offset, ((E.P.info? f.type).map (·.size)).getD 0)) fs.toList]
      · simp only [Result.andThen_ok]
        congr 1
        apply Array.ext'
        simp
      · intro f hf
        have : (f.type, f.offset) ∈ gs := by rw [← hm]; exact List.mem_map_of_mem hf
        have := hsub _ this
        obtain ⟨i, hi⟩ := Option.isSome_iff_exists.1 this
        simp at hi
        simp [sizeOf, typeInfo, hi]
    simp only [Instr.build, Sem.run_bind]
    rw [show (zeroValue t).run E.P w = .ok z w by simp [zeroValue, typeInfo, hinfo, htz]]
    simp only [Result.andThen_ok]
    rw [run_underlying hd1 w]
    simp only [Result.andThen_ok, Sem.run_bind]
    rw [hmap]
    simp only [Result.andThen_ok]
    rw [hf]
    rfl
  | _ => rw [hk] at hst; simp [tkStruct] at hst

/-- A new block whose cells are given up at once. -/
def Ghost.commit (g : Ghost) (b : Nat) (vs : Array Value) : Ghost := { g with C := fun b' o => if b' = b then vs[o]? else g.C b' o }
theorem Inv.commit (hI : Inv g σ w) (vs : Array Value) (t : TypeId) :
    Ext g (g.commit w.heap.size vs) σ.length ∧ Inv (g.commit w.heap.size vs) σ (w.alloc (.cells vs t)) := by
  have hnew : ∀ b o v, g.C b o = some v → b ≠ w.heap.size := fun b o v hv => by have := hI.lt hv; omega
  have he : Ext g (g.commit w.heap.size vs) σ.length := by
    refine ⟨fun b o v hv => ?_, fun _ _ => rfl, fun _ _ _ _ h => h, Tie.refl _ _⟩
    simp only [Ghost.commit]
    rw [if_neg (hnew b o v hv)]; exact hv
  refine ⟨he, hI.change σ.length he (Nat.le_refl _) (fun _ _ => rfl) (fun _ _ => rfl) (fun k hk _ => Below.heap_alloc w _ k hk) ((Below.refl _ w).alloc (Nat.zero_le _) _) (by simp) (fun b o v hv => ?_) (fun o ho => by simp at ho)⟩
  simp only [Ghost.commit] at hv
  by_cases hb : b = w.heap.size
  · rw [if_pos hb] at hv
    refine .inr ⟨?_, .inl (by omega)⟩
    rw [hb, cell_of_block (heap_new w _)]; exact hv
  · rw [if_neg hb] at hv; exact .inl hv

theorem buildElems_sound {size n : Nat} : ∀ {ps : List (Nat × AV)} {qs : List (Nat × Value)} {g : Ghost} {σ σ' : Store} {es es' : List (List AV)} {cells : Array Value},
    aBuildElems σ size ps es = some (es', σ') → Inv g σ w → n ≤ σ.length → PartsRep g n ps qs → Reps g es.flatten 0 cells.toList → (∀ e ∈ es, ElemOk size e) →
      ∃ g' cells', Frozen g g' σ σ' w ∧ Instr.fill (fun i => some (i * size, size)) cells qs = some cells' ∧ Reps g' es'.flatten 0 cells'.toList ∧ (∀ e ∈ es', ElemOk size e) ∧ es'.length = es.length
  | [], _, g, σ, _, es, _, cells, h, hI, _, hp, hr, he => by
    simp [aBuildElems] at h
    obtain ⟨h1, h2⟩ := h
    subst h1; subst h2
    simp [PartsRep] at hp; subst hp
    exact ⟨g, cells, Frozen.refl hI, rfl, hr, he, rfl⟩
  | (i, v) :: ps, _, g, σ, σ', es, es', cells, h, hI, hn, ⟨u, qs', e, h1, h2⟩, hr, he => by
    subst e
    obtain ⟨q, hq, h⟩ := bindO_eq h
    obtain ⟨us, hu, h⟩ := bindO_eq h
    obtain ⟨hsz, h⟩ := iteO_none h
    simp only [Bool.and_eq_true, decide_eq_true_eq] at hsz
    obtain ⟨hsz, hi⟩ := hsz
    obtain ⟨g1, f1, r1⟩ := freeze_sound hI hn hq h1
    obtain ⟨hur, _⟩ := cellsOf_rep hu r1
    have hul := Reps.length hur
    have hcl := Reps.length hr
    rw [ElemOk.flatten_len he] at hcl
    simp at hul hcl
    obtain ⟨cs, hcs⟩ : ∃ cs, es[i]? = some cs := ⟨_, List.getElem?_eq_getElem hi⟩
    have hcsl := (he cs (List.mem_of_getElem? hcs)).1
    have hpos : i * size + size ≤ es.length * size := by
      have := Nat.mul_le_mul_right size (show i + 1 ≤ es.length from hi)
      rw [Nat.add_mul, Nat.one_mul] at this; exact this
    have hset : (es.set i us).flatten = es.flatten.take (i * size) ++ (us ++ es.flatten.drop (i * size + us.length)) := by
      have := flatten_set (lengths he) hcs (off := 0) (us := us) (by omega)
      simp only [List.take_zero, List.nil_append, Nat.zero_add, Nat.add_zero] at this
      rw [← this, List.drop_eq_nil_of_le (by omega), List.append_nil]
    have hr1 := Reps.splice (i * size) (Reps.mono f1.ext _ 0 0 _ (Nat.zero_le _) (Nat.le_refl _) hr) hur
    rw [← hset] at hr1
    have he1 : ∀ e ∈ es.set i us, ElemOk size e := fun e' he' => by
      rcases List.mem_or_eq_of_mem_set he' with h' | h'
      · exact he e' h'
      · rw [h']; exact ⟨hsz, cellsOf_leaf hu⟩
    obtain ⟨g2, cells', f2, hf, hr2, he2, hl2⟩ := buildElems_sound (cells := (cells.toList.take (i * size) ++ (u.cells.toList ++ cells.toList.drop (i * size + u.cells.toList.length))).toArray) h f1.inv
      (by rw [f1.len]; exact hn) (PartsRep.mono f1.ext hn (Nat.le_refl _) h2) hr1 he1
    refine ⟨g2, cells', f1.trans f2, ?_, hr2, he2, by rw [hl2]; simp⟩
    rw [fill_step (off := i * size) (size := size) rfl (by omega) (by omega)]
    simpa using hf

theorem buildSlice_sound (hty : ∀ t i, E.ty t = some i → TyOk E.P t i) (hI : Inv g σ w) {t e len : Nat} {ei : TInfo} (hse : E.P.underlying t = some (.slice e)) (hei : E.ty e = some ei) {ps : List (Nat × AV)} {qs : Array (Nat × Value)}
    {es : List (List AV)} {σ' : Store} (hlen : len * ei.size ≤ 16777216 ∧ ei.size ≠ 0) (h : aBuildElems σ ei.size ps (List.replicate len ei.zero) = some (es, σ')) (hp : PartsRep g σ.length ps qs.toList) :
    ∃ g' w' u, (Instr.buildSlice t len qs).run E.P w = .ok u w' ∧ Moved g g' σ σ' w' ∧ Rep g' (.sl true ei.size es) 0 u := by
  obtain ⟨ti, z, hinfo, hts, htb, htz, hzr, hz1, hzl, hzleaf, _⟩ := (hty e ei hei).info
  have hzs : z.cells.size = ei.size := by have := Reps.length (hzr g 0); simp at this; omega
  have hmade : (madeCells z.cells (len * ei.size)).toList = (List.replicate len z.cells.toList).flatten := by rw [← hzs]; exact made_flatten _ _
  obtain ⟨g1, cells', f1, hf, hr1, he1, hl1⟩ := buildElems_sound (cells := madeCells z.cells (len * ei.size)) h hI (Nat.le_refl _) hp (by rw [hmade]; exact Reps.replicate (hzr g 0) len)
    (fun e' he' => by rw [(List.mem_replicate.1 he').2]; exact ⟨hzl, hzleaf⟩)
  rw [List.length_replicate] at hl1
  obtain ⟨he2, hI2⟩ := f1.inv.commit cells' e
  refine ⟨g1.commit w.heap.size cells', w.alloc (.cells cells' e), .slice (some ⟨w.heap.size, 0, none⟩) len len, ?_, ⟨f1.ext.trans he2 (by rw [f1.len]; exact Nat.le_refl _), hI2, by rw [f1.len]; exact Nat.le_refl _⟩, ?_⟩
  · have h1 : ¬ (16777216 < len * ei.size) := by omega
    have hso := run_sizeOf' (hty e ei hei) w
    have hzv : (zeroValue e).run E.P w = .ok z w := by simp [zeroValue, typeInfo, hinfo, htz]
    have hf' : Instr.fill (fun i => some (i * ei.size, ei.size)) ((Array.range (len * ei.size)).map (z.cells[· % z.cells.size]!)) qs.toList = some cells' := hf
    by_cases h0 : len * ei.size = 0
    · have hf0 : Instr.fill (fun i => some (i * ei.size, ei.size)) #[] qs.toList = some cells' := by
        rw [← hf']; congr 1; rw [h0]; simp
      have hr0 : ∀ f : Nat → Value, (Array.range 0).map f = #[] := fun f => by simp
      simp only [Instr.buildSlice, Sem.run_bind, run_underlying hse, Result.andThen_ok, hso, h0]
      rw [if_neg (by omega), if_pos trivial]
      simp only [Sem.run_bind, Sem.run_pure, Result.andThen_ok, hr0, hf0]
      rfl
    · simp [Instr.buildSlice, run_underlying hse, hso, h1, h0, hzv, hf', newRow]
  · rw [← hl1]
    refine ⟨some ⟨w.heap.size, 0, none⟩, es.length, rfl, Nat.le_refl _, fun _ => rfl, .inr ⟨w.heap.size, 0, rfl, RepE.of_reps he1 (RepC.of_reps (Reps.mono he2 _ 0 0 _ (Nat.zero_le _) (Nat.le_refl _) hr1) fun j v hj => ?_)⟩⟩
    simp only [Ghost.commit, if_true, Nat.zero_add]
    simpa using hj
end Go.Abs
