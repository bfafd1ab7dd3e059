import Derived.Test.YtecjmbaepioobaaGreatAbs1toAbs5
set_option linter.unusedSimpArgs false
set_option linter.unusedVariables false
namespace Go.Abs
open Go.RowKit
theorem callsIn_wideR {r : Option Nat} {n : Nat} {P : Program} {f : FuncId} {args : Array Value} {w : World} {R : Ending → World → Prop} (h : Calls P f args w R) :
   CallsIn (wideR r) n P f args w R := (callsIn_wide (n := n)).2 h
def Yields (P : Program) (s : Sem Next) (w : World) (R : Value → World → Prop) : Prop :=
 (∃ val w', s.run P w = .ok (.value val) w' ∧ R val w') ∨ (∃ w', s.run P w = .ok .skip w' ∧ R undef w') ∨
   (∃ f args w', s.run P w = .ok (.enter f args) w' ∧ Calls P f args w' fun e w'' => ∃ val, e = .returned val ∧ R val w'') ∨
   (∃ l f tmps asg body w', s.run P w = .ok (.round l f tmps asg body) w' ∧ ∀ n r, RoundIn (wideR r) n P l f tmps asg body w' fun e w'' => ∃ val, e = .returned val ∧ R val w'')
theorem Yields.mono {P : Program} {s : Sem Next} {w : World} {R R' : Value → World → Prop} (h : Yields P s w R) (hr : ∀ v w', R v w' → R' v w') : Yields P s w R' := by
 rcases h with ⟨v, w', e, h⟩ | ⟨w', e, h⟩ | ⟨f, args, w', e, h⟩ | ⟨l, f, tmps, asg, body, w', e, h⟩
 · exact .inl ⟨v, w', e, hr _ _ h⟩
 · exact .inr (.inl ⟨w', e, hr _ _ h⟩)
 · exact .inr (.inr (.inl ⟨f, args, w', e, h.mono fun _ _ ⟨v, e, h⟩ => ⟨v, e, hr _ _ h⟩⟩))
 · exact .inr (.inr (.inr ⟨l, f, tmps, asg, body, w', e, fun n r => (h n r).mono fun _ _ ⟨v, e, h⟩ => ⟨v, e, hr _ _ h⟩⟩))
theorem Yields.value {P : Program} {s : Sem Value} {w w' : World} {v : Value} {R : Value → World → Prop} (h : s.run P w = .ok v w') (hr : R v w') :
   Yields P (do pure (.value (← s))) w R := .inl ⟨v, w', by rw [Sem.run_bind, h]; rfl, hr⟩
theorem wpIn_of_yields {r : Option Nat} {n : Nat} {P : Program} {o : Oper} {a : Act} {w : World} {K : Act → World → Prop} {Q : Exit → Act → World → Prop}
   (hd : ∀ c, o.op ≠ .defer c) (h : Yields P (execOp a.eval o) w fun v w' => K (a.put o.dst v) w') : o.wpIn (wideR r) n P a w K Q := by
 refine ⟨fun _ _ => trivial, ?_⟩
 rw [Oper.semAt_eq _ _ _ hd]
 rcases h with ⟨v, w', e, h⟩ | ⟨w', e, h⟩ | ⟨f, args, w', e, h⟩ | ⟨l, f, tmps, asg, body, w', e, h⟩
 · rw [e]; exact h
 · rw [e]; exact h
 · rw [e]
   refine ⟨fun h => by simp [wideR, Fence.wide] at h, ?_⟩
   refine callsIn_wideR (h.mono ?_)
   rintro e w'' ⟨v, rfl, h⟩
   exact h
 · rw [e]
   refine ⟨fun h => by simp [wideR, Fence.wide] at h, ?_⟩
   refine (h _ _).mono ?_
   rintro e w'' ⟨v, rfl, h⟩
   exact h
theorem partOf_load {P : Program} {t : Nat} {ti : TInfo} (ht : TyOk P t ti) {g : Ghost} {n : Nat} {cs : List AV} {vs : List Value} {off b o : Nat} {v : AV} {w : World}
   (hp : partOf ti cs off = some v) (hr : Reps g cs n vs) (hv : ∀ j u, vs[j]? = some u → w.cell? ⟨b, o + j, none⟩ = some u) :
   ∃ val, (Instr.loadAt t (.pointer (some ⟨b, o + off, none⟩))).run P w = .ok val w ∧ Rep g v n val := by
 obtain ⟨d, hd1, hd2⟩ := ht.und
 have hrow := agg_row hd2
 simp only [partOf] at hp
 cases hk : ti.k.agg with
 | true =>
   rw [hk] at hp hrow
   simp only [partK] at hp
   obtain ⟨hle, hp⟩ := iteO_none hp
   injection hp with hp
   subst hp
   have hle := of_decide_eq_true hle
   have hl := Reps.length hr
   have hr' := Reps.take ti.size (Reps.drop off hr)
   refine ⟨.agg ((vs.drop off).take ti.size).toArray, ?_, ⟨_, rfl, hr'⟩⟩
   refine run_loadAt_mid w b (o + off) t _ d (fun j u hj => ?_) hd1 hrow ?_
   · rw [List.getElem?_take] at hj
     split at hj
     · rw [List.getElem?_drop] at hj
       rw [Nat.add_assoc]; exact hv _ _ hj
     · cases hj
   · rw [ht.size]; simp; omega
 | false =>
   rw [hk] at hp
   simp only [partK] at hp
   obtain ⟨val, h1, h2⟩ := Reps.get hr hp
   refine ⟨val, ?_, h2⟩
   have hagg := run_isAgg' ht w
   rw [hk] at hagg
   simp [Instr.loadAt, Instr.sureAddr, loadVar, hagg, hv off val h1]
theorem cell_of_block {w : World} {b : Nat} {vs : Array Value} {t : TypeId} {fr : Nat × Nat} (h : w.heap[b]? = some (.cells vs t fr)) (j : Nat) : w.cell? ⟨b, j, none⟩ = vs[j]? := by
 simp [World.cell?, h]
theorem curR_eq {σ : Store} {id ver : Nat} {p : Nat × List (List AV)} (h : curR σ id ver = some p) : σ[id]? = some (.row p.1 ver p.2) ∨ σ[id]? = some (.frz p.1 ver p.2) ∨ σ[id]? = some (.app p.1 ver p.2) := by
 unfold curR objRowR at h
 split at h
 · rename_i sz v es heq
   obtain ⟨hv, h1⟩ := iteO_none h
   injection h1 with h1
   subst h1
   have := of_decide_eq_true hv
   subst this
   exact .inl heq
 · rename_i sz v es heq
   obtain ⟨hv, h1⟩ := iteO_none h
   injection h1 with h1
   subst h1
   have := of_decide_eq_true hv
   subst this
   exact .inr (.inl heq)
 · rename_i sz v es heq
   obtain ⟨hv, h1⟩ := iteO_none h
   injection h1 with h1
   subst h1
   have := of_decide_eq_true hv
   subst this
   exact .inr (.inr heq)
 · cases h
theorem curA_eq {σ : Store} {id ver : Nat} {p : Nat × List (List AV)} (h : curA σ id ver = some p) : σ[id]? = some (.row p.1 ver p.2) ∨ σ[id]? = some (.app p.1 ver p.2) := by
 unfold curA objRowA at h
 split at h
 · rename_i sz v es heq
   obtain ⟨hv, h1⟩ := iteO_none h
   injection h1 with h1
   subst h1
   have := of_decide_eq_true hv
   subst this
   exact .inl heq
 · rename_i sz v es heq
   obtain ⟨hv, h1⟩ := iteO_none h
   injection h1 with h1
   subst h1
   have := of_decide_eq_true hv
   subst this
   exact .inr heq
 · cases h
theorem cur_eq {σ : Store} {id ver : Nat} {p : Nat × List (List AV)} (h : cur σ id ver = some p) : σ[id]? = some (.row p.1 ver p.2) := by
 unfold cur objRow at h
 split at h
 · rename_i sz v es heq
   obtain ⟨hv, h1⟩ := iteO_none h
   injection h1 with h1
   have h2 := of_decide_eq_true hv
   rw [← h1, ← h2]
   exact heq
 · cases h
theorem objVar_eq {x : Option AObj} {cs : List AV} (h : objVar x = some cs) : x = some (.var cs) := by
 unfold objVar at h
 split at h
 · injection h with h; subst h; rfl
 · cases h
theorem objMap_eq {x : Option AObj} {p : TK × (MKey → Option AV)} (h : objMap x = some p) : x = some (.map p.1 p.2) := by
 unfold objMap at h
 split at h
 · injection h with h; subst h; rfl
 · cases h
theorem flatten_drop {sz : Nat} : ∀ {es : List (List AV)} {i : Nat} {e : List AV}, (∀ e ∈ es, e.length = sz) → es[i]? = some e → es.flatten.drop (i * sz) = e ++ (es.drop (i + 1)).flatten
 | [], _, _, _, h => by simp at h
 | x :: xs, 0, e, _, h => by simp at h; subst h; simp
 | x :: xs, i + 1, e, hs, h => by
   have ih : xs.flatten.drop (i * sz) = e ++ (xs.drop (i + 1)).flatten := flatten_drop (fun e' h' => hs e' (List.mem_cons_of_mem _ h')) (by simpa using h)
   have hx := hs x (by simp)
   rw [List.flatten_cons, Nat.add_mul, Nat.one_mul, List.drop_append, List.drop_eq_nil_of_le (by omega), List.nil_append, show i * sz + sz - x.length = i * sz by omega, ih, List.drop_succ_cons]
theorem row_elem {g : Ghost} {w : World} {sz : Nat} {es : List (List AV)} {a : Option Addr} {cap i : Nat} {cs : List AV} (h : RowOk g w sz es a cap) (hs : ∀ e ∈ es, ElemOk sz e) (hi : es[i]? = some cs) :
   ∃ b vs, a = some ⟨b, 0, none⟩ ∧ Reps g cs 0 vs ∧ (∀ j u, vs[j]? = some u → w.cell? ⟨b, i * sz + j, none⟩ = some u) := by
 rcases h with ⟨rfl, _⟩ | ⟨hc, hl, b, vs, t, ha, hh, hsz, hr⟩
 · simp at hi
 · have hd := Reps.drop (i * sz) hr
   rw [flatten_drop (lengths hs) hi] at hd
   have hcl : cs.length = sz := (hs cs (List.mem_of_getElem? hi)).1
   have ht := Reps.take cs.length hd
   rw [List.take_left'] at ht
   · refine ⟨b, _, ha, ht, fun j u hj => ?_⟩
     rw [cell_of_block hh]
     rw [List.getElem?_take] at hj
     split at hj
     · rw [List.getElem?_drop, List.getElem?_take] at hj
       split at hj
       · simpa using hj
       · cases hj
     · cases hj
   · rfl
theorem load_sound {E : Env} {g : Ghost} {σ : Store} {w : World} (hty : ∀ t i, E.ty t = some i → TyOk E.P t i) (hI : Inv g σ w) {t : Nat} {x v : AV} {val : Value}
   (h : aLoad E σ t x = some v) (hx : Rep g x σ.length val) : ∃ u, (Instr.loadAt t val).run E.P w = .ok u w ∧ Rep g v σ.length u := by
 obtain ⟨ti, ht, h⟩ := bindO_eq h
 have hT := hty t ti ht
 cases x with
 | ptr id off =>
   obtain ⟨cs, hc, h⟩ := bindO_eq h
   obtain ⟨hid, rfl⟩ := hx
   obtain ⟨vs, tt, hh, hr⟩ := hI.objs id _ (objVar_eq hc)
   have := partOf_load hT (b := g.blk id) (o := 0) h hr (w := w) (fun j u hj => by rw [cell_of_block hh]; simpa using hj)
   simpa using this
 | cref cs =>
   obtain ⟨b, o, rfl, hr⟩ := hx
   obtain ⟨vs, hr', hv⟩ := RepC.reps hr
   obtain ⟨u, h1, h2⟩ := partOf_load hT (b := b) (o := o) h hr' (w := w) (fun j u hj => hI.comm _ _ _ (hv j u hj))
   exact ⟨u, by simpa using h1, Rep.mono (Ext.refl g σ.length) v 0 _ u (Nat.zero_le _) (Nat.zero_le _) h2⟩
 | rptr id ver sz i off =>
   obtain ⟨p, hc, h⟩ := bindO_eq h
   obtain ⟨hsz, h2⟩ := iteO_none h
   have hsz := of_decide_eq_true hsz
   obtain ⟨cs, hi, h3⟩ := bindO_eq h2
   obtain ⟨_, b, o, len, c, hhd, rfl⟩ := hx
   have full : ∀ (a : Option Addr), a = some ⟨b, o, none⟩ → (p.2 = [] ∨ ∃ b o, a = some ⟨b, o, none⟩ ∧ RepE g p.2 p.1 b o) → ∃ u, (Instr.loadAt t (.pointer (some ⟨b, o + (i * sz + off), none⟩))).run E.P w = .ok u w ∧ Rep g v σ.length u := fun a ea hor => by
     rcases hor with hnil | ⟨b', o', ha', hre⟩
     · rw [hnil] at hi; cases hi
     · rw [ea] at ha'
       injection ha' with ha'
       injection ha' with hb ho
       subst hb; subst ho
       obtain ⟨hrc, _⟩ := RepE.get hre hi
       obtain ⟨vs, hr', hv⟩ := RepC.reps hrc
       obtain ⟨u, h1, h2⟩ := partOf_load hT (b := b) (o := o + i * sz) h3 hr' (w := w) (fun j u hj => by
         have := hI.comm _ _ _ (hv j u hj)
         rw [← hsz]; simpa using this)
       exact ⟨u, by rw [Nat.add_assoc] at h1; exact h1, Rep.mono (Ext.refl g σ.length) v 0 _ u (Nat.zero_le _) (Nat.zero_le _) h2⟩
   have own : ∀ (a : Option Addr) (cap : Nat), a = some ⟨b, o, none⟩ → RowOk g w p.1 p.2 a cap → (∀ e ∈ p.2, ElemOk p.1 e) → ∃ u, (Instr.loadAt t (.pointer (some ⟨b, o + (i * sz + off), none⟩))).run E.P w = .ok u w ∧ Rep g v σ.length u := fun a cap ha hrow hs => by
     subst hsz
     obtain ⟨b', vs, ha', hr, hv⟩ := row_elem hrow hs hi
     rw [ha] at ha'
     injection ha' with ha'
     injection ha' with hb ho
     subst hb; subst ho
     obtain ⟨u, h1, h2⟩ := partOf_load hT h3 hr hv
     exact ⟨u, by rw [Nat.zero_add]; exact h1, Rep.mono (Ext.refl g σ.length) v 0 _ u (Nat.zero_le _) (Nat.zero_le _) h2⟩
   rcases curR_eq hc with hrw | hfz | hap
   · obtain ⟨⟨a, cap, hh, hrow⟩, hs, _⟩ := hI.objs id _ hrw
     rw [hhd] at hh
     injection hh with hh
     injection hh with ha hlen hcap
     exact own a cap ha.symm hrow hs
   · obtain ⟨v1, hv1, a, cap, e1, _, _, hor⟩ := hI.objs id _ hfz
     rw [hhd] at hv1
     injection hv1 with hv1
     subst hv1
     injection e1 with ea _ _
     exact full a ea.symm hor
   · obtain ⟨⟨a, cap, hh, hap⟩, hs, _⟩ := hI.objs id _ hap
     rw [hhd] at hh
     injection hh with hh
     injection hh with ha hlen hcap
     cases hf : foreign g id ver with
     | true => rw [hf] at hap; exact full a ha.symm hap.2
     | false => rw [hf] at hap; exact own a cap ha.symm hap hs
 | _ => simp [aLoadV] at h
end Go.Abs
namespace Go.Abs
open Go.RowKit
theorem setCells_heap (b : Nat) : ∀ (us : List Value) (o : Nat) (w : World) (vs : Array Value) (t : TypeId) (fr : Nat × Nat), w.heap[b]? = some (.cells vs t fr) → o + us.length ≤ vs.size →
   (w.setCells b o us).heap[b]? = some (.cells (vs.toList.take o ++ (us ++ vs.toList.drop (o + us.length))).toArray t fr)
 | [], o, w, vs, t, fr, h, _ => by simpa [World.setCells] using h
 | u :: us, o, w, vs, t, fr, h, hl => by
   have hl' : o + 1 + us.length ≤ vs.size := by simp at hl; omega
   have h1 : (w.setCell ⟨b, o, none⟩ u).heap[b]? = some (.cells (vs.setIfInBounds o u) t fr) := by
     simp [World.setCell, Array.getElem?_modify, h]
   have := setCells_heap b us (o + 1) (w.setCell ⟨b, o, none⟩ u) (vs.setIfInBounds o u) t fr h1 (by simpa using hl')
   rw [World.setCells, this]
   congr 2
   congr 1
   rw [Array.toList_setIfInBounds]
   have ho : o < vs.toList.length := by simp at hl ⊢; omega
   rw [List.take_add_one, List.take_set_of_le (by omega), List.getElem?_set_self ho, List.drop_set_of_lt (by omega)]
   simp [Nat.add_assoc, Nat.add_comm 1]
theorem setCells_other (b : Nat) : ∀ (us : List Value) (o : Nat) (w : World) (k : Nat), k ≠ b → (w.setCells b o us).heap[k]? = w.heap[k]?
 | [], _, _, _, _ => rfl
 | u :: us, o, w, k, hk => by rw [World.setCells, setCells_other b us (o + 1) _ k hk, Below.heap_setCell _ _ _ _ hk]
theorem setCells_size (b : Nat) : ∀ (us : List Value) (o : Nat) (w : World), (w.setCells b o us).heap.size = w.heap.size
 | [], _, _ => rfl
 | u :: us, o, w => by rw [World.setCells, setCells_size b us, World.size_setCell]
theorem setCells_streams (b : Nat) : ∀ (us : List Value) (o : Nat) (w : World), (w.setCells b o us).os = w.os ∧ (w.setCells b o us).tape = w.tape ∧ (w.setCells b o us).output = w.output
 | [], _, _ => ⟨rfl, rfl, rfl⟩
 | u :: us, o, w => by rw [World.setCells]; exact setCells_streams b us (o + 1) _
theorem setCells_below {B b : Nat} (hb : B ≤ b) (us : List Value) (o : Nat) (w : World) : Below B w (w.setCells b o us) := by
 obtain ⟨h1, h2, h3⟩ := setCells_streams b us o w
 exact ⟨h1, h2, h3, by rw [setCells_size]; exact Nat.le_refl _, fun k hk => setCells_other b us o w k (by omega)⟩
theorem store_run {P : Program} {t : Nat} {ti : TInfo} (hT : TyOk P t ti) {w : World} {b off : Nat} {vs : Array Value} {tt : TypeId} (hh : w.heap[b]? = some (.cells vs tt (0, 0)))
   {val : Value} (hone : val.cells.toList.all (·.oneCell') = true) (hsz : val.cells.size = ti.size) (hle : off + val.cells.size ≤ vs.size) :
   (Instr.storeAt t (.pointer (some ⟨b, off, none⟩)) val).run P w = .ok () (w.setCells b off val.cells.toList) := by
 have hs := run_sizeOf' hT w
 have := run_storeCells_cells (P := P) b off val.cells.toList 0 w (fun j hj => by rw [cell_of_block hh]; simp at hj ⊢; omega)
   (fun j hj => by simp [World.frozen?, hh]) (fun v hv => by simpa using List.all_eq_true.1 hone v hv)
 simp only [Nat.add_zero] at this
 simp [Instr.storeAt, Instr.sureAddr, storeVar, hs, hsz, this]
theorem frz_row {g : Ghost} {σ : Store} {w : World} (hI : Inv g σ w) {id sz ver : Nat} {es : List (List AV)} {val : Value} (hr : σ[id]? = some (.row sz ver es)) (hv : g.hd id ver = some val) :
   ∃ g', Ext g g' σ.length ∧ g'.hd = g.hd ∧ g'.blk = g.blk ∧ Inv g' (σ.set id (.frz sz ver es)) w ∧ Rep g' (.sl false sz es) 0 val := by
 have hid : id < σ.length := (List.getElem?_eq_some_iff.1 hr).1
 obtain ⟨⟨a, cap, hh, hrow⟩, hs, hfresh⟩ := hI.objs id _ hr
 rw [hv] at hh
 injection hh with hh
 subst hh
 have hset : ∀ j, j ≠ id → (σ.set id (AObj.frz sz ver es))[j]? = σ[j]? := fun j hj => by rw [List.getElem?_set_ne (by omega)]
 have hsame : (σ.set id (AObj.frz sz ver es))[id]? = some (.frz sz ver es) := by rw [List.getElem?_set_self hid]
 rcases hrow with ⟨rfl, hc0⟩ | ⟨hc, hl, b, vs, t, ha, hheap, hsz, hreps⟩
 · have hrep : Rep g (.sl false sz []) 0 (.slice a 0 cap) := ⟨a, cap, rfl, Nat.zero_le _, by simp, .inl rfl⟩
   refine ⟨g, Ext.refl g _, rfl, rfl, ?_, hrep⟩
   refine hI.change id (Ext.refl g _) (by simp) hset (fun _ _ => rfl) (fun _ _ _ => rfl) (Below.refl _ _) (Nat.le_refl _) (fun _ _ _ h => .inl h) (fun o ho => ?_)
   rw [hsame] at ho; injection ho with ho; subst ho
   exact ⟨⟨_, hv, hrep⟩, fun b hb => by simp [owned] at hb⟩
 · have hown : owned g id (.row sz ver es) = some b := by simp only [owned, rowBlock, hv, ha]; rw [if_neg (by omega)]
   obtain ⟨_, hbl, hnoC⟩ := hI.sep id _ b hr hown
   let g' : Ghost := { g with C := fun b' o => if b' = b ∧ o < es.length * sz then vs[o]? else g.C b' o }
   have hCC : ∀ b' o v, g.C b' o = some v → g'.C b' o = some v := fun b' o v h => by
     show (if b' = b ∧ o < es.length * sz then vs[o]? else g.C b' o) = some v
     rw [if_neg]
     · exact h
     · rintro ⟨rfl, _⟩
       rw [hnoC o] at h
       cases h
   have he : Ext g g' σ.length := ⟨hCC, fun _ _ => rfl, fun _ _ _ _ h => h, Tie.refl _ _⟩
   have hrep : Rep g' (.sl false sz es) 0 (.slice a es.length cap) := by
     refine ⟨a, cap, rfl, hl, by simp, .inr ⟨b, 0, ha, RepE.of_reps hs (RepC.of_reps (Reps.mono he _ 0 0 _ (Nat.zero_le _) (Nat.le_refl _) hreps) fun j v hj => ?_)⟩⟩
     rw [List.getElem?_take] at hj
     split at hj
     · rename_i hj'
       show (if b = b ∧ 0 + j < es.length * sz then vs[0 + j]? else g.C b (0 + j)) = some v
       rw [if_pos ⟨rfl, by omega⟩]
       simpa using hj
     · cases hj
   refine ⟨g', he, rfl, rfl, ?_, hrep⟩
   refine hI.change id he (by simp) hset (fun _ _ => rfl) (fun _ _ _ => rfl) (Below.refl _ _) (Nat.le_refl _) (fun b' o v h => ?_) (fun o ho => ?_)
   · by_cases hb : b' = b ∧ o < es.length * sz
     · refine .inr ⟨?_, .inr ⟨_, hr, by rw [hb.1]; exact hown⟩⟩
       have : vs[o]? = some v := by have h2 : g'.C b' o = some v := h; simp only [g'] at h2; rwa [if_pos hb] at h2
       rw [hb.1, cell_of_block hheap]; exact this
     · refine .inl ?_
       have h2 : g'.C b' o = some v := h; simp only [g'] at h2; rwa [if_neg hb] at h2
   · rw [hsame] at ho; injection ho with ho; subst ho
     exact ⟨⟨_, hv, hrep⟩, fun b hb => by simp [owned] at hb⟩
structure Frozen (g g' : Ghost) (σ σ' : Store) (w : World) : Prop where
 ext : Ext g g' σ.length
 inv : Inv g' σ' w
 len : σ'.length = σ.length
 hd : g'.hd = g.hd
 blk : g'.blk = g.blk
theorem Frozen.refl {g : Ghost} {σ : Store} {w : World} (h : Inv g σ w) : Frozen g g σ σ w := ⟨Ext.refl g _, h, rfl, rfl, rfl⟩
theorem Frozen.trans {g g' g'' : Ghost} {σ σ' σ'' : Store} {w : World} (h : Frozen g g' σ σ' w) (h' : Frozen g' g'' σ' σ'' w) : Frozen g g'' σ σ'' w :=
 ⟨h.ext.trans h'.ext (by rw [h.len]; exact Nat.le_refl _), h'.inv, h'.len.trans h.len, h'.hd.trans h.hd, h'.blk.trans h.blk⟩
theorem app_row {g : Ghost} {σ : Store} {w : World} (hI : Inv g σ w) {id sz ver : Nat} {es : List (List AV)} (hr : σ[id]? = some (.app sz ver es)) (hf : foreign g id ver = false) : Inv g (σ.set id (.row sz ver es)) w := by
 have hid : id < σ.length := (List.getElem?_eq_some_iff.1 hr).1
 obtain ⟨⟨a, cap, hh, hap⟩, hs, hfresh⟩ := hI.objs id _ hr
 rw [hf] at hap
 refine hI.change id (Ext.refl g _) (by simp) (fun j hj => by rw [List.getElem?_set_ne (by omega)]) (fun _ _ => rfl) (fun _ _ _ => rfl) (Below.refl _ _) (Nat.le_refl _) (fun _ _ _ h => .inl h) (fun o ho => ?_)
 rw [List.getElem?_set_self hid] at ho; injection ho with ho; subst ho
 refine ⟨⟨⟨a, cap, hh, hap⟩, hs, hfresh⟩, fun b hb => ?_⟩
 have hown : owned g id (.app sz ver es) = some b := by simp only [owned, hf]; exact hb
 exact ⟨.inr ⟨_, hr, hown⟩, (hI.sep id _ b hr hown).2⟩
theorem frz_app {g : Ghost} {σ : Store} {w : World} (hI : Inv g σ w) {id sz ver : Nat} {es : List (List AV)} {val : Value} (hr : σ[id]? = some (.app sz ver es)) (hv : g.hd id ver = some val) :
   ∃ g', Ext g g' σ.length ∧ g'.hd = g.hd ∧ g'.blk = g.blk ∧ Inv g' (σ.set id (.frz sz ver es)) w ∧ Rep g' (.sl false sz es) 0 val := by
 have hid : id < σ.length := (List.getElem?_eq_some_iff.1 hr).1
 cases hf : foreign g id ver with
 | false =>
   obtain ⟨g', h1, h2, h3, h4, h5⟩ := frz_row (app_row hI hr hf) (List.getElem?_set_self hid) hv
   refine ⟨g', by simpa using h1, h2, h3, ?_, h5⟩
   rw [List.set_set] at h4
   exact h4
 | true =>
   obtain ⟨⟨a, cap, hh, hap⟩, hs, hfresh⟩ := hI.objs id _ hr
   rw [hf] at hap
   rw [hv] at hh
   injection hh with hh
   subst hh
   have hrep : Rep g (.sl false sz es) 0 (.slice a es.length cap) := ⟨a, cap, rfl, Nat.le_of_eq hap.1.symm, by simp, hap.2⟩
   refine ⟨g, Ext.refl g _, rfl, rfl, ?_, hrep⟩
   refine hI.change id (Ext.refl g _) (by simp) (fun j hj => by rw [List.getElem?_set_ne (by omega)]) (fun _ _ => rfl) (fun _ _ _ => rfl) (Below.refl _ _) (Nat.le_refl _) (fun _ _ _ h => .inl h) (fun o ho => ?_)
   rw [List.getElem?_set_self hid] at ho; injection ho with ho; subst ho
   exact ⟨⟨_, hv, hrep⟩, fun b hb => by simp [owned] at hb⟩
theorem objFrz_sound {g : Ghost} {σ : Store} {w : World} (hI : Inv g σ w) {id ver n : Nat} {v' : AV} {σ' : Store} {val : Value} (h : objFrz σ id ver σ[id]? = some (v', σ')) (hr : Rep g (.rs id ver) n val) :
   ∃ g', Frozen g g' σ σ' w ∧ Rep g' v' 0 val := by
 obtain ⟨_, hv, _⟩ := hr
 cases ho : σ[id]? with
 | none => rw [ho] at h; simp [objFrz] at h
 | some o =>
   rw [ho] at h
   cases o with
   | row sz v es =>
     obtain ⟨hvv, h1⟩ := iteO_none h
     have := of_decide_eq_true hvv
     subst this
     injection h1 with h1
     injection h1 with h2 h3
     subst h2; subst h3
     obtain ⟨g', h1, h2, h3, h4, h5⟩ := frz_row hI ho hv
     exact ⟨g', ⟨h1, h4, by simp, h2, h3⟩, h5⟩
   | frz sz v es =>
     obtain ⟨hvv, h1⟩ := iteO_none h
     have := of_decide_eq_true hvv
     subst this
     injection h1 with h1
     injection h1 with h2 h3
     subst h2; subst h3
     obtain ⟨u, hu, hr⟩ := hI.objs id _ ho
     rw [hv] at hu; injection hu with hu; subst hu
     exact ⟨g, Frozen.refl hI, hr⟩
   | app sz v es =>
     obtain ⟨hvv, h1⟩ := iteO_none h
     have := of_decide_eq_true hvv
     subst this
     injection h1 with h1
     injection h1 with h2 h3
     subst h2; subst h3
     obtain ⟨g', h1, h2, h3, h4, h5⟩ := frz_app hI ho hv
     exact ⟨g', ⟨h1, h4, by simp, h2, h3⟩, h5⟩
   | _ => simp [objFrz] at h
theorem freezeL_sound {g : Ghost} {σ : Store} {w : World} (hI : Inv g σ w) {n : Nat} {v v' : AV} {σ' : Store} {val : Value} (h : freezeL σ v = some (v', σ')) (hr : Rep g v n val) :
   ∃ g', Frozen g g' σ σ' w ∧ Rep g' v' 0 val := by
 cases v with
 | rs id ver => exact objFrz_sound hI h hr
 | sl f sz es =>
   injection h with h
   injection h with h1 h2
   subst h1; subst h2
   obtain ⟨a, cap, e, h3, _, h4⟩ := hr
   exact ⟨g, Frozen.refl hI, a, cap, e, h3, by simp, h4⟩
 | _ =>
   simp [freezeL] at h <;> (obtain ⟨h1, h2⟩ := h; subst h1; subst h2; exact ⟨g, Frozen.refl hI, by simpa only [Rep] using hr⟩)
theorem freezeLs_sound {w : World} {n : Nat} : ∀ {cs cs' : List AV} {g : Ghost} {σ σ' : Store} {vs : List Value}, Inv g σ w → n ≤ σ.length → freezeLs σ cs = some (cs', σ') → Reps g cs n vs →
   ∃ g', Frozen g g' σ σ' w ∧ Reps g' cs' 0 vs
 | [], _, g, σ, _, _, hI, _, h, hr => by
   simp [freezeLs] at h; obtain ⟨h1, h2⟩ := h; subst h1; subst h2
   exact ⟨g, Frozen.refl hI, hr⟩
 | c :: cs, _, g, σ, _, _, hI, hn, h, ⟨v, vs', e, h1, h2⟩ => by
   obtain ⟨p, hp, h⟩ := bindO_eq h
   obtain ⟨q, hq, h⟩ := bindO_eq h
   injection h with h
   injection h with ha hb
   subst ha; subst hb; subst e
   obtain ⟨g1, f1, r1⟩ := freezeL_sound hI hp h1
   obtain ⟨g2, f2, r2⟩ := freezeLs_sound f1.inv (by rw [f1.len]; exact hn) hq (Reps.mono f1.ext cs n n _ hn (Nat.le_refl _) h2)
   exact ⟨g2, f1.trans f2, v, vs', rfl, Rep.mono f2.ext _ 0 0 _ (Nat.zero_le _) (Nat.le_refl _) r1, r2⟩
theorem freeze_sound {g : Ghost} {σ : Store} {w : World} (hI : Inv g σ w) {n : Nat} (hn : n ≤ σ.length) {v v' : AV} {σ' : Store} {val : Value} (h : freeze σ v = some (v', σ')) (hr : Rep g v n val) :
   ∃ g', Frozen g g' σ σ' w ∧ Rep g' v' 0 val := by
 cases v with
 | agg cs =>
   obtain ⟨p, hp, h⟩ := bindO_eq h
   injection h with h
   injection h with ha hb
   subst ha; subst hb
   obtain ⟨vs, rfl, hr⟩ := hr
   obtain ⟨g', f, r⟩ := freezeLs_sound hI hn hp hr
   exact ⟨g', f, vs, rfl, r⟩
 | rs id ver => exact freezeL_sound hI (show freezeL σ (.rs id ver) = _ from h) hr
 | sl f sz es =>
   injection h with h
   injection h with h1 h2
   subst h1; subst h2
   obtain ⟨a, cap, e, h3, _, h4⟩ := hr
   exact ⟨g, Frozen.refl hI, a, cap, e, h3, by simp, h4⟩
 | _ =>
   simp [freeze] at h <;> (obtain ⟨h1, h2⟩ := h; subst h1; subst h2; exact ⟨g, Frozen.refl hI, by simpa only [Rep] using hr⟩)
theorem freezes_sound {w : World} {n : Nat} : ∀ {cs cs' : List AV} {g : Ghost} {σ σ' : Store} {vs : List Value}, Inv g σ w → n ≤ σ.length → freezes σ cs = some (cs', σ') → Reps g cs n vs →
   ∃ g', Frozen g g' σ σ' w ∧ Reps g' cs' 0 vs
 | [], _, g, σ, _, _, hI, _, h, hr => by
   simp [freezes] at h; obtain ⟨h1, h2⟩ := h; subst h1; subst h2
   exact ⟨g, Frozen.refl hI, hr⟩
 | c :: cs, _, g, σ, _, _, hI, hn, h, ⟨v, vs', e, h1, h2⟩ => by
   obtain ⟨p, hp, h⟩ := bindO_eq h
   obtain ⟨q, hq, h⟩ := bindO_eq h
   injection h with h
   injection h with ha hb
   subst ha; subst hb; subst e
   obtain ⟨g1, f1, r1⟩ := freeze_sound hI hn hp h1
   obtain ⟨g2, f2, r2⟩ := freezes_sound f1.inv (by rw [f1.len]; exact hn) hq (Reps.mono f1.ext cs n n _ hn (Nat.le_refl _) h2)
   exact ⟨g2, f1.trans f2, v, vs', rfl, Rep.mono f2.ext _ 0 0 _ (Nat.zero_le _) (Nat.le_refl _) r1, r2⟩
theorem seal_var {g : Ghost} {σ : Store} {w : World} (hI : Inv g σ w) {id off n : Nat} {v' : AV} {σ' : Store} {val : Value} (h : sealVar σ id off σ[id]? = some (v', σ')) (hr : Rep g (.ptr id off) n val) :
   ∃ g', Frozen g g' σ σ' w ∧ Rep g' v' 0 val := by
 obtain ⟨_, rfl⟩ := hr
 cases ho : σ[id]? with
 | none => rw [ho] at h; simp [sealVar] at h
 | some o =>
   rw [ho] at h
   cases o with
   | var cs =>
     obtain ⟨hc, h1⟩ := iteO_none h
     simp only [Bool.and_eq_true, decide_eq_true_eq] at hc
     obtain ⟨rfl, hd⟩ := hc
     injection h1 with h1
     injection h1 with h2 h3
     subst h2; subst h3
     have hid : id < σ.length := (List.getElem?_eq_some_iff.1 ho).1
     obtain ⟨vs, t, hheap, hreps⟩ := hI.objs id _ ho
     obtain ⟨_, hbl, hnoC⟩ := hI.sep id _ _ ho rfl
     have hown : owned g id (.var cs) = some (g.blk id) := rfl
     have hreps := dataLs_rep hreps hd
     let g' : Ghost := { g with C := fun b' o => if b' = g.blk id ∧ o < vs.size then vs[o]? else g.C b' o }
     have hCC : ∀ b' o v, g.C b' o = some v → g'.C b' o = some v := fun b' o v h => by
       show (if b' = g.blk id ∧ o < vs.size then vs[o]? else g.C b' o) = some v
       rw [if_neg]
       · exact h
       · rintro ⟨rfl, _⟩
         rw [hnoC o] at h
         cases h
     have he : Ext g g' σ.length := ⟨hCC, fun _ _ => rfl, fun _ _ _ _ h => h, Tie.refl _ _⟩
     have hrep : Rep g' (.cref cs) 0 (.pointer (some ⟨g.blk id, 0, none⟩)) := by
       refine ⟨g.blk id, 0, rfl, RepC.of_reps (Reps.mono he _ 0 0 _ (Nat.zero_le _) (Nat.le_refl _) hreps) fun j v hj => ?_⟩
       have hj' : j < vs.size := by simpa using (List.getElem?_eq_some_iff.1 hj).1
       show (if g.blk id = g.blk id ∧ 0 + j < vs.size then vs[0 + j]? else g.C (g.blk id) (0 + j)) = some v
       rw [if_pos ⟨rfl, by omega⟩]
       simpa using hj
     have hset : ∀ j, j ≠ id → (σ.set id AObj.dead)[j]? = σ[j]? := fun j hj => by rw [List.getElem?_set_ne (by omega)]
     have hsame : (σ.set id AObj.dead)[id]? = some .dead := by rw [List.getElem?_set_self hid]
     refine ⟨g', ⟨he, ?_, by simp, rfl, rfl⟩, hrep⟩
     refine hI.change id he (by simp) hset (fun _ _ => rfl) (fun _ _ _ => rfl) (Below.refl _ _) (Nat.le_refl _) (fun b' o v h => ?_) (fun o ho2 => ?_)
     · by_cases hb : b' = g.blk id ∧ o < vs.size
       · refine .inr ⟨?_, .inr ⟨_, ho, by rw [hb.1]; exact hown⟩⟩
         have : vs[o]? = some v := by have h2 : g'.C b' o = some v := h; simp only [g'] at h2; rwa [if_pos hb] at h2
         rw [hb.1, cell_of_block hheap]; exact this
       · refine .inl ?_
         have h2 : g'.C b' o = some v := h; simp only [g'] at h2; rwa [if_neg hb] at h2
     · rw [hsame] at ho2; injection ho2 with ho2; subst ho2
       exact ⟨trivial, fun b hb => by simp [owned] at hb⟩
   | _ => simp [sealVar] at h
theorem sealL_sound {g : Ghost} {σ : Store} {w : World} (hI : Inv g σ w) {n : Nat} {v v' : AV} {σ' : Store} {val : Value} (h : sealL σ v = some (v', σ')) (hr : Rep g v n val) :
   ∃ g', Frozen g g' σ σ' w ∧ Rep g' v' 0 val := by
 cases v with
 | ptr id off => exact seal_var hI h hr
 | _ => refine freezeL_sound hI ?_ hr; exact h
theorem sealLs_sound {w : World} {n : Nat} : ∀ {cs cs' : List AV} {g : Ghost} {σ σ' : Store} {vs : List Value}, Inv g σ w → n ≤ σ.length → sealLs σ cs = some (cs', σ') → Reps g cs n vs →
   ∃ g', Frozen g g' σ σ' w ∧ Reps g' cs' 0 vs
 | [], _, g, σ, _, _, hI, _, h, hr => by
   simp [sealLs] at h; obtain ⟨h1, h2⟩ := h; subst h1; subst h2
   exact ⟨g, Frozen.refl hI, hr⟩
 | c :: cs, _, g, σ, _, _, hI, hn, h, ⟨v, vs', e, h1, h2⟩ => by
   obtain ⟨p, hp, h⟩ := bindO_eq h
   obtain ⟨q, hq, h⟩ := bindO_eq h
   injection h with h
   injection h with ha hb
   subst ha; subst hb; subst e
   obtain ⟨g1, f1, r1⟩ := sealL_sound hI hp h1
   obtain ⟨g2, f2, r2⟩ := sealLs_sound f1.inv (by rw [f1.len]; exact hn) hq (Reps.mono f1.ext cs n n _ hn (Nat.le_refl _) h2)
   exact ⟨g2, f1.trans f2, v, vs', rfl, Rep.mono f2.ext _ 0 0 _ (Nat.zero_le _) (Nat.le_refl _) r1, r2⟩
theorem sealV_sound {g : Ghost} {σ : Store} {w : World} (hI : Inv g σ w) {n : Nat} (hn : n ≤ σ.length) {v v' : AV} {σ' : Store} {val : Value} (h : sealV σ v = some (v', σ')) (hr : Rep g v n val) :
   ∃ g', Frozen g g' σ σ' w ∧ Rep g' v' 0 val := by
 cases v with
 | fn f cap =>
   obtain ⟨p, hp, h⟩ := bindO_eq h
   injection h with h
   injection h with ha hb
   subst ha; subst hb
   obtain ⟨vs, rfl, hr⟩ := hr
   obtain ⟨g', f, r⟩ := sealLs_sound hI hn hp hr
   exact ⟨g', f, vs, rfl, r⟩
 | _ => refine freeze_sound hI hn ?_ hr; exact h
theorem sealVs_sound {w : World} {n : Nat} : ∀ {cs cs' : List AV} {g : Ghost} {σ σ' : Store} {vs : List Value}, Inv g σ w → n ≤ σ.length → sealVs σ cs = some (cs', σ') → Reps g cs n vs →
   ∃ g', Frozen g g' σ σ' w ∧ Reps g' cs' 0 vs
 | [], _, g, σ, _, _, hI, _, h, hr => by
   simp [sealVs] at h; obtain ⟨h1, h2⟩ := h; subst h1; subst h2
   exact ⟨g, Frozen.refl hI, hr⟩
 | c :: cs, _, g, σ, _, _, hI, hn, h, ⟨v, vs', e, h1, h2⟩ => by
   obtain ⟨p, hp, h⟩ := bindO_eq h
   obtain ⟨q, hq, h⟩ := bindO_eq h
   injection h with h
   injection h with ha hb
   subst ha; subst hb; subst e
   obtain ⟨g1, f1, r1⟩ := sealV_sound hI hn hp h1
   obtain ⟨g2, f2, r2⟩ := sealVs_sound f1.inv (by rw [f1.len]; exact hn) hq (Reps.mono f1.ext cs n n _ hn (Nat.le_refl _) h2)
   exact ⟨g2, f1.trans f2, v, vs', rfl, Rep.mono f2.ext _ 0 0 _ (Nat.zero_le _) (Nat.le_refl _) r1, r2⟩
end Go.Abs
namespace Go.Abs
open Go.RowKit
theorem putAt_eq {cs us cs' : List AV} {off : Nat} (h : putAt cs off us = some cs') : off + us.length ≤ cs.length ∧ cs' = cs.take off ++ (us ++ cs.drop (off + us.length)) := by
 obtain ⟨h1, h2⟩ := iteO_none h
 injection h2 with h2
 exact ⟨of_decide_eq_true h1, h2.symm⟩
theorem Reps.splice {g : Ghost} {n : Nat} {cs us : List AV} {vs ws : List Value} (o : Nat) (h : Reps g cs n vs) (h' : Reps g us n ws) :
   Reps g (cs.take o ++ (us ++ cs.drop (o + us.length))) n (vs.take o ++ (ws ++ vs.drop (o + ws.length))) := by
 rw [Reps.length h']
 exact Reps.append (Reps.take o h) (Reps.append h' (Reps.drop _ h))
theorem take_splice {α : Type} (vs ws : List α) (o m : Nat) (h : o + ws.length ≤ m) (hm : m ≤ vs.length) :
   (vs.take o ++ (ws ++ vs.drop (o + ws.length))).take m = (vs.take m).take o ++ (ws ++ (vs.take m).drop (o + ws.length)) := by
 have h1 : (vs.take o).length = o := by simp; omega
 have h2 : (vs.take o).take m = vs.take o := List.take_of_length_le (by omega)
 have h3 : ws.take (m - o) = ws := List.take_of_length_le (by omega)
 have h4 : (vs.take m).take o = vs.take o := by rw [List.take_take, Nat.min_eq_left (by omega)]
 rw [List.take_append, h1, List.take_append, h2, h3, h4, List.drop_take, Nat.sub_sub]
theorem flatten_length {α : Type} {sz : Nat} : ∀ {es : List (List α)}, (∀ e ∈ es, e.length = sz) → es.flatten.length = es.length * sz
 | [], _ => by simp
 | e :: es, h => by
   rw [List.flatten_cons, List.length_append, h e (by simp), flatten_length (fun e' h' => h e' (List.mem_cons_of_mem _ h')), List.length_cons, Nat.add_mul]
   omega
theorem flatten_set {α : Type} {sz : Nat} : ∀ {es : List (List α)} {i off : Nat} {cs us : List α}, (∀ e ∈ es, e.length = sz) → es[i]? = some cs → off + us.length ≤ sz →
   (es.set i (cs.take off ++ (us ++ cs.drop (off + us.length)))).flatten = es.flatten.take (i * sz + off) ++ (us ++ es.flatten.drop (i * sz + off + us.length))
 | [], _, _, _, _, _, h, _ => by simp at h
 | e :: es, 0, off, cs, us, hs, h, hl => by
   simp at h
   subst h
   have he := hs e (by simp)
   rw [List.set_cons_zero, List.flatten_cons, List.flatten_cons, Nat.zero_mul, Nat.zero_add, List.take_append_of_le_length (by omega), List.drop_append_of_le_length (by omega)]
   simp
 | e :: es, i + 1, off, cs, us, hs, h, hl => by
   have he := hs e (by simp)
   have ih := flatten_set (fun e' h' => hs e' (List.mem_cons_of_mem _ h')) (i := i) (off := off) (cs := cs) (us := us) (by simpa using h) hl
   have h1 : e.take ((i + 1) * sz + off) = e := List.take_of_length_le (by rw [Nat.add_mul]; omega)
   have h2 : e.drop ((i + 1) * sz + off + us.length) = [] := List.drop_eq_nil_of_le (by rw [Nat.add_mul]; omega)
   have h3 : (i + 1) * sz + off - e.length = i * sz + off := by rw [Nat.add_mul]; omega
   have h4 : (i + 1) * sz + off + us.length - e.length = i * sz + off + us.length := by rw [Nat.add_mul]; omega
   rw [List.set_cons_succ, List.flatten_cons, List.flatten_cons, ih, List.take_append, List.drop_append, h1, h2, h3, h4, List.append_assoc, List.nil_append]
theorem allLeaf_splice {cs us : List AV} {a b : Nat} (h : allLeaf cs = true) (h' : allLeaf us = true) : allLeaf (cs.take a ++ (us ++ cs.drop b)) = true := by
 rw [allLeaf_iff] at *
 intro c hc
 simp only [List.mem_append] at hc
 rcases hc with hc | hc | hc
 · exact h c (List.mem_of_mem_take hc)
 · exact h' c hc
 · exact h c (List.mem_of_mem_drop hc)
theorem cellsOf_leaf {v : AV} {us : List AV} (h : cellsOf v = some us) : allLeaf us = true := by
 cases v <;> simp only [cellsOf] at h
 case agg cs =>
   obtain ⟨h1, h2⟩ := iteO_none h
   injection h2 with h2
   rw [← h2]; exact h1
 all_goals first | (injection h with h; subst h; rfl) | cases h
structure Moved (g g' : Ghost) (σ σ' : Store) (w' : World) : Prop where
 ext : Ext g g' σ.length
 inv : Inv g' σ' w'
 len : σ.length ≤ σ'.length
theorem set_other {σ : Store} {id : Nat} {o : AObj} (j : Nat) (hj : j ≠ id) : (σ.set id o)[j]? = σ[j]? := by rw [List.getElem?_set_ne (by omega)]
theorem store_sound {E : Env} {g : Ghost} {σ σ' : Store} {w : World} (hty : ∀ t i, E.ty t = some i → TyOk E.P t i) (hI : Inv g σ w) {t : Nat} {a v : AV} {addr val : Value}
   (h : aStore E σ t a v = some σ') (ha : Rep g a σ.length addr) (hv : Rep g v σ.length val) :
   ∃ g' w', (Instr.storeAt t addr val).run E.P w = .ok () w' ∧ Moved g g' σ σ' w' := by
 obtain ⟨ti, ht, h⟩ := bindO_eq h
 have hT := hty t ti ht
 cases a with
 | ptr id off =>
   obtain ⟨us, hu, h⟩ := bindO_eq h
   obtain ⟨hsz, h⟩ := iteO_none h
   have hsz := of_decide_eq_true hsz
   obtain ⟨cs, hc, h⟩ := bindO_eq h
   obtain ⟨cs', hp, h⟩ := bindO_eq h
   injection h with h
   subst h
   have hc := objVar_eq hc
   obtain ⟨hle, rfl⟩ := putAt_eq hp
   obtain ⟨hid, rfl⟩ := ha
   obtain ⟨vs, tt, hh, hr⟩ := hI.objs id _ hc
   obtain ⟨hur, hone⟩ := cellsOf_rep hu hv
   have hul := Reps.length hur
   have hvl := Reps.length hr
   have hb := hI.sep id _ _ hc rfl
   simp at hul hvl
   refine ⟨g, _, store_run hT hh hone (by omega) (by omega), Ext.refl g _, ?_, by simp⟩
   refine hI.change id (Ext.refl g _) (by simp) (fun j hj => set_other j hj) (fun _ _ => rfl) (fun k _ hk => setCells_other _ _ _ _ _ fun e => hk _ hc (by rw [e]; rfl)) (setCells_below (Nat.zero_le _) _ _ _)
     (by rw [setCells_size]; exact Nat.le_refl _) (fun _ _ _ h => .inl h) (fun o ho => ?_)
   rw [List.getElem?_set_self hid] at ho
   injection ho with ho
   subst ho
   refine ⟨⟨_, tt, setCells_heap _ _ _ _ _ _ _ hh (by simp; omega), ?_⟩, fun b hb' => ?_⟩
   · simpa using Reps.splice off hr hur
   · refine ⟨.inr ⟨_, hc, hb'⟩, ?_, ?_⟩
     · rw [setCells_size]; simp [owned] at hb'; subst hb'; exact hb.2.1
     · simp [owned] at hb'; subst hb'; exact hb.2.2
 | rptr id ver sz i off =>
   obtain ⟨q, hq, h⟩ := bindO_eq h
   obtain ⟨us, hu, h⟩ := bindO_eq h
   obtain ⟨hsz, h⟩ := iteO_none h
   have hsz := of_decide_eq_true hsz
   obtain ⟨p, hc, h⟩ := bindO_eq h
   obtain ⟨hsz', h⟩ := iteO_none h
   have hsz' := of_decide_eq_true hsz'
   obtain ⟨cs, hi, h⟩ := bindO_eq h
   obtain ⟨cs', hp, h⟩ := bindO_eq h
   injection h with h
   subst h
   have hc := cur_eq hc
   obtain ⟨hle, rfl⟩ := putAt_eq hp
   obtain ⟨g1, f1, r1⟩ := freeze_sound hI (Nat.le_refl _) hq hv
   obtain ⟨hid, b, ob, len, c, hhd, rfl⟩ := ha
   rw [← f1.hd] at hhd
   have hI1 := f1.inv
   obtain ⟨⟨a, cap, hh, hrow⟩, hs, hfresh⟩ := hI1.objs id _ hc
   rw [hhd] at hh
   injection hh with hh
   injection hh with ha hlen hcap
   have hcs := (hs cs (List.mem_of_getElem? hi)).1
   have hcl := (hs cs (List.mem_of_getElem? hi)).2
   rcases hrow with ⟨hnil, _⟩ | ⟨hcpos, hl, b', vs, tt, ha', hheap, hszv, hreps⟩
   · rw [hnil] at hi; simp at hi
   rw [← ha] at ha'
   injection ha' with ha'
   injection ha' with hbb hob
   subst hbb; subst hob
   have hown : owned g1 id (.row p.1 ver p.2) = some b := by simp only [owned, rowBlock, hhd]; rw [if_neg (by omega)]
   have hb := hI1.sep id _ b hc hown
   obtain ⟨hur, hone⟩ := cellsOf_rep hu r1
   have hul := Reps.length hur
   simp at hul
   have hil : i < p.2.length := (List.getElem?_eq_some_iff.1 hi).1
   have hfl := flatten_length (lengths hs)
   have hrl := Reps.length hreps
   rw [hfl] at hrl
   have hcapsz : p.2.length * p.1 ≤ vs.size := Nat.le_trans (Nat.mul_le_mul_right _ hl) hszv
   have hpos : i * p.1 + p.1 ≤ p.2.length * p.1 := by
     have := Nat.mul_le_mul_right p.1 (show i + 1 ≤ p.2.length from hil)
     rw [Nat.add_mul, Nat.one_mul] at this; exact this
   have hin : i * p.1 + off + us.length ≤ p.2.length * p.1 := by omega
   rw [Nat.zero_add]
   refine ⟨g1, _, store_run hT (b := b) (off := i * sz + off) hheap hone (by omega) (by rw [← hsz']; omega), f1.ext, ?_, by simp [f1.len]⟩
   have hid1 : id < q.2.length := by rw [f1.len]; exact hid
   refine hI1.change id (Ext.refl g1 _) (by simp) (fun j hj => set_other j hj) (fun _ _ => rfl) (fun k _ hk => setCells_other _ _ _ _ _ fun e => hk _ hc (by rw [e]; exact hown)) (setCells_below (Nat.zero_le _) _ _ _)
     (by rw [setCells_size]; exact Nat.le_refl _) (fun _ _ _ h => .inl h) (fun o ho => ?_)
   rw [List.getElem?_set_self hid1] at ho
   injection ho with ho
   subst ho
   subst hsz'
   refine ⟨⟨⟨a, cap, ?_, .inr ⟨hcpos, by simpa using hl, b, _, tt, ha.symm, setCells_heap _ _ _ _ _ _ _ hheap (by simp; omega), ?_, ?_⟩⟩, ?_, hfresh⟩, fun b' hb' => ?_⟩
   · rw [hhd, ← ha, hlen, hcap]; simp
   · simp
     omega
   · rw [flatten_set (lengths hs) hi (by omega)]
     have hsp := Reps.splice (i * p.1 + off) hreps hur
     simp only [List.length_set]
     rw [take_splice _ _ _ _ (by simp; omega) (by simp; omega)]
     exact hsp
   · intro e he
     rcases List.mem_or_eq_of_mem_set he with he | he
     · exact hs e he
     · rw [he]
       refine ⟨by simp; omega, allLeaf_splice hcl (cellsOf_leaf hu)⟩
   · have : owned g1 id (.row p.1 ver p.2) = some b' := by simpa [owned] using hb'
     rw [hown] at this
     injection this with this
     subst this
     refine ⟨.inr ⟨_, hc, hown⟩, ?_, hb.2.2⟩
     rw [setCells_size]; exact hb.2.1
 | _ => simp [aStoreV] at h
end Go.Abs
namespace Go.Abs
open Go.RowKit
variable {E : Env} {g : Ghost} {σ : Store} {w : World}
theorem tkStruct_eq {k : TK} {fs : List (Nat × Nat)} (h : tkStruct k = some fs) : k = .struct fs := by
 cases k <;> simp [tkStruct] at h; rw [h]
theorem tkSlice_eq {k : TK} {e : Nat} (h : tkSlice k = some e) : k = .slice e := by
 cases k <;> simp [tkSlice] at h; rw [h]
theorem tkMap_eq {k : TK} {e : Nat × Nat} (h : tkMap k = some e) : k = .map e.1 e.2 := by
 cases k <;> simp [tkMap] at h; rw [← h]
theorem desc_struct {d : TypeDesc} {gs : List (Nat × Nat)} (h : descOk d (.struct gs)) : ∃ fs, d = .struct fs ∧ fs.toList.map (fun f => (f.type, f.offset)) = gs := by
 cases d <;> simp [descOk] at h; exact ⟨_, rfl, h⟩
theorem desc_slice {d : TypeDesc} {e : Nat} (h : descOk d (.slice e)) : d = .slice e := by
 cases d <;> simp [descOk] at h; rw [h]
theorem desc_array {d : TypeDesc} {n e : Nat} (h : descOk d (.array n e)) : d = .array n e := by
 cases d <;> simp [descOk] at h; rw [h.1, h.2]
theorem desc_map {d : TypeDesc} {k e : Nat} (h : descOk d (.map k e)) : d = .map k e := by
 cases d <;> simp [descOk] at h; rw [h.1, h.2]
theorem desc_int {d : TypeDesc} {k : IntKind} (h : descOk d (.int k)) : d = .int k := by
 cases d <;> simp [descOk] at h; rw [h]
theorem desc_string {d : TypeDesc} (h : descOk d .string) : d = .string := by
 cases d <;> simp [descOk] at h; rfl
theorem desc_bool {d : TypeDesc} (h : descOk d .bool) : d = .bool := by
 cases d <;> simp [descOk] at h; rfl
theorem asI_rep {x : AV} {i : Int} {n : Nat} {v : Value} (h : asI x = some i) (hr : Rep g x n v) : ∃ k, v = .int k i := by
 cases x <;> simp [asI] at h
 subst h; exact ⟨_, hr⟩
theorem inB_eq {i : Int} {n : Nat} (h : inB i n = true) : 0 ≤ i ∧ i < (n : Int) := of_decide_eq_true h
theorem inS_eq {l h : Int} {n : Nat} (e : inS l h n = true) : 0 ≤ l ∧ l ≤ h ∧ h ≤ (n : Int) := of_decide_eq_true e
theorem fieldAddr_sound (hty : ∀ t i, E.ty t = some i → TyOk E.P t i) {s f : Nat} {a v : AV} {n : Nat} {addr : Value} (h : aFieldAddr E s a f = some v) (ha : Rep g a n addr) :
   ∃ u, (Instr.fieldAt s addr f).run E.P w = .ok u w ∧ Rep g v n u := by
 obtain ⟨ti, ht, h⟩ := bindO_eq h
 obtain ⟨fs, hfs, h⟩ := bindO_eq h
 obtain ⟨fo, hfo, h⟩ := bindO_eq h
 obtain ⟨fi, hfi, h⟩ := bindO_eq h
 have hT := hty s ti ht
 have hF := hty _ fi hfi
 obtain ⟨d, hd1, hd2⟩ := hT.und
 rw [tkStruct_eq hfs] at hd2
 obtain ⟨ffs, rfl, hm⟩ := desc_struct hd2
 have hz : fi.size ≠ 0 := by
   intro hz
   rw [hz] at h; simp [iteO] at h
 have h : aFieldAt fo.2 a = some v := by
   rcases iteO_eq h with ⟨_, h⟩ | ⟨_, h⟩
   · cases h
   · exact h
 rw [← hm, List.getElem?_map] at hfo
 obtain ⟨fl, hfl, hfe⟩ := Option.map_eq_some_iff.1 hfo
 have hfl' : ffs[f]? = some fl := by simpa using hfl
 have hso := run_sizeOf' hF w
 have h1 : fo.1 = fl.type := by rw [← hfe]
 have h2 : fo.2 = fl.offset := by rw [← hfe]
 rw [h1] at hso
 have hrun : ∀ ad, (Instr.fieldAt s (.pointer (some ad)) f).run E.P w = .ok (.pointer (some (ad.add fo.2))) w := fun ad => by
   simp [Instr.fieldAt, run_underlying hd1, hfl', Instr.sureAddr, fieldPlace, hso, hz, h2]
 cases a with
 | ptr id off =>
   obtain ⟨hid, rfl⟩ := ha
   injection h with h
   subst h
   exact ⟨_, hrun _, hid, by rw [Addr.add_mid]⟩
 | cref cs =>
   obtain ⟨b, o, rfl, hr⟩ := ha
   injection h with h
   subst h
   exact ⟨_, hrun _, b, o + fo.2, by rw [Addr.add_mid], RepC.drop _ hr⟩
 | rptr id ver sz i off =>
   obtain ⟨hid, b, o, len, c, hh, rfl⟩ := ha
   injection h with h
   subst h
   exact ⟨_, hrun _, hid, b, o, len, c, hh, by rw [Addr.add_mid, Nat.add_assoc, Nat.add_assoc]⟩
 | _ => simp [aFieldAt] at h
theorem part_sound {t : Nat} {ti : TInfo} (hT : TyOk E.P t ti) {cs : List AV} {off n : Nat} {v : AV} {vs : List Value} (h : partOf ti cs off = some v) (hr : Reps g cs n vs) :
   ∃ u, (part t vs.toArray off).run E.P w = .ok u w ∧ Rep g v n u := by
 have hagg := run_isAgg' hT w
 have hso := run_sizeOf' hT w
 simp only [partOf] at h
 cases hk : ti.k.agg with
 | true =>
   rw [hk] at h hagg
   simp only [partK] at h
   obtain ⟨hle, h⟩ := iteO_none h
   injection h with h
   subst h
   refine ⟨.agg ((vs.drop off).take ti.size).toArray, ?_, _, rfl, Reps.take _ (Reps.drop _ hr)⟩
   simp [part, hagg, hso]
 | false =>
   rw [hk] at h hagg
   simp only [partK] at h
   obtain ⟨u, h1, h2⟩ := Reps.get hr h
   exact ⟨u, by simp [part, hagg, h1], h2⟩
theorem field_sound (hty : ∀ t i, E.ty t = some i → TyOk E.P t i) {t f : Nat} {x v : AV} {n : Nat} {val : Value} (h : aField E t x f = some v) (hx : Rep g x n val) :
   ∃ u, (Instr.field t val f).run E.P w = .ok u w ∧ Rep g v n u := by
 obtain ⟨ti, ht, h⟩ := bindO_eq h
 obtain ⟨fs, hfs, h⟩ := bindO_eq h
 obtain ⟨fo, hfo, h⟩ := bindO_eq h
 obtain ⟨fi, hfi, h⟩ := bindO_eq h
 have hT := hty t ti ht
 have hF := hty _ fi hfi
 obtain ⟨d, hd1, hd2⟩ := hT.und
 rw [tkStruct_eq hfs] at hd2
 obtain ⟨ffs, rfl, hm⟩ := desc_struct hd2
 rw [← hm, List.getElem?_map] at hfo
 obtain ⟨fl, hfl, hfe⟩ := Option.map_eq_some_iff.1 hfo
 have hfl' : ffs[f]? = some fl := by simpa using hfl
 have h1 : fo.1 = fl.type := by rw [← hfe]
 have h2 : fo.2 = fl.offset := by rw [← hfe]
 cases x with
 | agg cs =>
   obtain ⟨vs, rfl, hr⟩ := hx
   have h : partOf fi cs fo.2 = some v := h
   obtain ⟨u, hu, hr⟩ := part_sound (w := w) hF h hr
   refine ⟨u, ?_, hr⟩
   rw [h1, h2] at hu
   simp [Instr.field, run_underlying hd1, hfl', asAgg, hu]
 | _ => simp [aFieldV] at h
theorem indexAddr_sound (hty : ∀ t i, E.ty t = some i → TyOk E.P t i) (hI : Inv g σ w) {t : Nat} {x i v : AV} {n : Nat} {xv iv : Value} (h : aIndexAddr E σ t x i = some v)
   (hx : Rep g x n xv) (hi : Rep g i n iv) : ∃ u, (Instr.indexAt t xv iv).run E.P w = .ok u w ∧ Rep g v n u := by
 obtain ⟨ti, ht, h⟩ := bindO_eq h
 obtain ⟨j, hj, h⟩ := bindO_eq h
 have hT := hty t ti ht
 obtain ⟨d, hd1, hd2⟩ := hT.und
 obtain ⟨k, rfl⟩ := asI_rep hj hi
 cases hk : ti.k with
 | slice e =>
   rw [hk] at h hd2
   obtain ⟨ei, hei, h⟩ := bindO_eq h
   have hE := run_sizeOf' (hty e ei hei) w
   have hd := desc_slice hd2
   subst hd
   cases x with
   | sl f sz es =>
     obtain ⟨hsz, h⟩ := iteO_none h
     obtain ⟨hb, h⟩ := iteO_none h
     injection h with h
     subst h
     have hsz := of_decide_eq_true hsz
     have hb := inB_eq hb
     obtain ⟨a, cap, rfl, _, _, hr⟩ := hx
     rcases hr with rfl | ⟨b, o, rfl, hr⟩
     · simp at hb; omega
     · have hlt : j.toNat < es.length := by omega
       have hget : es[j.toNat]? = some (es.getD j.toNat []) := by
         rw [List.getElem?_eq_getElem hlt, List.getD_eq_getElem?_getD, List.getElem?_eq_getElem hlt]; rfl
       have := (RepE.get hr hget).1
       refine ⟨.pointer (some ⟨b, o + j.toNat * sz, none⟩), ?_, b, _, rfl, this⟩
       simp [Instr.indexAt, asIntOf, run_underlying hd1, hE, hb, hsz, Addr.add_mid]
   | rs id ver =>
     obtain ⟨p, hc, h⟩ := bindO_eq h
     obtain ⟨hsz, h⟩ := iteO_none h
     obtain ⟨hb, h⟩ := iteO_none h
     injection h with h
     subst h
     have hsz := of_decide_eq_true hsz
     have hb := inB_eq hb
     obtain ⟨hid, hh, _⟩ := hx
     have key : ∀ (a : Option Addr) (cap : Nat), g.hd id ver = some (.slice a p.2.length cap) → ((p.2 = [] ∨ ∃ b o, a = some ⟨b, o, none⟩)) → ∃ u, (Instr.indexAt t xv (Value.int k j)).run E.P w = .ok u w ∧ Rep g (.rptr id ver p.1 j.toNat 0) n u := fun a cap hh' hor => by
       rw [hh] at hh'
       injection hh' with hh'
       subst hh'
       rcases hor with hnil | ⟨b, o, rfl⟩
       · rw [hnil] at hb; simp at hb; omega
       · refine ⟨.pointer (some ⟨b, o + j.toNat * p.1, none⟩), ?_, hid, b, o, _, _, hh, by simp⟩
         simp [Instr.indexAt, asIntOf, run_underlying hd1, hE, hb, hsz, Addr.add_mid]
     have row : ∀ (a : Option Addr) (cap : Nat), RowOk g w p.1 p.2 a cap → (p.2 = [] ∨ ∃ b o, a = some ⟨b, o, none⟩) := fun a cap hrow => by
       rcases hrow with ⟨hnil, _⟩ | ⟨hcpos, hl, b, vs, tt, rfl, hheap, hszv, hreps⟩
       · exact .inl hnil
       · exact .inr ⟨b, 0, rfl⟩
     rcases curA_eq hc with hc | hc
     · obtain ⟨⟨a, cap, hh', hrow⟩, hs, _⟩ := hI.objs id _ hc
       exact key a cap hh' (row a cap hrow)
     · obtain ⟨⟨a, cap, hh', hap⟩, hs, _⟩ := hI.objs id _ hc
       cases hf : foreign g id ver with
       | true => rw [hf] at hap; exact key a cap hh' (hap.2.imp (fun h => h) fun ⟨b, o, ha, _⟩ => ⟨b, o, ha⟩)
       | false => rw [hf] at hap; exact key a cap hh' (row a cap hap)
   | _ => simp [aAtSlice] at h
 | array m e =>
   rw [hk] at h hd2
   obtain ⟨ei, hei, h⟩ := bindO_eq h
   have hE := run_sizeOf' (hty e ei hei) w
   have hd := desc_array hd2
   subst hd
   cases x with
   | ptr id off =>
     obtain ⟨hb, h⟩ := iteO_none h
     injection h with h
     subst h
     have hb := inB_eq hb
     obtain ⟨hid, rfl⟩ := hx
     refine ⟨_, ?_, hid, rfl⟩
     simp [Instr.indexAt, asIntOf, run_underlying hd1, hE, hb, Instr.sureAddr, Addr.add_mid]
   | _ => simp [aAtArray] at h
 | _ => rw [hk] at h; simp [aIndexAddrK] at h
theorem index_sound (hty : ∀ t i, E.ty t = some i → TyOk E.P t i) {t : Nat} {x i v : AV} {n : Nat} {xv iv : Value} (h : aIndex E t x i = some v)
   (hx : Rep g x n xv) (hi : Rep g i n iv) : ∃ u, (Instr.index t xv iv).run E.P w = .ok u w ∧ Rep g v n u := by
 obtain ⟨ti, ht, h⟩ := bindO_eq h
 obtain ⟨j, hj, h⟩ := bindO_eq h
 have hT := hty t ti ht
 obtain ⟨d, hd1, hd2⟩ := hT.und
 obtain ⟨k, rfl⟩ := asI_rep hj hi
 cases hk : ti.k with
 | string =>
   rw [hk] at h hd2
   have hd := desc_string hd2
   subst hd
   cases x with
   | str s =>
     obtain ⟨hb, h⟩ := iteO_none h
     injection h with h
     subst h
     have hb := inB_eq hb
     have hx : xv = .string s := hx
     subst hx
     have hlt : j.toNat < s.size := by omega
     refine ⟨.int .u8 (bt s j), ?_, rfl⟩
     have hget : s[j.toNat]? = some (s.data.toList.getD j.toNat 0) := by
       rw [getElem?_pos s j.toNat hlt]
       simp only [List.getD_eq_getElem?_getD]
       rw [List.getElem?_eq_getElem (by simpa using hlt)]
       rfl
     simp [Instr.index, asIntOf, run_underlying hd1, hb.1, hget, bt]
   | _ => simp [aIndexK] at h
 | array m e =>
   rw [hk] at h hd2
   have hd := desc_array hd2
   subst hd
   cases x with
   | agg cs =>
     obtain ⟨ei, hei, h⟩ := bindO_eq h
     have hE := run_sizeOf' (hty e ei hei) w
     obtain ⟨hb, h⟩ := iteO_none h
     have hb := inB_eq hb
     obtain ⟨vs, rfl, hr⟩ := hx
     obtain ⟨u, hu, hr⟩ := part_sound (w := w) (hty e ei hei) h hr
     refine ⟨u, ?_, hr⟩
     simp [Instr.index, asIntOf, run_underlying hd1, hb, hE, hu]
   | _ => simp [aIndexK] at h
 | _ => rw [hk] at h; simp [aIndexK] at h
end Go.Abs
namespace Go.Abs
open Go.RowKit
variable {E : Env} {g : Ghost} {σ : Store} {w : World}
def EqOk (P : Program) (t : Nat) (ss : List TK) : Prop :=
 ∀ (g : Ghost) (n : Nat) (xs ys : List AV) (vs us : List Value) (r : Bool) (w : World), eqCells ss xs ys = some r → Reps g xs n vs → Reps g ys n us →
   (Op.equal t (.agg vs.toArray) (.agg us.toArray)).run P w = .ok r w ∧ P.eqGuardType P.depth t = false
theorem arith_sound {P : Program} {op : BinOp} {t : Nat} {k k' : IntKind} {x y : Operand} {a b : Int} {v : AV} (hk : (BinOp.shifts op || decide (k = k')) = true) (h : aArith op k a b = some v) :
   ∃ u, (do eqGuard op t x y (.int k a) (.int k' b); binOp op t (.int k a) (.int k' b)).run P w = .ok u w ∧ Rep g v 0 u := by
 have hg : (eqGuard op t x y (.int k a) (.int k' b)).run P w = .ok () w := by
   unfold eqGuard
   split <;> rfl
 cases op with
 | shl =>
   simp only [aArith] at h
   rcases iteO_eq h with ⟨_, h⟩ | ⟨hb, h⟩
   · cases h
   · injection h with h; subst h
     have hb : ¬ b < 0 := by simpa using hb
     refine ⟨_, ?_, rfl⟩
     rw [Sem.run_bind, hg]
     simp only [Result.andThen_ok, binOp, Op.shift]
     rw [if_neg hb]; rfl
 | shr =>
   simp only [aArith] at h
   rcases iteO_eq h with ⟨_, h⟩ | ⟨hb, h⟩
   · cases h
   · injection h with h; subst h
     have hb : ¬ b < 0 := by simpa using hb
     refine ⟨_, ?_, rfl⟩
     rw [Sem.run_bind, hg]
     simp only [Result.andThen_ok, binOp, Op.shift]
     rw [if_neg hb]; rfl
 | quo =>
   have hk : k = k' := by simpa [BinOp.shifts] using hk
   subst hk
   simp only [aArith] at h
   rcases iteO_eq h with ⟨_, h⟩ | ⟨hb, h⟩
   · cases h
   · injection h with h; subst h
     have hb : ¬ b = 0 := by simpa using hb
     refine ⟨_, ?_, rfl⟩
     rw [Sem.run_bind, hg]
     simp [binOp, Op.intDiv, hb]
 | rem =>
   have hk : k = k' := by simpa [BinOp.shifts] using hk
   subst hk
   simp only [aArith] at h
   rcases iteO_eq h with ⟨_, h⟩ | ⟨hb, h⟩
   · cases h
   · injection h with h; subst h
     have hb : ¬ b = 0 := by simpa using hb
     refine ⟨_, ?_, rfl⟩
     rw [Sem.run_bind, hg]
     simp [binOp, Op.intDiv, hb]
 | _ =>
   have hk : k = k' := by simpa [BinOp.shifts] using hk
   subst hk
   simp only [aArith] at h
   injection h with h
   subst h
   refine ⟨_, ?_, rfl⟩
   rw [Sem.run_bind, hg]
   simp [binOp, Op.intArith, Op.intBits, Op.intCmp]
theorem str_sound {P : Program} {op : BinOp} {t : Nat} {x y : Operand} {a b : ByteArray} {v : AV} (h : aStr op a b = some v) :
   ∃ u, (do eqGuard op t x y (.string a) (.string b); binOp op t (.string a) (.string b)).run P w = .ok u w ∧ Rep g v 0 u := by
 have hg : (eqGuard op t x y (.string a) (.string b)).run P w = .ok () w := by
   unfold eqGuard
   split <;> rfl
 cases op <;> simp only [aStr] at h
 case add =>
   obtain ⟨hb, h⟩ := iteO_none h
   injection h with h; subst h
   have hb := of_decide_eq_true hb
   refine ⟨_, ?_, rfl⟩
   rw [Sem.run_bind, hg]
   have : ¬ (((a.size + b.size : Nat) : Int) > IntKind.i64.max) := by simp [IntKind.max, IntKind.signed, IntKind.bits]; omega
   simp only [Result.andThen_ok, binOp, Op.stringOp]
   rw [if_neg this]; rfl
 all_goals first
   | (injection h with h; subst h; refine ⟨_, ?_, rfl⟩; rw [Sem.run_bind, hg]; rfl)
   | cases h
theorem bin_sound (hty : ∀ t i, E.ty t = some i → TyOk E.P t i) (heq : ∀ t ss, E.eqt t = some ss → EqOk E.P t ss) {op : BinOp} {t : Nat} {x y : Operand} {a b v : AV} {n : Nat} {av bv : Value}
   (h : aBin E op t a b = some v) (ha : Rep g a n av) (hb : Rep g b n bv) :
   ∃ u, (do eqGuard op t x y av bv; binOp op t av bv).run E.P w = .ok u w ∧ Rep g v n u := by
 have up : ∀ {v : AV} {u : Value}, Rep g v 0 u → Rep g v n u := fun h => Rep.mono (Ext.refl g n) _ 0 n _ (Nat.zero_le _) (Nat.zero_le _) h
 cases a with
 | int k i =>
   cases b with
   | int k' j =>
     obtain ⟨hk, h⟩ := iteO_none h
     have ha : av = .int k i := ha
     have hb : bv = .int k' j := hb
     subst ha; subst hb
     obtain ⟨u, h1, h2⟩ := arith_sound (P := E.P) (t := t) (x := x) (y := y) (g := g) (w := w) hk h
     exact ⟨u, h1, up h2⟩
   | _ => simp [aBin] at h
 | str s =>
   cases b with
   | str r =>
     have ha : av = .string s := ha
     have hb : bv = .string r := hb
     subst ha; subst hb
     obtain ⟨u, h1, h2⟩ := str_sound (P := E.P) (t := t) (x := x) (y := y) (g := g) (w := w) (show aStr op s r = some v from h)
     exact ⟨u, h1, up h2⟩
   | _ => simp [aBin] at h
 | bool s =>
   cases b with
   | bool r =>
     have ha : av = .bool s := ha
     have hb : bv = .bool r := hb
     subst ha; subst hb
     obtain ⟨ti, ht, h⟩ := bindO_eq h
     obtain ⟨_, hk, h⟩ := bindO_eq h
     obtain ⟨d, hd1, hd2⟩ := (hty t ti ht).und
     have hk : ti.k = .bool := by cases hk' : ti.k <;> simp [hk', tkBool] at hk; rfl
     rw [hk] at hd2
     have hd := desc_bool hd2
     subst hd
     have hg : (eqGuard op t x y (.bool s) (.bool r)).run E.P w = .ok () w := by
       unfold eqGuard
       split <;> rfl
     have hq : (Op.equal t (.bool s) (.bool r)).run E.P w = .ok (s == r) w := by
       show (Op.equalIn (9999 + 1) t (.bool s) (.bool r)).run E.P w = _
       unfold Op.equalIn
       rw [Sem.run_bind, run_underlying hd1 w]
       rfl
     cases op <;> simp [eqResult] at h <;> subst h <;> refine ⟨_, ?_, rfl⟩ <;> rw [Sem.run_bind, hg] <;> simp [binOp, hq]
   | _ => simp [aBin] at h
 | agg xs =>
   cases b with
   | agg ys =>
     obtain ⟨ss, hs, h⟩ := bindO_eq h
     obtain ⟨r, hr, h⟩ := bindO_eq h
     obtain ⟨vs, rfl, hvs⟩ := ha
     obtain ⟨us, rfl, hus⟩ := hb
     obtain ⟨hq, hgd⟩ := heq t ss hs g n xs ys vs us r w hr hvs hus
     have hg : (eqGuard op t x y (.agg vs.toArray) (.agg us.toArray)).run E.P w = .ok () w := by
       clear h
       cases op <;> first | rfl | simp [eqGuard, hgd]
     cases op <;> simp [eqResult] at h <;> subst h <;> refine ⟨_, ?_, rfl⟩ <;> rw [Sem.run_bind, hg] <;> simp [binOp, hq]
   | _ => simp [aBin] at h
 | _ => simp [aBin] at h
theorem un_sound {P : Program} {op : UnOp} {x v : AV} {n : Nat} {xv : Value} (h : aUn op x = some v) (hx : Rep g x n xv) : ∃ u, (Op.unary op xv).run P w = .ok u w ∧ Rep g v n u := by
 cases op <;> cases x <;> simp [aUn] at h
 · subst h; have hx : xv = _ := hx; subst hx
   refine ⟨_, rfl, ?_⟩
   simp [Rep]
 · subst h; have hx : xv = _ := hx; subst hx
   exact ⟨_, rfl, rfl⟩
theorem conv_sound (hty : ∀ t i, E.ty t = some i → TyOk E.P t i) {s d : Nat} {x v : AV} {n : Nat} {xv : Value} (h : aConvert E s d x = some v) (hx : Rep g x n xv) :
   ∃ u, (convert s d xv).run E.P w = .ok u w ∧ Rep g v n u := by
 obtain ⟨si, hs, h⟩ := bindO_eq h
 obtain ⟨di, hd, h⟩ := bindO_eq h
 obtain ⟨ds, hs1, hs2⟩ := (hty s si hs).und
 obtain ⟨dd, hd1, hd2⟩ := (hty d di hd).und
 cases hsk : si.k <;> cases hdk : di.k <;> rw [hsk, hdk] at h <;> cases x <;> simp [aConvertK] at h
 · subst h
   rw [hsk] at hs2; rw [hdk] at hd2
   have := desc_int hs2; subst this
   have := desc_int hd2; subst this
   have hx : xv = _ := hx; subst hx
   refine ⟨_, ?_, rfl⟩
   simp [convert, run_underlying hs1, run_underlying hd1, Conv.intToInt]
 · subst h
   rw [hsk] at hs2; rw [hdk] at hd2
   have := desc_string hs2; subst this
   have := desc_string hd2; subst this
   have hx : xv = _ := hx; subst hx
   refine ⟨_, ?_, rfl⟩
   simp [convert, run_underlying hs1, run_underlying hd1]
end Go.Abs
namespace Go.Abs
open Go.RowKit
variable {E : Env} {g : Ghost} {σ : Store} {w : World}
theorem Reps.flatten_one {g : Ghost} {sz n : Nat} {es : List (List AV)} {vs : List Value} (hs : ∀ e ∈ es, ElemOk sz e) (h : Reps g es.flatten n vs) : vs.all (·.oneCell') = true := by
 refine allLeaf_one (g := g) (n := n) (cs := es.flatten) ?_ h
 rw [allLeaf_iff]
 intro c hc
 obtain ⟨e, he, hc⟩ := List.mem_flatten.1 hc
 exact allLeaf_iff.1 (hs e he).2 c hc
theorem src_cells {f : Bool} {sx n : Nat} {xs : List (List AV)} {xv : Value} (hx : Rep g (.sl f sx xs) n xv) :
   ∃ news ax cx, xv = .slice ax xs.length cx ∧ Reps g xs.flatten 0 news ∧ (xs ≠ [] → news.length = xs.length * sx) ∧ news.all (·.oneCell') = true ∧ (∀ e ∈ xs, ElemOk sx e) ∧
     ∀ (P : Program) (w' : World), (∀ b o v, g.C b o = some v → w'.cell? ⟨b, o, none⟩ = some v) → (Builtin.firstCells sx xs.length xv).run P w' = .ok news.toArray w' := by
 obtain ⟨a, cap, rfl, hl, _, hr⟩ := hx
 rcases hr with rfl | ⟨b, o, rfl, hr⟩
 · refine ⟨[], a, cap, rfl, rfl, by simp, rfl, by simp, fun P w' _ => ?_⟩
   cases a <;> simp [Builtin.firstCells, loadCells, loadCellsFrom]
 · have hs := RepE.size hr
   obtain ⟨news, h1, h2⟩ := RepC.reps (RepE.reps hr)
   have hlen : news.length = xs.length * sx := by rw [Reps.length h1, flatten_length (lengths hs)]
   refine ⟨news, _, cap, rfl, h1, fun _ => hlen, Reps.flatten_one hs h1, hs, fun P w' hw' => ?_⟩
   refine run_firstCells_some w' sx xs.length ⟨b, o, none⟩ xs.length cap news hlen fun j v hj => ?_
   rw [Addr.add_mid]
   exact hw' b (o + j) v (h2 j v hj)
theorem set_same {σ : Store} {id : Nat} {o o' : AObj} (h : σ[id]? = some o) : (σ.set id o')[id]? = some o' := by
 rw [List.getElem?_set_self (List.getElem?_eq_some_iff.1 h).1]
def Ghost.ver (g : Ghost) (id ver : Nat) (v : Value) : Ghost := { g with hd := fun j k => if j = id ∧ k = ver then some v else g.hd j k }
theorem Ghost.ver_ext (g : Ghost) (id ver n : Nat) (v : Value) (h : g.hd id ver = none) : Ext g (g.ver id ver v) n := by
 refine ⟨fun _ _ _ hv => hv, fun _ _ => rfl, fun j _ k u hu => ?_, Tie.refl _ _⟩
 simp only [Ghost.ver]
 rw [if_neg]
 · exact hu
 · rintro ⟨rfl, rfl⟩
   rw [h] at hu
   cases hu
theorem Ghost.ver_same (g : Ghost) (id ver : Nat) (v : Value) : (g.ver id ver v).hd id ver = some v := by simp [Ghost.ver]
theorem Ghost.ver_other (g : Ghost) (id ver : Nat) (v : Value) (j : Nat) (h : j ≠ id) : (g.ver id ver v).hd j = g.hd j := by
 funext k; simp [Ghost.ver, h]
theorem Ghost.ver_later (g : Ghost) (id ver : Nat) (v : Value) (k : Nat) (h : ver < k) : (g.ver id ver v).hd id k = g.hd id k := by
 simp only [Ghost.ver]; rw [if_neg]; rintro ⟨_, rfl⟩; omega
theorem append_run {P : Program} {t e : TypeId} {i : TypeInfo} {z : Value} (ty : TypeId) (ht : P.underlying t = some (.slice e)) (hi : P.info? e = some i) (hz : i.zero = some z)
   {a : Option Addr} {n cap : Nat} {ax : Option Addr} {m cx : Nat} {olds news : List Value}
   (hnew : ∀ w', w'.heap = w.heap → (Builtin.firstCells i.size m (.slice ax m cx)).run P w' = .ok news.toArray w')
   (hold : ∀ w', w'.heap = w.heap → (Builtin.firstCells i.size n (.slice a n cap)).run P w' = .ok olds.toArray w')
   (hg : cap < n + m) (h63 : n + m ≤ 140737488355328) (hb : (n + m) * i.bytes ≤ 140737488355328) :
   (Builtin.append_ #[t, t] ty #[.slice a n cap, .slice ax m cx]).run P w =
     .ok (.slice (some ⟨w.heap.size, 0, none⟩) (n + m) (grownCap w (n + m) cap e))
       (w.drew.alloc (.cells (olds ++ news ++ (Builtin.zeroCells z.cells (grownCap w (n + m) cap e - (n + m))).toList).toArray e)) := by
 have hn : ¬ (n + m ≤ cap) := by omega
 have h63' : ¬ (9223372036854775807 < ((n : Int) + (m : Int))) := by omega
 have h48' : ¬ (281474976710656 < Builtin.nextslicecap (n + m) cap * i.bytes) := by have := growslice_fits (old := cap) (by omega) hb; omega
 have hf := hnew w.drew rfl
 have hfo := hold w.drew rfl
 simp [Builtin.append_, run_underlying ht, sizeOf, typeInfo, zeroValue, hi, hz, Builtin.lenOf, hn, h63', h48', Question.forced, hf, hfo, newRow, grownCap]
 congr 2
 apply Array.ext'
 simp
theorem append_room {P : Program} {t e : TypeId} {i : TypeInfo} (ty : TypeId) (ht : P.underlying t = some (.slice e)) (hi : P.info? e = some i)
   {a : Option Addr} {n cap : Nat} {ax : Option Addr} {m cx : Nat} {news : List Value} {w' : World}
   (hnew : (Builtin.firstCells i.size m (.slice ax m cx)).run P w = .ok news.toArray w)
   (hst : (match a with | some ad => storeCells (ad.add (n * i.size)) news | none => pure ()).run P w = .ok () w') (hg : n + m ≤ cap) :
   (Builtin.append_ #[t, t] ty #[.slice a n cap, .slice ax m cx]).run P w = .ok (.slice a (n + m) cap) w' := by
 cases a with
 | none => simp at hst; subst hst; simp [Builtin.append_, run_underlying ht, sizeOf, typeInfo, hi, Builtin.lenOf, hg, hnew]
 | some ad => simp only at hst; simp [Builtin.append_, run_underlying ht, sizeOf, typeInfo, hi, Builtin.lenOf, hg, hnew, hst]
theorem ElemOk.flatten_len {sz : Nat} {es : List (List AV)} (h : ∀ e ∈ es, ElemOk sz e) : es.flatten.length = es.length * sz := flatten_length (lengths h)
theorem fits_eq {n b : Nat} (h : fits n b = true) : n * b ≤ 140737488355328 ∧ n ≤ 140737488355328 := of_decide_eq_true h
theorem row_cells {sz : Nat} {es : List (List AV)} {a : Option Addr} {cap : Nat} (h : RowOk g w sz es a cap) (hs : ∀ e ∈ es, ElemOk sz e) :
   ∃ olds, Reps g es.flatten 0 olds ∧ olds.length = es.length * sz ∧ ∀ (P : Program) (w' : World), w'.heap = w.heap → (Builtin.firstCells sz es.length (.slice a es.length cap)).run P w' = .ok olds.toArray w' := by
 rcases h with ⟨rfl, rfl⟩ | ⟨hc, hl, b, vs, t, rfl, hh, hsz, hr⟩
 · refine ⟨[], rfl, by simp, fun P w' _ => ?_⟩
   cases a <;> simp [Builtin.firstCells, loadCells, loadCellsFrom]
 · have hlen := Reps.length hr
   rw [ElemOk.flatten_len hs] at hlen
   refine ⟨_, hr, hlen, fun P w' hw' => ?_⟩
   refine run_firstCells_some w' sz es.length ⟨b, 0, none⟩ es.length cap _ hlen fun j v hj => ?_
   rw [Addr.add_mid, Nat.zero_add]
   rw [List.getElem?_take] at hj
   split at hj
   · rw [cell_of_block (hw' ▸ hh)]; simpa using hj
   · cases hj
theorem append_rs (hty : ∀ t i, E.ty t = some i → TyOk E.P t i) (hI : Inv g σ w) {t e : Nat} {ei : TInfo} (ty : TypeId) (hse : E.P.underlying t = some (.slice e)) (hei : E.ty e = some ei)
   {id ver sz n : Nat} {es xs : List (List AV)} {f : Bool} {sv xv : Value} (hc : σ[id]? = some (.row sz ver es)) (hsz : sz = ei.size) (hfit : fits (es.length + xs.length) ei.bytes = true)
   (hs : g.hd id ver = some sv) (hx : Rep g (.sl f ei.size xs) n xv) :
   ∃ g' w' u, (Builtin.append_ #[t, t] ty #[sv, xv]).run E.P w = .ok u w' ∧ Moved g g' σ (σ.set id (.row sz (ver + 1) (es ++ xs))) w' ∧ g'.hd id (ver + 1) = some u ∧ u.oneCell' = true := by
 obtain ⟨ti, z, hinfo, hts, htb, htz, hzr, hz1, hzl, _⟩ := (hty e ei hei).info
 obtain ⟨hfb, hfn⟩ := fits_eq hfit
 obtain ⟨news, ax, cx, rfl, hnr, hnl, hn1, hxs, hnrun⟩ := src_cells hx
 obtain ⟨⟨a, cap, hh, hrow⟩, hes, hfresh⟩ := hI.objs id _ hc
 rw [hs] at hh
 injection hh with hh
 subst hh
 subst hsz
 have hall : ∀ e' ∈ es ++ xs, ElemOk ei.size e' := fun e' he' => by
   rcases List.mem_append.1 he' with h | h
   · exact hes e' h
   · exact hxs e' h
 have hCw : ∀ w' : World, w'.heap = w.heap → ∀ b o v, g.C b o = some v → w'.cell? ⟨b, o, none⟩ = some v := fun w' hw' b o v hv => by
   rw [World.cell?_of_block (w := w) (w' := w') (a := ⟨b, o, none⟩) (by rw [hw'])]
   exact hI.comm b o v hv
 have hnone := hfresh (ver + 1) (by omega)
 have hidlt : id < σ.length := (List.getElem?_eq_some_iff.1 hc).1
 have hnl' : news.length = xs.length * ei.size := by rw [Reps.length hnr, ElemOk.flatten_len hxs]
 have hown_old : ∀ b, owned g id (.row ei.size ver es) = some b → ¬ g.fixed b ∧ b < w.heap.size ∧ ∀ off, g.C b off = none := fun b hb => hI.sep id _ b hc hb
 by_cases hroom : es.length + xs.length ≤ cap
 · -- in place
   let u : Value := .slice a (es.length + xs.length) cap
   have he := g.ver_ext id (ver + 1) σ.length u hnone
   rcases hrow with ⟨hnil, hc0⟩ | ⟨hcpos, hl, b, vs, tt, ha, hheap, hszv, hreps⟩
   · -- nothing is there, nothing comes
     have hx0 : xs = [] := by
       have : xs.length = 0 := by omega
       exact List.eq_nil_of_length_eq_zero this
     subst hx0
     subst hnil
     have hn0 : news = [] := by have h2 : news.length = 0 := by simpa using hnl'
                                exact List.eq_nil_of_length_eq_zero h2
     subst hn0
     refine ⟨g.ver id (ver + 1) u, w, u, ?_, ⟨he, ?_, by simp⟩, g.ver_same id (ver + 1) u, rfl⟩
     · refine append_room ty hse hinfo (by rw [hts]; exact hnrun E.P w (hCw w rfl)) ?_ hroom
       cases a <;> rfl
     · refine hI.change id he (by simp) (fun j hj => set_other j hj) (fun j hj => g.ver_other id _ u j hj) (fun _ _ _ => rfl) (Below.refl _ _) (Nat.le_refl _) (fun _ _ _ h => .inl h) (fun o ho => ?_)
       rw [set_same hc] at ho
       injection ho with ho
       subst ho
       refine ⟨⟨⟨a, cap, g.ver_same id (ver + 1) u, .inl ⟨rfl, hc0⟩⟩, hall, fun k hk => ?_⟩, fun b hb => ?_⟩
       · rw [g.ver_later id (ver + 1) u k hk]; exact hfresh k (by omega)
       · simp only [owned, rowBlock, g.ver_same id (ver + 1) u, u] at hb
         cases a <;> simp [hc0] at hb
   · have hown : owned g id (.row ei.size ver es) = some b := by simp only [owned, rowBlock, hs, ha]; rw [if_neg (by omega)]
     obtain ⟨hb1, hb2, hb3⟩ := hown_old b hown
     have hle : (es.length + xs.length) * ei.size ≤ vs.size := Nat.le_trans (Nat.mul_le_mul_right _ hroom) hszv
     have hle2 : es.length * ei.size + news.length ≤ vs.size := by rw [hnl', ← Nat.add_mul]; exact hle
     have hst := run_storeCells_cells (P := E.P) b (es.length * ei.size) news 0 w (fun j hj => by rw [cell_of_block hheap]; simp; omega) (fun j hj => by simp [World.frozen?, hheap])
       (fun v hv => by simpa using List.all_eq_true.1 hn1 v hv)
     refine ⟨g.ver id (ver + 1) u, w.setCells b (es.length * ei.size) news, u, ?_, ⟨he, ?_, by simp⟩, g.ver_same id (ver + 1) u, rfl⟩
     · refine append_room ty hse hinfo (by rw [hts]; exact hnrun E.P w (hCw w rfl)) ?_ hroom
       rw [ha]
       simp only [Addr.add_mid, Nat.zero_add]
       rw [hts]; exact hst
     · refine hI.change id he (by simp) (fun j hj => set_other j hj) (fun j hj => g.ver_other id _ u j hj) (fun k _ hk => setCells_other _ _ _ _ _ fun e => hk _ hc (by rw [e]; exact hown)) (setCells_below (Nat.zero_le _) _ _ _)
         (by rw [setCells_size]; exact Nat.le_refl _) (fun _ _ _ h => .inl h) (fun o ho => ?_)
       rw [set_same hc] at ho
       injection ho with ho
       subst ho
       refine ⟨⟨⟨a, cap, by rw [List.length_append]; exact g.ver_same id (ver + 1) u, .inr ⟨hcpos, by simpa using hroom, b, _, tt, ha, setCells_heap _ _ _ _ _ _ _ hheap hle2, ?_, ?_⟩⟩, hall, fun k hk => ?_⟩, fun b' hb' => ?_⟩
       · simp; omega
       · have h1 := Reps.append (Reps.mono he _ 0 0 _ (Nat.zero_le _) (Nat.le_refl _) hreps) (Reps.mono he _ 0 0 _ (Nat.zero_le _) (Nat.le_refl _) hnr)
         rw [List.flatten_append]
         have h2 : (vs.toList.take (es.length * ei.size) ++ (news ++ vs.toList.drop (es.length * ei.size + news.length))).take ((es ++ xs).length * ei.size) = vs.toList.take (es.length * ei.size) ++ news := by
           rw [List.length_append, Nat.add_mul, ← hnl']
           rw [← List.append_assoc]
           rw [List.take_left']
           simp; omega
         simp only [h2]
         exact h1
       · rw [g.ver_later id (ver + 1) u k hk]; exact hfresh k (by omega)
       · have hbb : owned (g.ver id (ver + 1) u) id (.row ei.size (ver + 1) (es ++ xs)) = some b := by
           simp only [owned, rowBlock, g.ver_same id (ver + 1) u]
           show (match some u with | some (Value.slice (some a) _ cap) => if cap = 0 then none else some a.block | _ => none) = some b
           simp only [u, ha]
           rw [if_neg (by omega)]
         rw [hbb] at hb'
         injection hb' with hb'
         subst hb'
         exact ⟨.inr ⟨_, hc, hown⟩, by rw [setCells_size]; exact hb2, hb3⟩
 · -- a new block
   obtain ⟨olds, hor, hol, horun⟩ := row_cells hrow hes
   have hge := grownCap_ge w (es.length + xs.length) cap e
   let nc := grownCap w (es.length + xs.length) cap e
   let u : Value := .slice (some ⟨w.heap.size, 0, none⟩) (es.length + xs.length) nc
   have he := g.ver_ext id (ver + 1) σ.length u hnone
   have hrun := append_run (w := w) (a := a) (n := es.length) (cap := cap) (ax := ax) (m := xs.length) (cx := cx) (olds := olds) (news := news) ty hse hinfo htz
     (fun w' hw' => by rw [hts]; exact hnrun E.P w' (hCw w' hw')) (fun w' hw' => by rw [hts]; exact horun E.P w' hw') (by omega) hfn (by rw [htb]; exact hfb)
   refine ⟨g.ver id (ver + 1) u, _, u, hrun, ⟨he, ?_, by simp⟩, g.ver_same id (ver + 1) u, rfl⟩
   have hzs : z.cells.size = ei.size := by have := Reps.length (hzr g 0); simp at this; omega
   refine hI.change id he (by simp) (fun j hj => set_other j hj) (fun j hj => g.ver_other id _ u j hj) (fun k hk _ => Below.heap_alloc w.drew _ k hk)
     (((Below.refl 0 w).drew).alloc (Nat.zero_le _) _) (by simp) (fun _ _ _ h => .inl h) (fun o ho => ?_)
   rw [set_same hc] at ho
   injection ho with ho
   subst ho
   refine ⟨⟨⟨some ⟨w.heap.size, 0, none⟩, nc, by rw [List.length_append]; exact g.ver_same id (ver + 1) u, .inr ⟨?_, by simpa using hge, w.heap.size, _, e, rfl, heap_new w.drew _, ?_, ?_⟩⟩, hall, fun k hk => ?_⟩, fun b' hb' => ?_⟩
   · show 0 < grownCap w (es.length + xs.length) cap e ∧ grownCap w (es.length + xs.length) cap e ≤ 9223372036854775807
     have hml : maxLen = 9223372036854775807 := rfl
     have hgm := grownCap_le_maxLen w (es.length + xs.length) cap e (by omega)
     omega
   · simp [hol, hnl', hzs, Builtin.zeroCells]
     rw [← Nat.add_assoc, ← Nat.add_mul, ← Nat.add_mul]
     apply Nat.mul_le_mul_right
     show grownCap w (es.length + xs.length) cap e ≤ _
     omega
   · have h1 := Reps.append (Reps.mono he _ 0 0 _ (Nat.zero_le _) (Nat.le_refl _) hor) (Reps.mono he _ 0 0 _ (Nat.zero_le _) (Nat.le_refl _) hnr)
     rw [List.flatten_append]
     have h2 : (olds ++ news ++ (Builtin.zeroCells z.cells (grownCap w (es.length + xs.length) cap e - (es.length + xs.length))).toList).take ((es ++ xs).length * ei.size) = olds ++ news := by
       rw [List.take_left']
       rw [List.length_append, List.length_append, Nat.add_mul, hol, hnl']
     simp only [h2]
     exact h1
   · rw [g.ver_later id (ver + 1) u k hk]; exact hfresh k (by omega)
   · have hbb : owned (g.ver id (ver + 1) u) id (.row ei.size (ver + 1) (es ++ xs)) = some w.heap.size := by
       simp only [owned, rowBlock, g.ver_same id (ver + 1) u]
       show (match some u with | some (Value.slice (some a) _ cap) => if cap = 0 then none else some a.block | _ => none) = some w.heap.size
       simp only [u]
       rw [if_neg (by show ¬ grownCap w (es.length + xs.length) cap e = 0; omega)]
     rw [hbb] at hb'
     injection hb' with hb'
     subst hb'
     refine ⟨.inl (Nat.le_refl _), by simp, fun off => ?_⟩
     cases hcc : g.C w.heap.size off with
     | none => exact hcc
     | some v => have := hI.lt hcc; omega
end Go.Abs
