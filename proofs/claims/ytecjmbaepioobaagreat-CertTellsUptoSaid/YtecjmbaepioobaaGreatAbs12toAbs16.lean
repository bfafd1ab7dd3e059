import Derived.Test.YtecjmbaepioobaaGreatAbs6toAbs11
set_option linter.unusedSimpArgs false
set_option linter.unusedVariables false
namespace Go.Abs
open Go.RowKit
variable {E : Env} {g : Ghost} {σ : Store} {w : World}
def Ghost.newRow (g : Ghost) (id : Nat) (v : Value) : Ghost := { g with hd := fun j k => if j = id then (if k = 0 then some v else none) else g.hd j k }
theorem Ghost.newRow_ext (g : Ghost) (id n : Nat) (v : Value) (h : n ≤ id) : Ext g (g.newRow id v) n :=
 ⟨fun _ _ _ hv => hv, fun _ _ => rfl, fun j hj k u hu => by simp only [Ghost.newRow]; rw [if_neg (by omega)]; exact hu, Tie.refl _ _⟩
theorem push_get {σ : Store} {o : AObj} (j : Nat) (hj : j ≠ σ.length) : (σ ++ [o])[j]? = σ[j]? := by
 rcases Nat.lt_or_ge j σ.length with hl | hl
 · rw [List.getElem?_append_left hl]
 · rw [List.getElem?_eq_none (by simp; omega), List.getElem?_eq_none (by omega)]
theorem push_last {σ : Store} {o : AObj} : (σ ++ [o])[σ.length]? = some o := by
 rw [List.getElem?_append_right (Nat.le_refl _)]; simp
theorem Inv.pushRow (hI : Inv g σ w) {w' : World} (hw : ∀ k, k < w.heap.size → w'.heap[k]? = w.heap[k]?) (hb : Below 0 w w') (hs : w.heap.size ≤ w'.heap.size) {sz : Nat} {es : List (List AV)} {a : Option Addr} {cap : Nat}
   (hes : ∀ e ∈ es, ElemOk sz e) (hrow : RowOk g w' sz es a cap) (hblk : ∀ ad, a = some ad → 0 < cap → w.heap.size ≤ ad.block ∧ ad.block < w'.heap.size) :
   ∃ g', Moved g g' σ (σ ++ [.row sz 0 es]) w' ∧ g'.hd σ.length 0 = some (.slice a es.length cap) := by
 let u : Value := .slice a es.length cap
 have he := g.newRow_ext σ.length σ.length u (Nat.le_refl _)
 have hh : (g.newRow σ.length u).hd σ.length 0 = some u := by simp [Ghost.newRow]
 refine ⟨g.newRow σ.length u, ⟨he, ?_, by simp⟩, hh⟩
 refine hI.change σ.length he (by simp) (fun j hj => push_get j hj) (fun j hj => by funext k; simp [Ghost.newRow, hj]) (fun k hk _ => hw k hk) hb hs (fun _ _ _ h => .inl h) (fun o ho => ?_)
 rw [push_last] at ho
 injection ho with ho
 subst ho
 refine ⟨⟨⟨a, cap, hh, ?_⟩, hes, fun k hk => ?_⟩, fun b hb' => ?_⟩
 · rcases hrow with h | ⟨h1, h2, b, vs, t, h3, h4, h5, h6⟩
   · exact .inl h
   · exact .inr ⟨h1, h2, b, vs, t, h3, h4, h5, Reps.mono he _ 0 0 _ (Nat.zero_le _) (Nat.le_refl _) h6⟩
 · simp only [Ghost.newRow, if_true]; rw [if_neg (by omega)]
 · simp only [owned, rowBlock, hh, u] at hb'
   cases a with
   | none => simp at hb'
   | some ad =>
     simp only at hb'
     by_cases hc : cap = 0
     · rw [if_pos hc] at hb'; cases hb'
     · rw [if_neg hc] at hb'
       injection hb' with hb'
       subst hb'
       obtain ⟨h1, h2⟩ := hblk ad rfl (by omega)
       refine ⟨.inl h1, h2, fun off => ?_⟩
       cases hcc : g.C ad.block off with
       | none => exact hcc
       | some v => have := hI.lt hcc; omega
theorem made_flatten (z : Array Value) : ∀ l : Nat, (madeCells z (l * z.size)).toList = (List.replicate l z.toList).flatten
 | 0 => by simp [madeCells]
 | l + 1 => by
   have ih := made_flatten z l
   simp only [madeCells, Array.toList_map, Array.toList_range] at ih ⊢
   rw [List.replicate_succ', List.flatten_append, ← ih, Nat.add_mul, Nat.one_mul, List.range_add, List.map_append, List.map_map]
   congr 1
   simp only [List.flatten_cons, List.flatten_nil, List.append_nil]
   apply List.ext_getElem?
   intro j
   rw [List.getElem?_map]
   by_cases hj : j < z.size
   · rw [List.getElem?_range hj]
     simp only [Option.map_some, Function.comp_def, Nat.mul_add_mod_self_right, Nat.mod_eq_of_lt hj]
     simp [hj]
   · rw [List.getElem?_eq_none (by simp; omega), List.getElem?_eq_none (by simp; omega)]; rfl
theorem made_take (z : Array Value) (l c : Nat) (h : l ≤ c) : (madeCells z (c * z.size)).toList.take (l * z.size) = (List.replicate l z.toList).flatten := by
 have hr : List.replicate c z.toList = List.replicate l z.toList ++ List.replicate (c - l) z.toList := by
   rw [List.replicate_append_replicate]
   congr 1
   omega
 rw [made_flatten, hr, List.flatten_append, List.take_left']
 simp
theorem Reps.replicate {g : Ghost} {n : Nat} {cs : List AV} {vs : List Value} (h : Reps g cs n vs) : ∀ l : Nat, Reps g (List.replicate l cs).flatten n (List.replicate l vs).flatten
 | 0 => by simp [Reps]
 | l + 1 => by
   rw [List.replicate_succ, List.replicate_succ, List.flatten_cons, List.flatten_cons]
   exact Reps.append h (Reps.replicate h l)
theorem makeSlice_sound (hty : ∀ t i, E.ty t = some i → TyOk E.P t i) (hI : Inv g σ w) {t e : Nat} {ei : TInfo} (hse : E.P.underlying t = some (.slice e)) (hei : E.ty e = some ei) {kl kc : IntKind} {l c : Int}
   (h : 0 ≤ l ∧ l ≤ c ∧ c * ei.bytes ≤ 140737488355328) (hc63 : c ≤ 9223372036854775807) :
   ∃ g' w' u, (Instr.makeSlice t (.int kl l) (.int kc c)).run E.P w = .ok u w' ∧ Moved g g' σ (σ ++ [.row ei.size 0 (List.replicate l.toNat ei.zero)]) w' ∧ g'.hd σ.length 0 = some u ∧ u.oneCell' = true := by
 obtain ⟨ti, z, hinfo, hts, htb, htz, hzr, hz1, hzl, hzleaf, _⟩ := (hty e ei hei).info
 have hzs : z.cells.size = ei.size := by have := Reps.length (hzr g 0); simp at this; omega
 have hrun := run_make (P := E.P) w t e ti z hse hinfo htz kl kc l c h.1 h.2.1 (by rw [htb, Int.mul_comm]; omega) hc63
 obtain ⟨g', hm, hh⟩ := hI.pushRow (w' := w.alloc (.cells (madeCells z.cells (c.toNat * ti.size)) e)) (sz := ei.size) (es := List.replicate l.toNat ei.zero) (a := some ⟨w.heap.size, 0, none⟩) (cap := c.toNat)
   (fun k hk => Below.heap_alloc w _ k hk) ((Below.refl _ w).alloc (Nat.zero_le _) _) (by simp) (fun e' he' => by rw [(List.mem_replicate.1 he').2]; exact ⟨hzl, hzleaf⟩)
   (by
     by_cases hc0 : c.toNat = 0
     · refine .inl ⟨?_, hc0⟩
       have : l.toNat = 0 := by omega
       rw [this]; rfl
     · refine .inr ⟨by omega, by simp; omega, w.heap.size, _, e, rfl, heap_new w _, by rw [size_madeCells, hts]; exact Nat.le_refl _, ?_⟩
       rw [hts, ← hzs, List.length_replicate, made_take z.cells l.toNat c.toNat (by omega)]
       exact Reps.replicate (hzr g 0) l.toNat)
   (fun ad had _ => by injection had with had; subst had; exact ⟨Nat.le_refl _, by simp⟩)
 refine ⟨g', _, _, hrun, hm, ?_, rfl⟩
 rw [hh, List.length_replicate]
theorem nilRow_sound (hI : Inv g σ w) (sz : Nat) : ∃ g', Moved g g' σ (σ ++ [.row sz 0 []]) w ∧ g'.hd σ.length 0 = some (.slice none 0 0) :=
 hI.pushRow (a := none) (cap := 0) (fun _ _ => rfl) (Below.refl _ _) (Nat.le_refl _) (by simp) (.inl ⟨rfl, rfl⟩) (fun _ h => by cases h)
theorem append_full (hty : ∀ t i, E.ty t = some i → TyOk E.P t i) (hI : Inv g σ w) {t e : Nat} {ei : TInfo} (ty : TypeId) (hse : E.P.underlying t = some (.slice e)) (hei : E.ty e = some ei)
   {sz n m : Nat} {es xs : List (List AV)} {f : Bool} {sv xv : Value} (hsz : sz = ei.size ∨ es = []) (hfit : fits (es.length + xs.length) ei.bytes = true) (hx0 : xs ≠ [])
   (hs : Rep g (.sl true sz es) n sv) (hx : Rep g (.sl f ei.size xs) m xv) :
   ∃ g' w' u, (Builtin.append_ #[t, t] ty #[sv, xv]).run E.P w = .ok u w' ∧ Moved g g' σ (σ ++ [.row ei.size 0 (es ++ xs)]) w' ∧ g'.hd σ.length 0 = some u ∧ u.oneCell' = true := by
 obtain ⟨ti, z, hinfo, hts, htb, htz, hzr, hz1, hzl, hzleaf, _⟩ := (hty e ei hei).info
 obtain ⟨hfb, hfn⟩ := fits_eq hfit
 have hs' : Rep g (.sl true ei.size es) n sv := by
   rcases hsz with h | h
   · rw [← h]; exact hs
   · subst h
     obtain ⟨a, cap, h1, h2, h3, _⟩ := hs
     exact ⟨a, cap, h1, h2, h3, .inl rfl⟩
 have hfull : ∃ a, sv = .slice a es.length es.length := by
   obtain ⟨a, cap, h1, _, h3, _⟩ := hs
   exact ⟨a, by rw [h1, h3 rfl]⟩
 obtain ⟨a0, ha0⟩ := hfull
 obtain ⟨olds, a, cs, hsv, hor, _, _, hes, horun⟩ := src_cells hs'
 obtain ⟨news, ax, cx, rfl, hnr, _, _, hxs, hnrun⟩ := src_cells hx
 subst ha0
 injection hsv with h1 h2 h3
 have hol : olds.length = es.length * ei.size := by rw [Reps.length hor, ElemOk.flatten_len hes]
 have hnl : news.length = xs.length * ei.size := by rw [Reps.length hnr, ElemOk.flatten_len hxs]
 have hzs : z.cells.size = ei.size := by have := Reps.length (hzr g 0); simp at this; omega
 have hxl : 0 < xs.length := List.length_pos_iff.2 hx0
 have hCw : ∀ w' : World, w'.heap = w.heap → ∀ b o v, g.C b o = some v → w'.cell? ⟨b, o, none⟩ = some v := fun w' hw' b o v hv => by
   rw [World.cell?_of_block (w := w) (w' := w') (a := ⟨b, o, none⟩) (by rw [hw'])]
   exact hI.comm b o v hv
 have hge := grownCap_ge w (es.length + xs.length) es.length e
 have hrun := append_run (w := w) (a := a0) (n := es.length) (cap := es.length) (ax := ax) (m := xs.length) (cx := cx) (olds := olds) (news := news) ty hse hinfo htz
   (fun w' hw' => by rw [hts]; exact hnrun E.P w' (hCw w' hw')) (fun w' hw' => by rw [hts]; exact horun E.P w' (hCw w' hw')) (by omega) hfn (by rw [htb]; exact hfb)
 obtain ⟨g', hm, hh⟩ := hI.pushRow (w' := w.drew.alloc (.cells (olds ++ news ++ (Builtin.zeroCells z.cells (grownCap w (es.length + xs.length) es.length e - (es.length + xs.length))).toList).toArray e)) (sz := ei.size) (es := es ++ xs)
   (a := some ⟨w.heap.size, 0, none⟩) (cap := grownCap w (es.length + xs.length) es.length e)
   (fun k hk => Below.heap_alloc w.drew _ k hk) (((Below.refl _ w).drew).alloc (Nat.zero_le _) _) (by simp) (fun e' he' => (List.mem_append.1 he').elim (hes e') (hxs e'))
   (by
     have hml : maxLen = 9223372036854775807 := rfl
     have hgm := grownCap_le_maxLen w (es.length + xs.length) es.length e (by omega)
     refine .inr ⟨by omega, by simpa using hge, w.heap.size, _, e, rfl, heap_new w.drew _, ?_, ?_⟩
     · simp [hol, hnl, hzs, Builtin.zeroCells]
       rw [← Nat.add_assoc, ← Nat.add_mul, ← Nat.add_mul]
       apply Nat.mul_le_mul_right
       omega
     · rw [List.flatten_append]
       have h2 : (olds ++ news ++ (Builtin.zeroCells z.cells (grownCap w (es.length + xs.length) es.length e - (es.length + xs.length))).toList).take ((es ++ xs).length * ei.size) = olds ++ news := by
         rw [List.take_left']
         rw [List.length_append, List.length_append, Nat.add_mul, hol, hnl]
       simp only [h2]
       exact Reps.append hor hnr)
   (fun ad had _ => by injection had with had; subst had; exact ⟨Nat.le_refl _, by simp⟩)
 refine ⟨g', _, _, hrun, hm, ?_, rfl⟩
 rw [hh, List.length_append]
theorem row_app (hI : Inv g σ w) {id sz ver : Nat} {es : List (List AV)} (hr : σ[id]? = some (.row sz ver es)) (hf : foreign g id ver = false) : Inv g (σ.set id (.app sz ver es)) w := by
 have hid : id < σ.length := (List.getElem?_eq_some_iff.1 hr).1
 obtain ⟨⟨a, cap, hh, hap⟩, hs, hfresh⟩ := hI.objs id _ hr
 refine hI.change id (Ext.refl g _) (by simp) (fun j hj => by rw [List.getElem?_set_ne (by omega)]) (fun _ _ => rfl) (fun _ _ _ => rfl) (Below.refl _ _) (Nat.le_refl _) (fun _ _ _ h => .inl h) (fun o ho => ?_)
 rw [List.getElem?_set_self hid] at ho; injection ho with ho; subst ho
 refine ⟨⟨⟨a, cap, hh, by rw [hf]; exact hap⟩, hs, hfresh⟩, fun b hb => ?_⟩
 have hown : owned g id (.row sz ver es) = some b := by simp only [owned, hf] at hb; exact hb
 exact ⟨.inr ⟨_, hr, hown⟩, (hI.sep id _ b hr hown).2⟩
theorem foreign_next {g : Ghost} {id ver : Nat} {a : Option Addr} {n c : Nat} (h : g.hd id ver = some (.slice a n c)) : foreign g id (ver + 1) = false := by simp only [foreign, h]
theorem Inv.nextApp (hI : Inv g σ w) {id sz ver : Nat} {es es' : List (List AV)} (hc : σ[id]? = some (.app sz ver es)) {w' : World} {a' : Option Addr} {cap' : Nat}
   (hw : ∀ k, k < w.heap.size → w'.heap[k]? = w.heap[k]?) (hb : Below 0 w w') (hes : ∀ e ∈ es', ElemOk sz e) (hrow : RowOk g w' sz es' a' cap') (hblk : ∀ ad, a' = some ad → 0 < cap' → w.heap.size ≤ ad.block ∧ ad.block < w'.heap.size) :
   ∃ g', Moved g g' σ (σ.set id (.app sz (ver + 1) es')) w' ∧ g'.hd id (ver + 1) = some (.slice a' es'.length cap') := by
 obtain ⟨⟨a0, c0, hh0, _⟩, _, hfresh⟩ := hI.objs id _ hc
 have hnone := hfresh (ver + 1) (by omega)
 let u : Value := .slice a' es'.length cap'
 have he := g.ver_ext id (ver + 1) σ.length u hnone
 have hid : id < σ.length := (List.getElem?_eq_some_iff.1 hc).1
 have hold : (g.ver id (ver + 1) u).hd id ver = some (.slice a0 es.length c0) := he.hd id hid ver _ hh0
 have hfn := foreign_next hold
 refine ⟨g.ver id (ver + 1) u, ⟨he, ?_, by simp⟩, g.ver_same id (ver + 1) u⟩
 refine hI.change id he (by simp) (fun j hj => by rw [List.getElem?_set_ne (by omega)]) (fun j hj => g.ver_other id _ u j hj) (fun k hk ho => hw k hk) hb hb.size (fun _ _ _ h => .inl h) (fun o ho => ?_)
 rw [List.getElem?_set_self hid] at ho
 injection ho with ho
 subst ho
 refine ⟨⟨⟨a', cap', g.ver_same id (ver + 1) u, ?_⟩, hes, fun k hk => ?_⟩, fun b hb' => ?_⟩
 · rw [hfn]
   exact RowOk.up he.up (fun _ _ _ => rfl) hrow
 · rw [g.ver_later id (ver + 1) u k hk]; exact hfresh k (by omega)
 · simp only [owned, hfn, rowBlock, g.ver_same id (ver + 1) u, u] at hb'
   cases a' with
   | none => simp at hb'
   | some ad =>
     simp only at hb'
     by_cases hc0 : cap' = 0
     · rw [if_pos hc0] at hb'; cases hb'
     · rw [if_neg hc0] at hb'
       injection hb' with hb'
       subst hb'
       obtain ⟨h1, h2⟩ := hblk ad rfl (by omega)
       refine ⟨.inl h1, h2, fun off => ?_⟩
       show g.C ad.block off = none
       cases hcc : g.C ad.block off with
       | none => rfl
       | some v => have := hI.lt hcc; omega
theorem append_app (hty : ∀ t i, E.ty t = some i → TyOk E.P t i) (hI : Inv g σ w) {t e : Nat} {ei : TInfo} (ty : TypeId) (hse : E.P.underlying t = some (.slice e)) (hei : E.ty e = some ei)
   {id ver sz n : Nat} {es xs : List (List AV)} {f : Bool} {sv xv : Value} (hc : σ[id]? = some (.app sz ver es)) (hsz : sz = ei.size) (hfit : fits (es.length + xs.length) ei.bytes = true) (hx0 : xs ≠ [])
   (hs : g.hd id ver = some sv) (hx : Rep g (.sl f ei.size xs) n xv) :
   ∃ g' w' u, (Builtin.append_ #[t, t] ty #[sv, xv]).run E.P w = .ok u w' ∧ Moved g g' σ (σ.set id (.app sz (ver + 1) (es ++ xs))) w' ∧ g'.hd id (ver + 1) = some u ∧ u.oneCell' = true := by
 have hid : id < σ.length := (List.getElem?_eq_some_iff.1 hc).1
 obtain ⟨⟨a0, c0, hh0, hap⟩, hes, hfresh⟩ := hI.objs id _ hc
 cases hf : foreign g id ver with
 | false =>
   have hI1 := app_row hI hc hf
   obtain ⟨g', w', u, hrun, hm, hh, h1⟩ := append_rs hty hI1 ty hse hei (List.getElem?_set_self hid) hsz hfit hs hx
   rw [List.set_set] at hm
   have hold : g'.hd id ver = some (.slice a0 es.length c0) := hm.ext.hd id (by simpa using hid) ver _ hh0
   have hI2 := row_app hm.inv (List.getElem?_set_self (by simpa using hid)) (foreign_next hold)
   rw [List.set_set] at hI2
   exact ⟨g', w', u, hrun, ⟨by simpa using hm.ext, hI2, by simp⟩, hh, h1⟩
 | true =>
   rw [hf] at hap
   rw [hs] at hh0
   injection hh0 with hh0
   subst hh0
   obtain ⟨hcap, hcells⟩ := hap
   subst hcap
   subst hsz
   have hs' : Rep g (.sl true ei.size es) n (.slice a0 es.length es.length) := ⟨a0, es.length, rfl, Nat.le_refl _, fun _ => rfl, hcells⟩
   obtain ⟨ti, z, hinfo, hts, htb, htz, hzr, hz1, hzl, hzleaf, _⟩ := (hty e ei hei).info
   obtain ⟨hfb, hfn⟩ := fits_eq hfit
   obtain ⟨olds, a, cs, hsv, hor, _, _, _, horun⟩ := src_cells hs'
   obtain ⟨news, ax, cx, rfl, hnr, _, _, hxs, hnrun⟩ := src_cells hx
   injection hsv with h1 h2 h3
   have hol : olds.length = es.length * ei.size := by rw [Reps.length hor, ElemOk.flatten_len hes]
   have hnl : news.length = xs.length * ei.size := by rw [Reps.length hnr, ElemOk.flatten_len hxs]
   have hzs : z.cells.size = ei.size := by have := Reps.length (hzr g 0); simp at this; omega
   have hxl : 0 < xs.length := List.length_pos_iff.2 hx0
   have hCw : ∀ w' : World, w'.heap = w.heap → ∀ b o v, g.C b o = some v → w'.cell? ⟨b, o, none⟩ = some v := fun w' hw' b o v hv => by
     rw [World.cell?_of_block (w := w) (w' := w') (a := ⟨b, o, none⟩) (by rw [hw'])]
     exact hI.comm b o v hv
   have hge := grownCap_ge w (es.length + xs.length) es.length e
   have hrun := append_run (w := w) (a := a0) (n := es.length) (cap := es.length) (ax := ax) (m := xs.length) (cx := cx) (olds := olds) (news := news) ty hse hinfo htz
     (fun w' hw' => by rw [hts]; exact hnrun E.P w' (hCw w' hw')) (fun w' hw' => by rw [hts]; exact horun E.P w' (hCw w' hw')) (by omega) hfn (by rw [htb]; exact hfb)
   obtain ⟨g', hm, hh⟩ := hI.nextApp hc (w' := w.drew.alloc (.cells (olds ++ news ++ (Builtin.zeroCells z.cells (grownCap w (es.length + xs.length) es.length e - (es.length + xs.length))).toList).toArray e)) (es' := es ++ xs)
     (a' := some ⟨w.heap.size, 0, none⟩) (cap' := grownCap w (es.length + xs.length) es.length e)
     (fun k hk => Below.heap_alloc w.drew _ k hk) (((Below.refl 0 w).drew).alloc (Nat.zero_le _) _) (fun e' he' => (List.mem_append.1 he').elim (hes e') (hxs e'))
     (by
       have hml : maxLen = 9223372036854775807 := rfl
       have hgm := grownCap_le_maxLen w (es.length + xs.length) es.length e (by omega)
       refine .inr ⟨by omega, by simpa using hge, w.heap.size, _, e, rfl, heap_new w.drew _, ?_, ?_⟩
       · simp [hol, hnl, hzs, Builtin.zeroCells]
         rw [← Nat.add_assoc, ← Nat.add_mul, ← Nat.add_mul]
         apply Nat.mul_le_mul_right
         omega
       · rw [List.flatten_append]
         have h2 : (olds ++ news ++ (Builtin.zeroCells z.cells (grownCap w (es.length + xs.length) es.length e - (es.length + xs.length))).toList).take ((es ++ xs).length * ei.size) = olds ++ news := by
           rw [List.take_left']
           rw [List.length_append, List.length_append, Nat.add_mul, hol, hnl]
         simp only [h2]
         exact Reps.append hor hnr)
     (fun ad had _ => by injection had with had; subst had; exact ⟨Nat.le_refl _, by simp⟩)
   refine ⟨g', _, _, hrun, hm, ?_, rfl⟩
   rw [hh, List.length_append]
theorem append_app0 (hty : ∀ t i, E.ty t = some i → TyOk E.P t i) (hI : Inv g σ w) {t e : Nat} {ei : TInfo} (ty : TypeId) (hse : E.P.underlying t = some (.slice e)) (hei : E.ty e = some ei)
   {id ver sz n : Nat} {es : List (List AV)} {f : Bool} {sv xv : Value} (hc : σ[id]? = some (.app sz ver es)) (hs : g.hd id ver = some sv) (hx : Rep g (.sl f ei.size []) n xv) :
   (Builtin.append_ #[t, t] ty #[sv, xv]).run E.P w = .ok sv w ∧ sv.oneCell' = true := by
 obtain ⟨⟨a, cap, hh, hap⟩, hes, _⟩ := hI.objs id _ hc
 rw [hs] at hh
 injection hh with hh
 subst hh
 have hlc : es.length ≤ cap := by
   cases hf : foreign g id ver with
   | true => rw [hf] at hap; exact Nat.le_of_eq hap.1.symm
   | false =>
     rw [hf] at hap
     rcases hap with ⟨h1, _⟩ | ⟨_, h2, _⟩
     · rw [h1]; simp
     · exact h2
 obtain ⟨ti, z, hinfo, hts, _⟩ := (hty e ei hei).info
 obtain ⟨news, ax, cx, rfl, hnr, _, _, _, hnrun⟩ := src_cells hx
 have hn0 : news = [] := by simpa [Reps] using hnr
 subst hn0
 refine ⟨?_, rfl⟩
 have := append_room (P := E.P) (w := w) (w' := w) (t := t) (n := es.length) (cap := cap) (a := a) (ax := ax) (m := 0) (cx := cx) (news := []) ty hse hinfo (by rw [hts]; exact hnrun E.P w hI.comm) (by cases a <;> rfl) (by omega)
 simpa using this
theorem toApp_sound (hI : Inv g σ w) {sz n : Nat} (hn : n ≤ σ.length) {v v' : AV} {σ' : Store} {val : Value} (h : toApp σ sz v = some (v', σ')) (hr : Rep g v n val) : ∃ g', Moved g g' σ σ' w ∧ Rep g' v' σ'.length val ∧ g'.blk = g.blk := by
 cases v with
 | sl full s es =>
   cases full with
   | false => cases h
   | true =>
     obtain ⟨hc, h1⟩ := iteO_none h
     injection h1 with h1
     injection h1 with h2 h3
     subst h2; subst h3
     simp only [Bool.or_eq_true, decide_eq_true_eq, List.isEmpty_iff] at hc
     obtain ⟨a, cap, rfl, hlc, hful, hcells⟩ := hr
     have hcap := hful rfl
     subst hcap
     have hcells' : es = [] ∨ ∃ b o, a = some ⟨b, o, none⟩ ∧ RepE g es sz b o := by
       rcases hcells with h | h
       · exact .inl h
       · rcases hc with hc | hc
         · rw [← hc]; exact .inr h
         · exact .inl hc
     have hes : ∀ e ∈ es, ElemOk sz e := by
       rcases hcells' with h | ⟨b, o, _, h⟩
       · rw [h]; simp
       · exact RepE.size h
     let u : Value := .slice a es.length es.length
     let g' : Ghost := { g with hd := fun j k => if j = σ.length then (if k = 0 then some (.bool false) else if k = 1 then some u else none) else g.hd j k }
     have he : Ext g g' σ.length := ⟨fun _ _ _ hv => hv, fun _ _ => rfl, fun j hj k u hu => by show (if j = σ.length then _ else _) = _; rw [if_neg (by omega)]; exact hu, Tie.refl _ _⟩
     have h0 : g'.hd σ.length 0 = some (.bool false) := by simp [g']
     have h1 : g'.hd σ.length 1 = some u := by simp [g']
     have hf : foreign g' σ.length 1 = true := by simp only [foreign, h0]
     refine ⟨g', ⟨he, ?_, by simp⟩, ⟨by simp, h1, rfl⟩, rfl⟩
     refine hI.change σ.length he (by simp) (fun j hj => push_get j hj) (fun j hj => by funext k; simp [g', hj]) (fun k hk _ => rfl) (Below.refl _ _) (Nat.le_refl _) (fun _ _ _ h => .inl h) (fun o ho => ?_)
     rw [push_last] at ho
     injection ho with ho
     subst ho
     refine ⟨⟨⟨a, es.length, h1, by rw [hf]; exact ⟨rfl, hcells'.imp id fun ⟨b, o, ha, hr⟩ => ⟨b, o, ha, RepE.mono he es sz b o hr⟩⟩⟩, hes, fun k hk => ?_⟩, fun b hb' => ?_⟩
     · show (if σ.length = σ.length then _ else _) = _
       rw [if_pos rfl, if_neg (by omega), if_neg (by omega)]
     · simp only [owned, hf] at hb'; cases hb'
 | rs id ver =>
   obtain ⟨p, hc, h1⟩ := bindO_eq h
   obtain ⟨hs, h1⟩ := iteO_none h1
   injection h1 with h1
   have hs := of_decide_eq_true hs
   obtain ⟨_, hh, hone⟩ := hr
   subst hs
   rcases curA_eq hc with hc | hc
   · rw [hc] at h1
     obtain ⟨h2, h3⟩ := Prod.mk.inj h1
     subst h2; subst h3
     have hid : id < σ.length := (List.getElem?_eq_some_iff.1 hc).1
     obtain ⟨⟨a, cap, hh0, hap⟩, hs, hfresh⟩ := hI.objs id _ hc
     rw [hh] at hh0
     injection hh0 with hh0
     subst hh0
     let u : Value := .slice a p.2.length cap
     have he := g.ver_ext id (ver + 1) σ.length u (hfresh (ver + 1) (by omega))
     have hold : (g.ver id (ver + 1) u).hd id ver = some u := he.hd id hid ver _ hh
     have hfn := foreign_next hold
     refine ⟨g.ver id (ver + 1) u, ⟨he, ?_, by simp⟩, ⟨by simpa using hid, g.ver_same id (ver + 1) u, rfl⟩, rfl⟩
     refine hI.change id he (by simp) (fun j hj => by rw [List.getElem?_set_ne (by omega)]) (fun j hj => g.ver_other id _ u j hj) (fun k hk ho => rfl) (Below.refl _ _) (Nat.le_refl _) (fun _ _ _ h => .inl h) (fun o ho => ?_)
     rw [List.getElem?_set_self hid] at ho
     injection ho with ho
     subst ho
     refine ⟨⟨⟨a, cap, g.ver_same id (ver + 1) u, by rw [hfn]; exact RowOk.up he.up (fun _ _ _ => rfl) hap⟩, hs, fun k hk => by rw [g.ver_later id (ver + 1) u k hk]; exact hfresh k (by omega)⟩, fun b hb' => ?_⟩
     have hown : owned g id (.row p.1 ver p.2) = some b := by
       simp only [owned, hfn, rowBlock, g.ver_same id (ver + 1) u] at hb'
       simp only [owned, rowBlock, hh]
       exact hb'
     exact ⟨.inr ⟨_, hc, hown⟩, (hI.sep id _ b hc hown).2⟩
   · rw [hc] at h1
     obtain ⟨h2, h3⟩ := Prod.mk.inj h1
     subst h2; subst h3
     have hid : id < σ.length := (List.getElem?_eq_some_iff.1 hc).1
     exact ⟨g, ⟨Ext.refl g _, hI, Nat.le_refl _⟩, ⟨hid, hh, hone⟩, rfl⟩
 | _ => cases h
theorem append_none (hty : ∀ t i, E.ty t = some i → TyOk E.P t i) (hI : Inv g σ w) {t e : Nat} {ei : TInfo} (ty : TypeId) (hse : E.P.underlying t = some (.slice e)) (hei : E.ty e = some ei)
   {sz n m : Nat} {es : List (List AV)} {f : Bool} {sv xv : Value} (hsz : sz = ei.size ∨ es = []) (hs : Rep g (.sl true sz es) n sv) (hx : Rep g (.sl f ei.size []) m xv) :
   (Builtin.append_ #[t, t] ty #[sv, xv]).run E.P w = .ok sv w ∧ Rep g (.sl true ei.size es) n sv := by
 obtain ⟨ti, z, hinfo, hts, _⟩ := (hty e ei hei).info
 obtain ⟨news, ax, cx, rfl, hnr, _, _, _, hnrun⟩ := src_cells hx
 have hn0 : news = [] := by simpa [Reps] using hnr
 subst hn0
 obtain ⟨a, cap, rfl, h2, h3, h4⟩ := hs
 refine ⟨?_, a, cap, rfl, h2, h3, ?_⟩
 · have := append_room (P := E.P) (w := w) (w' := w) (t := t) (n := es.length) (cap := cap) (a := a) (ax := ax) (m := 0) (cx := cx) (news := []) ty hse hinfo (by rw [hts]; exact hnrun E.P w hI.comm) (by cases a <;> rfl) (by omega)
   simpa using this
 · rcases hsz with h | h
   · rw [← h]; exact h4
   · exact .inl h
end Go.Abs
namespace Go.Abs
open Go.RowKit
variable {E : Env} {g : Ghost} {σ : Store} {w : World}
theorem fold_set (off : Nat) : ∀ (l : List Value) (k : Nat) (cells : Array Value), off + k + l.length ≤ cells.size →
   ((l.zipIdx k).foldl (fun (cs : Array Value) (p : Value × Nat) => cs.setIfInBounds (off + p.2) p.1) cells).toList = cells.toList.take (off + k) ++ (l ++ cells.toList.drop (off + k + l.length))
 | [], k, cells, _ => by simp
 | v :: l, k, cells, h => by
   have h' : off + k + l.length + 1 ≤ cells.size := by simp at h; omega
   have ih := fold_set off l (k + 1) (cells.setIfInBounds (off + k) v) (by simp; omega)
   rw [List.zipIdx_cons, List.foldl_cons, ih, Array.toList_setIfInBounds]
   have ho : off + k < cells.toList.length := by simp; omega
   rw [← Nat.add_assoc, List.take_add_one, List.take_set_of_le (by omega), List.getElem?_set_self ho, List.drop_set_of_lt (by omega)]
   simp [Nat.add_assoc, Nat.add_comm 1]
def PartsRep (g : Ghost) (n : Nat) : List (Nat × AV) → List (Nat × Value) → Prop
 | [], qs => qs = []
 | p :: ps, qs => ∃ v qs', qs = (p.1, v) :: qs' ∧ Rep g p.2 n v ∧ PartsRep g n ps qs'
theorem PartsRep.mono {g g' : Ghost} {m n n' : Nat} (h : Ext g g' m) (hm : n ≤ m) (hn : n ≤ n') : ∀ {ps : List (Nat × AV)} {qs : List (Nat × Value)}, PartsRep g n ps qs → PartsRep g' n' ps qs
 | [], _, hr => hr
 | p :: _, _, ⟨v, qs', e, h1, h2⟩ => ⟨v, qs', e, Rep.mono h p.2 n n' v hm hn h1, PartsRep.mono h hm hn h2⟩
theorem evalPs_rep {n : Nat} {fr : Fr} {a : Act} (h : FrOk g n fr a.tmps) : ∀ ps : List (Nat × Operand), PartsRep g n (evalPs fr ps) (ps.map fun p => (p.1, a.eval p.2))
 | [] => rfl
 | (_, x) :: ps => ⟨_, _, rfl, evalO_rep h x, evalPs_rep h ps⟩
theorem fill_step {place : Nat → Option (Nat × Nat)} {cells : Array Value} {i off size : Nat} {v : Value} {rest : List (Nat × Value)} (hp : place i = some (off, size)) (hs : v.cells.size = size) (hle : off + size ≤ cells.size) :
   Instr.fill place cells ((i, v) :: rest) = Instr.fill place (cells.toList.take off ++ (v.cells.toList ++ cells.toList.drop (off + v.cells.size))).toArray rest := by
 have h1 : ¬ (v.cells.size ≠ size ∨ off + v.cells.size > cells.size) := by omega
 have h2 : (decide (v.cells.size ≠ size) || decide (off + v.cells.size > cells.size)) = false := by simpa using h1
 simp only [Instr.fill, hp]
 rw [h2]
 simp only [Bool.false_eq_true, if_false]
 congr 1
 rw [← Array.foldl_toList, Array.toList_zipIdx]
 have := fold_set off v.cells.toList 0 cells (by simp; omega)
 apply Array.ext'
 simpa using this
theorem buildCells_sound {k : TK} {place : Nat → Option (Nat × Nat)} (hpl : ∀ i q, aPlace E k i = some q → place i = some q) {n : Nat} :
   ∀ {ps : List (Nat × AV)} {qs : List (Nat × Value)} {cs cs' : List AV} {cells : Array Value}, aBuildCells E k ps cs = some cs' → PartsRep g n ps qs → Reps g cs n cells.toList →
     ∃ cells', Instr.fill place cells qs = some cells' ∧ Reps g cs' n cells'.toList
 | [], _, cs, _, cells, h, hp, hr => by
   simp [aBuildCells] at h; subst h
   simp [PartsRep] at hp; subst hp
   exact ⟨cells, rfl, hr⟩
 | (i, v) :: ps, _, cs, cs', cells, h, ⟨u, qs', e, h1, h2⟩, hr => by
   subst e
   obtain ⟨q, hq, h⟩ := bindO_eq h
   obtain ⟨us, hu, h⟩ := bindO_eq h
   obtain ⟨hsz, h⟩ := iteO_none h
   obtain ⟨cs1, hput, h⟩ := bindO_eq h
   have hsz := of_decide_eq_true hsz
   obtain ⟨hle, rfl⟩ := putAt_eq hput
   obtain ⟨hur, _⟩ := cellsOf_rep hu h1
   have hul := Reps.length hur
   have hcl := Reps.length hr
   simp at hul hcl
   obtain ⟨cells', hf, hr'⟩ := buildCells_sound hpl (cells := (cells.toList.take q.1 ++ (u.cells.toList ++ cells.toList.drop (q.1 + u.cells.toList.length))).toArray) h h2 (Reps.splice q.1 hr hur)
   refine ⟨cells', ?_, hr'⟩
   rw [fill_step (off := q.1) (size := q.2) (hpl i q hq) (by omega) (by omega)]
   simpa using hf
theorem mapM_run {α β : Type} {P : Program} (f : α → Sem β) (h : α → β) : ∀ l : List α, (∀ x ∈ l, (f x).run P w = .ok (h x) w) → (l.mapM f).run P w = .ok (l.map h) w
 | [], _ => rfl
 | x :: l, hl => by
   rw [List.mapM_cons, Sem.run_bind, hl x (by simp)]
   simp [mapM_run f h l fun y hy => hl y (by simp [hy])]
theorem build_sound (hty : ∀ t i, E.ty t = some i → TyOk E.P t i) {t : Nat} {ti : TInfo} (ht : E.ty t = some ti) {n : Nat} {ps : List (Nat × AV)} {qs : Array (Nat × Value)} {cs : List AV}
   {fs0 : Unit} (hst : aggOk E ti.k = some fs0) (h : aBuildCells E ti.k ps ti.zero = some cs) (hp : PartsRep g n ps qs.toList) : ∃ u, (Instr.build t qs).run E.P w = .ok u w ∧ Rep g (.agg cs) n u := by
 have hT := hty t ti ht
 obtain ⟨tinf, z, hinfo, hts, htb, htz, hzr, hz1, hzl, hzleaf, _⟩ := hT.info
 obtain ⟨d, hd1, hd2⟩ := hT.und
 cases hk : ti.k with
 | struct gs =>
   rw [hk] at h hd2
   obtain ⟨fs, rfl, hm⟩ := desc_struct hd2
   have hsub := hT.sub gs hk
   have hpl : ∀ i q, aPlace E (.struct gs) i = some q → (fs.map fun f => (f.offset, ((E.P.info? f.type).map (·.size)).getD 0))[i]? = some q := fun i q hq => by
     obtain ⟨fo, hfo, hq⟩ := bindO_eq hq
     obtain ⟨fi, hfi, hq⟩ := bindO_eq hq
     injection hq with hq
     rw [← hm, List.getElem?_map] at hfo
     obtain ⟨fl, hfl, hfe⟩ := Option.map_eq_some_iff.1 hfo
     have hF := (hty _ fi hfi).size
     rw [Array.getElem?_map, show fs[i]? = some fl by simpa using hfl]
     simp only [Option.map_some]
     rw [← hq, ← hfe]
     rw [← hfe] at hF
     simp [hF]
   obtain ⟨cells', hf, hr⟩ := buildCells_sound (E := E) hpl (cells := z.cells) h hp (hzr g n)
   refine ⟨.agg cells', ?_, cells'.toList, by simp, hr⟩
   have hmap : (fs.mapM fun f => do pure (f.offset, ← sizeOf f.type) : Sem _).run E.P w = .ok (fs.map fun f => (f.offset, ((E.P.info? f.type).map (·.size)).getD 0)) w := by
     rw [Array.mapM_eq_mapM_toList, Sem.run_map, mapM_run (w := w) _ (fun f : Field => (f.offset, ((E.P.info? f.type).map (·.size)).getD 0)) fs.toList]
     · simp only [Result.andThen_ok]
       congr 1
       apply Array.ext'
       simp
     · intro f hf
       have : (f.type, f.offset) ∈ gs := by rw [← hm]; exact List.mem_map_of_mem hf
       have := hsub _ this
       obtain ⟨i, hi⟩ := Option.isSome_iff_exists.1 this
       simp at hi
       simp [sizeOf, typeInfo, hi]
   simp only [Instr.build, Sem.run_bind]
   rw [show (zeroValue t).run E.P w = .ok z w by simp [zeroValue, typeInfo, hinfo, htz]]
   simp only [Result.andThen_ok]
   rw [run_underlying hd1 w]
   simp only [Result.andThen_ok, Sem.run_bind]
   rw [hmap]
   simp only [Result.andThen_ok]
   rw [hf]
   rfl
 | array m e =>
   rw [hk] at h hd2 hst
   have hde := desc_array hd2
   subst hde
   obtain ⟨ei, hei, _⟩ := bindO_eq hst
   have hF := (hty _ ei hei).size
   have hpl : ∀ i q, aPlace E (.array m e) i = some q → (fun i : Nat => some (i * ei.size, ei.size)) i = some q := fun i q hq => by
     obtain ⟨fi, hfi, hq⟩ := bindO_eq hq
     rw [hei] at hfi
     injection hfi with hfi
     subst hfi
     exact hq
   obtain ⟨cells', hf, hr⟩ := buildCells_sound (E := E) hpl (cells := z.cells) h hp (hzr g n)
   refine ⟨.agg cells', ?_, cells'.toList, by simp, hr⟩
   simp only [Instr.build, Sem.run_bind]
   rw [show (zeroValue t).run E.P w = .ok z w by simp [zeroValue, typeInfo, hinfo, htz]]
   simp only [Result.andThen_ok]
   rw [run_underlying hd1 w]
   simp only [Result.andThen_ok, Sem.run_bind]
   have hsz : (sizeOf e).run E.P w = .ok ei.size w := by
     obtain ⟨i, hi, his⟩ := Option.map_eq_some_iff.1 hF
     simp [sizeOf, typeInfo, hi, his]
   rw [hsz]
   simp only [Result.andThen_ok]
   rw [hf]
   rfl
 | _ => rw [hk] at hst; simp [aggOk] at hst
def Ghost.commit (g : Ghost) (b : Nat) (vs : Array Value) : Ghost := { g with C := fun b' o => if b' = b then vs[o]? else g.C b' o }
theorem Inv.commit (hI : Inv g σ w) (vs : Array Value) (t : TypeId) :
   Ext g (g.commit w.heap.size vs) σ.length ∧ Inv (g.commit w.heap.size vs) σ (w.alloc (.cells vs t)) := by
 have hnew : ∀ b o v, g.C b o = some v → b ≠ w.heap.size := fun b o v hv => by have := hI.lt hv; omega
 have he : Ext g (g.commit w.heap.size vs) σ.length := by
   refine ⟨fun b o v hv => ?_, fun _ _ => rfl, fun _ _ _ _ h => h, Tie.refl _ _⟩
   simp only [Ghost.commit]
   rw [if_neg (hnew b o v hv)]; exact hv
 refine ⟨he, hI.change σ.length he (Nat.le_refl _) (fun _ _ => rfl) (fun _ _ => rfl) (fun k hk _ => Below.heap_alloc w _ k hk) ((Below.refl _ w).alloc (Nat.zero_le _) _) (by simp) (fun b o v hv => ?_) (fun o ho => by simp at ho)⟩
 simp only [Ghost.commit] at hv
 by_cases hb : b = w.heap.size
 · rw [if_pos hb] at hv
   refine .inr ⟨?_, .inl (by omega)⟩
   rw [hb, cell_of_block (heap_new w _)]; exact hv
 · rw [if_neg hb] at hv; exact .inl hv
theorem buildElems_sound {size n : Nat} : ∀ {ps : List (Nat × AV)} {qs : List (Nat × Value)} {g : Ghost} {σ σ' : Store} {es es' : List (List AV)} {cells : Array Value},
   aBuildElems σ size ps es = some (es', σ') → Inv g σ w → n ≤ σ.length → PartsRep g n ps qs → Reps g es.flatten 0 cells.toList → (∀ e ∈ es, ElemOk size e) →
     ∃ g' cells', Frozen g g' σ σ' w ∧ Instr.fill (fun i => some (i * size, size)) cells qs = some cells' ∧ Reps g' es'.flatten 0 cells'.toList ∧ (∀ e ∈ es', ElemOk size e) ∧ es'.length = es.length
 | [], _, g, σ, _, es, _, cells, h, hI, _, hp, hr, he => by
   simp [aBuildElems] at h
   obtain ⟨h1, h2⟩ := h
   subst h1; subst h2
   simp [PartsRep] at hp; subst hp
   exact ⟨g, cells, Frozen.refl hI, rfl, hr, he, rfl⟩
 | (i, v) :: ps, _, g, σ, σ', es, es', cells, h, hI, hn, ⟨u, qs', e, h1, h2⟩, hr, he => by
   subst e
   obtain ⟨q, hq, h⟩ := bindO_eq h
   obtain ⟨us, hu, h⟩ := bindO_eq h
   obtain ⟨hsz, h⟩ := iteO_none h
   simp only [Bool.and_eq_true, decide_eq_true_eq] at hsz
   obtain ⟨hsz, hi⟩ := hsz
   obtain ⟨g1, f1, r1⟩ := freeze_sound hI hn hq h1
   obtain ⟨hur, _⟩ := cellsOf_rep hu r1
   have hul := Reps.length hur
   have hcl := Reps.length hr
   rw [ElemOk.flatten_len he] at hcl
   simp at hul hcl
   obtain ⟨cs, hcs⟩ : ∃ cs, es[i]? = some cs := ⟨_, List.getElem?_eq_getElem hi⟩
   have hcsl := (he cs (List.mem_of_getElem? hcs)).1
   have hpos : i * size + size ≤ es.length * size := by
     have := Nat.mul_le_mul_right size (show i + 1 ≤ es.length from hi)
     rw [Nat.add_mul, Nat.one_mul] at this; exact this
   have hset : (es.set i us).flatten = es.flatten.take (i * size) ++ (us ++ es.flatten.drop (i * size + us.length)) := by
     have := flatten_set (lengths he) hcs (off := 0) (us := us) (by omega)
     simp only [List.take_zero, List.nil_append, Nat.zero_add, Nat.add_zero] at this
     rw [← this, List.drop_eq_nil_of_le (by omega), List.append_nil]
   have hr1 := Reps.splice (i * size) (Reps.mono f1.ext _ 0 0 _ (Nat.zero_le _) (Nat.le_refl _) hr) hur
   rw [← hset] at hr1
   have he1 : ∀ e ∈ es.set i us, ElemOk size e := fun e' he' => by
     rcases List.mem_or_eq_of_mem_set he' with h' | h'
     · exact he e' h'
     · rw [h']; exact ⟨hsz, cellsOf_leaf hu⟩
   obtain ⟨g2, cells', f2, hf, hr2, he2, hl2⟩ := buildElems_sound (cells := (cells.toList.take (i * size) ++ (u.cells.toList ++ cells.toList.drop (i * size + u.cells.toList.length))).toArray) h f1.inv
     (by rw [f1.len]; exact hn) (PartsRep.mono f1.ext hn (Nat.le_refl _) h2) hr1 he1
   refine ⟨g2, cells', f1.trans f2, ?_, hr2, he2, by rw [hl2]; simp⟩
   rw [fill_step (off := i * size) (size := size) rfl (by omega) (by omega)]
   simpa using hf
theorem buildSlice_sound (hty : ∀ t i, E.ty t = some i → TyOk E.P t i) (hI : Inv g σ w) {t e len : Nat} {ei : TInfo} (hse : E.P.underlying t = some (.slice e)) (hei : E.ty e = some ei) {ps : List (Nat × AV)} {qs : Array (Nat × Value)}
   {es : List (List AV)} {σ' : Store} (hlen : len * ei.size ≤ 16777216 ∧ ei.size ≠ 0) (h : aBuildElems σ ei.size ps (List.replicate len ei.zero) = some (es, σ')) (hp : PartsRep g σ.length ps qs.toList) :
   ∃ g' w' u, (Instr.buildSlice t len qs).run E.P w = .ok u w' ∧ Moved g g' σ σ' w' ∧ Rep g' (.sl true ei.size es) 0 u := by
 obtain ⟨ti, z, hinfo, hts, htb, htz, hzr, hz1, hzl, hzleaf, _⟩ := (hty e ei hei).info
 have hzs : z.cells.size = ei.size := by have := Reps.length (hzr g 0); simp at this; omega
 have hmade : (madeCells z.cells (len * ei.size)).toList = (List.replicate len z.cells.toList).flatten := by rw [← hzs]; exact made_flatten _ _
 obtain ⟨g1, cells', f1, hf, hr1, he1, hl1⟩ := buildElems_sound (cells := madeCells z.cells (len * ei.size)) h hI (Nat.le_refl _) hp (by rw [hmade]; exact Reps.replicate (hzr g 0) len)
   (fun e' he' => by rw [(List.mem_replicate.1 he').2]; exact ⟨hzl, hzleaf⟩)
 rw [List.length_replicate] at hl1
 obtain ⟨he2, hI2⟩ := f1.inv.commit cells' e
 refine ⟨g1.commit w.heap.size cells', w.alloc (.cells cells' e), .slice (some ⟨w.heap.size, 0, none⟩) len len, ?_, ⟨f1.ext.trans he2 (by rw [f1.len]; exact Nat.le_refl _), hI2, by rw [f1.len]; exact Nat.le_refl _⟩, ?_⟩
 · have h1 : ¬ (16777216 < len * ei.size) := by omega
   have hso := run_sizeOf' (hty e ei hei) w
   have hzv : (zeroValue e).run E.P w = .ok z w := by simp [zeroValue, typeInfo, hinfo, htz]
   have hf' : Instr.fill (fun i => some (i * ei.size, ei.size)) ((Array.range (len * ei.size)).map (z.cells[· % z.cells.size]!)) qs.toList = some cells' := hf
   by_cases h0 : len * ei.size = 0
   · have hf0 : Instr.fill (fun i => some (i * ei.size, ei.size)) #[] qs.toList = some cells' := by
       rw [← hf']; congr 1; rw [h0]; simp
     have hr0 : ∀ f : Nat → Value, (Array.range 0).map f = #[] := fun f => by simp
     simp only [Instr.buildSlice, Sem.run_bind, run_underlying hse, Result.andThen_ok, hso, h0]
     rw [if_neg (by omega), if_pos trivial]
     simp only [Sem.run_bind, Sem.run_pure, Result.andThen_ok, hr0, hf0]
     rfl
   · simp [Instr.buildSlice, run_underlying hse, hso, h1, h0, hzv, hf', newRow]
 · rw [← hl1]
   refine ⟨some ⟨w.heap.size, 0, none⟩, es.length, rfl, Nat.le_refl _, fun _ => rfl, .inr ⟨w.heap.size, 0, rfl, RepE.of_reps he1 (RepC.of_reps (Reps.mono he2 _ 0 0 _ (Nat.zero_le _) (Nat.le_refl _) hr1) fun j v hj => ?_)⟩⟩
   simp only [Ghost.commit, if_true, Nat.zero_add]
   simpa using hj
end Go.Abs
namespace Go.Abs
open Go.RowKit
variable {E : Env} {g : Ghost} {σ : Store} {w : World}
theorem beq_bytes (a b : ByteArray) : (a == b) = true ↔ a = b := by
 cases a; cases b
 show ByteArray.beq _ _ = true ↔ _
 simp [ByteArray.beq]
theorem keyEq_iff {a b : MKey} : keyEq a b = true ↔ a = b := by
 cases a <;> cases b <;> simp [keyEq, beq_bytes]
theorem keyEq_refl (a : MKey) : keyEq a a = true := keyEq_iff.2 rfl
theorem keyEq_false {a b : MKey} : keyEq a b = false ↔ a ≠ b := by
 rw [← Bool.not_eq_true, keyEq_iff]
theorem mapPut_same (f : MKey → Option AV) (k : MKey) (v : AV) : mapPut f k v k = some v := by simp [mapPut, keyEq_refl]
theorem mapPut_other (f : MKey → Option AV) (k k' : MKey) (v : AV) (h : k' ≠ k) : mapPut f k v k' = f k' := by simp [mapPut, keyEq_false.2 h]
theorem tkSame_eq {a b : TK} (h : tkSame a b = true) : a = b := by
 cases a <;> cases b <;> simp [tkSame] at h <;> simp_all
theorem toKey_rep {kk : TK} {x : AV} {key : MKey} {n : Nat} {v : Value} (h : toKey kk x = some key) (hr : Rep g x n v) : keyVal kk key v := by
 cases kk <;> cases x <;> simp [toKey] at h
 · obtain ⟨h1, h2⟩ := iteO_none h
   injection h2 with h2
   have := of_decide_eq_true h1
   subst h2; subst this
   exact hr
 · subst h; exact hr
 · subst h; exact hr
theorem sameNow_key {d : TypeDesc} {kk : TK} (hd : descOk d kk) {a b : MKey} {v u : Value} (ha : keyVal kk a v) (hb : keyVal kk b u) : Instr.sameNow d v u = some (keyEq a b) := by
 cases kk <;> cases a <;> simp [keyVal] at ha <;> cases b <;> simp [keyVal] at hb
 · have := desc_int hd; subst this; subst ha; subst hb; simp [Instr.sameNow, keyEq]
 · have := desc_bool hd; subst this; subst ha; subst hb; simp [Instr.sameNow, keyEq]
 · have := desc_string hd; subst this; subst ha; subst hb; simp [Instr.sameNow, keyEq]
theorem sameBits_key {kk : TK} {a : MKey} {v u : Value} (ha : keyVal kk a v) (hb : keyVal kk a u) : Instr.sameBits 10000 v u = true := by
 cases kk <;> cases a <;> simp [keyVal] at ha hb <;> subst ha <;> subst hb <;> simp [Instr.sameBits, beq_bytes]
theorem find_ok {d : TypeDesc} {kk : TK} (hd : descOk d kk) {key : MKey} {kv : Value} (hk : keyVal kk key kv) : ∀ {es : List MapEntry} {m : MKey → Option AV} (i : Nat), MapOk g kk m es →
   (Instr.findNow d kv es i = some none ∧ m key = none) ∨ (∃ j e v, es[j]? = some e ∧ keyVal kk key e.key ∧ Instr.findNow d kv es i = some (some (i + j, e.val)) ∧ m key = some v ∧ Rep g v 0 e.val)
 | [], m, i, h => .inl ⟨rfl, h key⟩
 | e :: es, m, i, ⟨key', hk', ⟨v, hv, hr⟩, m', hm, he⟩ => by
   have hs := sameNow_key hd hk hk'
   cases hq : keyEq key key' with
   | true =>
     have := keyEq_iff.1 hq
     subst this
     exact .inr ⟨0, e, v, rfl, hk', by simp [Instr.findNow, hs, hq], hv, hr⟩
   | false =>
     rcases find_ok hd hk (i + 1) hm with ⟨h1, h2⟩ | ⟨j, e', v', h1, h2, h3, h4, h5⟩
     · exact .inl ⟨by simp [Instr.findNow, hs, hq, h1], by rw [he key hq]; exact h2⟩
     · exact .inr ⟨j + 1, e', v', by simpa using h1, h2, by simp [Instr.findNow, hs, hq, h3]; omega, by rw [he key hq]; exact h4, h5⟩
theorem MapOk.push {kk : TK} {key : MKey} {kv : Value} (hk : keyVal kk key kv) {v : AV} {val : Value} (hr : Rep g v 0 val) (born : Nat) : ∀ {es : List MapEntry} {m : MKey → Option AV}, m key = none → MapOk g kk m es →
   MapOk g kk (mapPut m key v) (es ++ [⟨kv, val, born⟩])
 | [], m, _, h => ⟨key, hk, ⟨v, mapPut_same m key v, hr⟩, fun _ => none, fun _ => rfl, fun k hkk => by rw [mapPut_other _ _ _ _ (keyEq_false.1 hkk), h k]⟩
 | e :: es, m, hn, ⟨key', hk', ⟨v', hv, hr'⟩, m', hm, he⟩ => by
   have hne : key ≠ key' := fun e => by rw [e, hv] at hn; cases hn
   refine ⟨key', hk', ⟨v', by rw [mapPut_other _ _ _ _ hne.symm]; exact hv, hr'⟩, mapPut m' key v, MapOk.push hk hr born (by rw [← he key (keyEq_false.2 hne)]; exact hn) hm, fun k hkk => ?_⟩
   by_cases h : k = key
   · subst h; rw [mapPut_same, mapPut_same]
   · rw [mapPut_other _ _ _ _ h, mapPut_other _ _ _ _ h, he k hkk]
theorem MapOk.set {kk : TK} {key : MKey} {kv : Value} (hk : keyVal kk key kv) {v : AV} {val : Value} (hr : Rep g v 0 val) : ∀ {es : List MapEntry} {m : MKey → Option AV} {j : Nat} {e : MapEntry}, es[j]? = some e → keyVal kk key e.key →
   MapOk g kk m es → (∀ i, i < j → ∀ e', es[i]? = some e' → ¬ keyVal kk key e'.key) → MapOk g kk (mapPut m key v) (es.modify j fun e => { e with key := kv, val := val })
 | [], _, _, _, h, _, _, _ => by simp at h
 | e :: es, m, 0, _, h, hke, ⟨key', hk', ⟨v', hv, hr'⟩, m', hm, he⟩, _ => by
   simp at h
   subst h
   have : key' = key := by
     cases kk <;> cases key <;> simp [keyVal] at hke <;> cases key' <;> simp [keyVal] at hk' <;> simp_all
   subst this
   refine ⟨key', hk, ⟨v, mapPut_same m key' v, hr⟩, m', hm, fun k hkk => ?_⟩
   rw [mapPut_other _ _ _ _ (keyEq_false.1 hkk), he k hkk]
 | e :: es, m, j + 1, e', h, hke, ⟨key', hk', ⟨v', hv, hr'⟩, m', hm, he⟩, hlt => by
   have hne : key' ≠ key := fun h => hlt 0 (by omega) e rfl (h ▸ hk')
   rw [List.modify_succ_cons]
   refine ⟨key', hk', ⟨v', by rw [mapPut_other _ _ _ _ hne]; exact hv, hr'⟩, mapPut m' key v,
     MapOk.set hk hr (by simpa using h) hke hm (fun i hi e'' he'' => hlt (i + 1) (by omega) e'' (by simpa using he'')), fun k hkk => ?_⟩
   by_cases h : k = key
   · subst h; rw [mapPut_same, mapPut_same]
   · rw [mapPut_other _ _ _ _ h, mapPut_other _ _ _ _ h, he k hkk]
theorem find_first {d : TypeDesc} {kk : TK} (hd : descOk d kk) {key : MKey} {kv : Value} (hk : keyVal kk key kv) : ∀ {es : List MapEntry} {m : MKey → Option AV} (i j : Nat) (v : Value), MapOk g kk m es →
   Instr.findNow d kv es i = some (some (i + j, v)) → ∀ k, k < j → ∀ e', es[k]? = some e' → ¬ keyVal kk key e'.key
 | [], _, i, j, v, _, h => by simp [Instr.findNow] at h
 | e :: es, m, i, j, v, ⟨key', hk', _, m', hm, _⟩, h => by
   have hs := sameNow_key hd hk hk'
   intro k hkj e' he' hke
   simp only [Instr.findNow, hs] at h
   cases hq : keyEq key key' with
   | true => rw [hq] at h; simp at h; omega
   | false =>
     rw [hq] at h
     simp only at h
     cases k with
     | zero =>
       simp at he'
       subst he'
       have : key = key' := by
         cases kk <;> cases key <;> simp [keyVal] at hke <;> cases key' <;> simp [keyVal] at hk' <;> simp_all
       exact keyEq_false.1 hq this
     | succ k =>
       obtain ⟨j', rfl⟩ : ∃ j', j = j' + 1 := ⟨j - 1, by omega⟩
       exact find_first hd hk (i + 1) j' v hm (by rw [h]; congr 3; omega) k (by omega) e' (by simpa using he') hke
theorem checkKey_ok {P : Program} {t : TypeId} {d : TypeDesc} (hd1 : P.underlying t = some d) {kk : TK} (hd : descOk d kk) {key : MKey} {kv : Value} (hk : keyVal kk key kv) (b : Bool) :
   (Instr.checkKey b 10000 t kv).run P w = .ok () w := by
 show (Instr.checkKey b (9999 + 1) t kv).run P w = .ok () w
 unfold Instr.checkKey
 rw [Sem.run_bind, run_underlying hd1 w]
 cases kk <;> cases key <;> simp [keyVal] at hk <;> subst hk
 · have := desc_int hd; subst this; rfl
 · have := desc_bool hd; subst this; rfl
 · have := desc_string hd; subst this; rfl
theorem getObj_map {P : Program} {r : Nat} {es : Array MapEntry} {c : Nat} (h : w.heap[r]? = some (.map es c)) : (getObj r).run P w = .ok (.map es c) w := by
 simp [getObj, Sem.run, h]
theorem lookup_sound (hty : ∀ t i, E.ty t = some i → TyOk E.P t i) (hI : Inv g σ w) {t : Nat} {m k v : AV} {ok : Bool} {n : Nat} {mv kv : Value} (h : aLookup E σ t m k ok = some v) (hm : Rep g m n mv) (hk : Rep g k n kv) :
   ∃ u, (Instr.lookup t mv kv ok).run E.P w = .ok u w ∧ Rep g v n u := by
 obtain ⟨ti, ht, h⟩ := bindO_eq h
 obtain ⟨ke, hke, h⟩ := bindO_eq h
 obtain ⟨ki, hki, h⟩ := bindO_eq h
 obtain ⟨ei, hei, h⟩ := bindO_eq h
 obtain ⟨f, hf, h⟩ := bindO_eq h
 obtain ⟨hsame, h⟩ := iteO_none h
 obtain ⟨key, hkey, h⟩ := bindO_eq h
 have hsame := tkSame_eq hsame
 obtain ⟨d, hd1, hd2⟩ := (hty t ti ht).und
 rw [tkMap_eq hke] at hd2
 have := desc_map hd2
 subst this
 obtain ⟨dk, hdk1, hdk2⟩ := (hty _ ki hki).und
 obtain ⟨tinf, z, hinfo, hts, htb, htz, hzr, hz1, hzl, hzleaf, hshape⟩ := (hty _ ei hei).info
 have hkv := toKey_rep hkey hk
 cases m with
 | map id =>
   have hf := objMap_eq hf
   obtain ⟨hid, rfl⟩ := hm
   obtain ⟨ents, clock, hheap, hmok⟩ := hI.objs id _ hf
   rw [hsame] at hmok
   have hck := checkKey_ok (w := w) hdk1 hdk2 hkv ents.isEmpty
   have hfk : ∀ r, Instr.findNow dk kv ents.toList 0 = some r → (Instr.findKey ke.1 kv ents.toList).run E.P w = .ok r w := fun r hr => by
     simp [Instr.findKey, run_underlying hdk1, hr]
   rcases find_ok hdk2 hkv 0 hmok with ⟨h1, h2⟩ | ⟨j, e, v', h1, h2, h3, h4, h5⟩
   · have h : foundOr ok ei (f.2 key) = some v := by assumption
     rw [h2] at h
     obtain ⟨v0, hv0, h⟩ := bindO_eq h
     injection h with h
     subst h
     have hz : Rep g v0 n z := by
       cases hagg : ei.k.agg with
       | true =>
         rw [hagg] at hv0 hshape
         simp [ofCellsK] at hv0
         subst hv0
         rw [hshape]
         exact ⟨z.cells.toList, by simp, hzr g n⟩
       | false =>
         rw [hagg] at hv0 hshape
         cases hzz : ei.zero with
         | nil => rw [hzz] at hv0; simp [ofCellsK] at hv0
         | cons c cs =>
           cases cs with
           | cons _ _ => rw [hzz] at hv0; simp [ofCellsK] at hv0
           | nil =>
             rw [hzz] at hv0
             simp [ofCellsK] at hv0
             subst hv0
             have hr := hzr g n
             rw [hzz, cells_one hshape] at hr
             obtain ⟨u, us, e, hu, _⟩ := hr
             simp at e
             rw [e.1]; exact hu
     have hrun : (Instr.lookup t (.map (some (g.blk id))) kv ok).run E.P w = .ok (if ok then .tuple #[z, .bool false] else z) w := by
       simp [Instr.lookup, run_underlying hd1, getObj_map hheap, hck, hfk _ h1, zeroValue, typeInfo, hinfo, htz]
     refine ⟨_, hrun, ?_⟩
     cases ok with
     | true => exact ⟨[z, .bool false], rfl, z, _, rfl, hz, _, _, rfl, rfl, rfl⟩
     | false => exact hz
   · have h : foundOr ok ei (f.2 key) = some v := by assumption
     rw [h4] at h
     injection h with h
     subst h
     have hv : Rep g v' n e.val := Rep.mono (Ext.refl g n) _ 0 n _ (Nat.zero_le _) (Nat.zero_le _) h5
     have hrun : (Instr.lookup t (.map (some (g.blk id))) kv ok).run E.P w = .ok (if ok then .tuple #[e.val, .bool true] else e.val) w := by
       simp [Instr.lookup, run_underlying hd1, getObj_map hheap, hck, hfk _ h3]
     refine ⟨_, hrun, ?_⟩
     cases ok with
     | true => exact ⟨[e.val, .bool true], rfl, e.val, _, rfl, hv, _, _, rfl, rfl, rfl⟩
     | false => exact hv
 | _ => simp [mapOf] at hf
end Go.Abs
namespace Go.Abs
open Go.RowKit
variable {E : Env} {g : Ghost} {σ : Store} {w : World}
theorem Inv.newMap (h : Inv g σ w) (kk : TK) : Moved g (g.push σ.length w.heap.size) σ (σ ++ [.map kk fun _ => none]) (w.alloc (.map #[] 0)) := by
 have he := g.push_ext σ.length w.heap.size σ.length (Nat.le_refl _)
 refine ⟨he, h.change σ.length he (by simp) (fun j hj => push_get j hj) (fun _ _ => rfl) (fun k hk _ => Below.heap_alloc w _ k hk) ((Below.refl _ w).alloc (Nat.zero_le _) _) (by simp) (fun _ _ _ hv => .inl hv) (fun o ho => ?_), by simp⟩
 rw [push_last] at ho
 injection ho with ho
 subst ho
 refine ⟨⟨#[], 0, ?_, fun _ => rfl⟩, fun b hb => ?_⟩
 · simp only [Ghost.push, if_true]; exact heap_new w _
 · simp [owned, Ghost.push] at hb
   subst hb
   refine ⟨.inl (Nat.le_refl _), by simp, fun off => ?_⟩
   cases hc : g.C w.heap.size off with
   | none => exact hc
   | some v => have := h.lt hc; omega
def World.putObj' (w : World) (r : Nat) (o : Obj) : World := { w with heap := w.heap.setIfInBounds r o }
theorem putObj_get (w : World) (r : Nat) (o : Obj) (k : Nat) (h : k ≠ r) : (World.putObj' w r o).heap[k]? = w.heap[k]? := by
 simp [World.putObj', Ne.symm h]
theorem putObj_same (w : World) (r : Nat) (o : Obj) (h : r < w.heap.size) : (World.putObj' w r o).heap[r]? = some o := by
 simp [World.putObj', h]
theorem mapUpdate_sound (hty : ∀ t i, E.ty t = some i → TyOk E.P t i) (hI : Inv g σ w) {t : Nat} {m k v : AV} {σ' : Store} {mv kv vv : Value} (h : aMapUpdate E σ t m k v = some σ')
   (hm : Rep g m σ.length mv) (hk : Rep g k σ.length kv) (hv : Rep g v σ.length vv) :
   ∃ g' w', (Instr.mapUpdate t mv kv vv).run E.P w = .ok () w' ∧ Moved g g' σ σ' w' := by
 obtain ⟨ti, ht, h⟩ := bindO_eq h
 obtain ⟨ke, hke, h⟩ := bindO_eq h
 obtain ⟨ki, hki, h⟩ := bindO_eq h
 obtain ⟨d, hd1, hd2⟩ := (hty t ti ht).und
 rw [tkMap_eq hke] at hd2
 have := desc_map hd2
 subst this
 obtain ⟨dk, hdk1, hdk2⟩ := (hty _ ki hki).und
 cases m with
 | map id =>
   obtain ⟨key, hkey, h⟩ := bindO_eq h
   obtain ⟨q, hq, h⟩ := bindO_eq h
   obtain ⟨f, hf, h⟩ := bindO_eq h
   obtain ⟨hsame, h⟩ := iteO_none h
   injection h with h
   subst h
   have hsame := tkSame_eq hsame
   have hf := objMap_eq hf
   have hkv := toKey_rep hkey hk
   obtain ⟨g1, f1, r1⟩ := freeze_sound hI (Nat.le_refl _) hq hv
   obtain ⟨hid, rfl⟩ := hm
   rw [← f1.blk]
   obtain ⟨ents, clock, hheap, hmok⟩ := f1.inv.objs id _ hf
   rw [hsame] at hmok
   have hsep := f1.inv.sep id _ _ hf rfl
   have hid1 : id < q.2.length := by rw [f1.len]; exact hid
   have hck := checkKey_ok (w := w) hdk1 hdk2 hkv false
   have hfk : ∀ r, Instr.findNow dk kv ents.toList 0 = some r → (Instr.findKey ke.1 kv ents.toList).run E.P w = .ok r w := fun r hr => by
     simp [Instr.findKey, run_underlying hdk1, hr]
   have hset : ∀ o : Obj, (setObj (g1.blk id) o).run E.P w = .ok () (World.putObj' w (g1.blk id) o) := fun o => by
     simp [setObj, Sem.run, hheap, World.putObj']
   have fin : ∀ (es' : Array MapEntry) (c' : Nat), MapOk g1 ki.k (mapPut f.2 key q.1) es'.toList →
       Moved g g1 σ (q.2.set id (.map f.1 (mapPut f.2 key q.1))) (World.putObj' w (g1.blk id) (.map es' c')) := fun es' c' hok => by
     refine ⟨f1.ext, ?_, by simp [f1.len]⟩
     refine f1.inv.change id (Ext.refl g1 _) (by simp) (fun j hj => set_other j hj) (fun _ _ => rfl) (fun k' _ hk' => putObj_get _ _ _ _ fun e => hk' _ hf (by rw [e]; rfl))
       ⟨rfl, rfl, rfl, by simp [World.putObj'], fun k' hk' => absurd hk' (Nat.not_lt_zero _)⟩ (by simp [World.putObj']) (fun _ _ _ h => .inl h) (fun o ho => ?_)
     rw [set_same hf] at ho
     injection ho with ho
     subst ho
     refine ⟨⟨es', c', putObj_same _ _ _ hsep.2.1, by rw [hsame]; exact hok⟩, fun b hb => ⟨.inr ⟨_, hf, hb⟩, ?_, ?_⟩⟩
     · simp [owned] at hb; subst hb; simpa [World.putObj'] using hsep.2.1
     · simp [owned] at hb; subst hb; exact hsep.2.2
   rcases find_ok hdk2 hkv 0 hmok with ⟨h1, h2⟩ | ⟨j, e, v', h1, h2, h3, h4, h5⟩
   · refine ⟨g1, _, ?_, fin (ents.push { key := kv, val := vv, born := clock }) (clock + 1) (by rw [Array.toList_push]; exact MapOk.push hkv r1 clock h2 hmok)⟩
     simp [Instr.mapUpdate, run_underlying hd1, getObj_map hheap, hck, hfk _ h1, hset]
   · have hfirst := find_first hdk2 hkv 0 j e.val hmok h3
     refine ⟨g1, _, ?_, fin (ents.modify j fun e => { e with key := kv, val := vv }) clock (by rw [Array.toList_modify]; exact MapOk.set hkv r1 h1 h2 hmok hfirst)⟩
     have he : ents[j]? = some e := by simpa using h1
     have hstay : (Instr.keyThatStays e.key kv).run E.P w = .ok kv w := by
       simp [Instr.keyThatStays, sameBits_key h2 hkv]
     simp [Instr.mapUpdate, run_underlying hd1, getObj_map hheap, hck, hfk _ h3, he, hstay, hset]
 | _ => simp [aMapUpdateV] at h
theorem len_sound (hty : ∀ t i, E.ty t = some i → TyOk E.P t i) (hI : Inv g σ w) {ts : Array TypeId} {x v : AV} {n ty : Nat} {xv : Value} (h : aLen E σ ts.toList x = some v) (hx : Rep g x n xv) :
   ∃ u, (Builtin.len_ ts ty #[xv]).run E.P w = .ok u w ∧ Rep g v n u := by
 obtain ⟨t, ht, h1⟩ := bindO_eq h
 obtain ⟨ti, hti, h2⟩ := bindO_eq h1
 clear h h1
 have hts : ts = #[t] := by
   cases hl : ts.toList with
   | nil => rw [hl] at ht; simp [oneType] at ht
   | cons a l =>
     cases l with
     | nil => rw [hl] at ht; simp [oneType] at ht; subst ht; exact Array.ext' hl
     | cons _ _ => rw [hl] at ht; simp [oneType] at ht
 subst hts
 obtain ⟨d, hd1, hd2⟩ := (hty t ti hti).und
 cases hk : ti.k with
 | string =>
   rw [hk] at h2 hd2
   have := desc_string hd2; subst this
   cases x with
   | str s =>
     simp [aLenK] at h2
     subst h2
     have hx : xv = _ := hx
     subst hx
     exact ⟨_, by simp [Builtin.len_, run_underlying hd1]; rfl, rfl⟩
   | _ => simp [aLenK] at h2
 | slice e =>
   rw [hk] at h2 hd2
   have := desc_slice hd2; subst this
   cases x with
   | sl f sz es =>
     simp [aLenK] at h2
     subst h2
     obtain ⟨a, cap, rfl, _⟩ := hx
     exact ⟨_, by simp [Builtin.len_, run_underlying hd1]; rfl, rfl⟩
   | rs id ver =>
     obtain ⟨p, hc, h3⟩ := bindO_eq h2
     injection h3 with h3
     subst h3
     obtain ⟨_, hh, _⟩ := hx
     obtain ⟨a, cap, hh'⟩ : ∃ a cap, g.hd id ver = some (.slice a p.2.length cap) := by
       rcases curA_eq hc with hc | hc
       · obtain ⟨⟨a, cap, hh', _⟩, _⟩ := hI.objs id _ hc; exact ⟨a, cap, hh'⟩
       · obtain ⟨⟨a, cap, hh', _⟩, _⟩ := hI.objs id _ hc; exact ⟨a, cap, hh'⟩
     rw [hh] at hh'
     injection hh' with hh'
     subst hh'
     exact ⟨_, by simp [Builtin.len_, run_underlying hd1]; rfl, rfl⟩
   | _ => simp [aLenK] at h2
 | _ => rw [hk] at h2; simp [aLenK] at h2
theorem minmax_sound {P : Program} {ts : Array TypeId} {ty : Nat} {mx : Bool} {x y v : AV} {n : Nat} {xv yv : Value} (h : aMinMax mx x y = some v) (hx : Rep g x n xv) (hy : Rep g y n yv) :
   ∃ u, ((match mx with | true => Builtin.max_ | false => Builtin.min_) ts ty #[xv, yv]).run P w = .ok u w ∧ Rep g v n u := by
 cases x <;> cases y <;> simp [aMinMax] at h
 rename_i k a j b
 subst h
 have hx : xv = _ := hx
 have hy : yv = _ := hy
 subst hx; subst hy
 cases mx with
 | true =>
   refine ⟨.int k (max a b), ?_, rfl⟩
   have : (if b > a then b else a) = max a b := by rw [Int.max_def]; split <;> split <;> omega
   simp [Builtin.max_, Builtin.max2, ← this]
 | false =>
   refine ⟨.int k (min a b), ?_, rfl⟩
   have : (if b < a then b else a) = min a b := by rw [Int.min_def]; split <;> split <;> omega
   simp [Builtin.min_, Builtin.min2, ← this]
theorem optI_rep {n : Nat} {fr : Fr} {a : Act} (h : FrOk g n fr a.tmps) {o : Option Operand} {i : Option Int} (hi : optI fr o = some i) :
   (i = none ∧ o.map a.eval = none) ∨ (∃ j k, i = some j ∧ o.map a.eval = some (.int k j)) := by
 cases o with
 | none => simp [optI] at hi; exact .inl ⟨hi.symm, rfl⟩
 | some x =>
   obtain ⟨j, hj, hi⟩ := bindO_eq hi
   injection hi with hi
   obtain ⟨k, hk⟩ := asI_rep hj (evalO_rep h x)
   exact .inr ⟨j, k, hi.symm, by simp [hk]⟩
theorem bound_ok {P : Program} {k : IntKind} {i : Int} {y : Nat} {c : BoundsCode} (h : 0 ≤ i ∧ i ≤ (y : Int)) : (Instr.sliceBound (.int k i) y c).run P w = .ok i.toNat w := by
 simp [Instr.sliceBound, asIntOf, h]
theorem bounds_ok {P : Program} {isS : Bool} {len cap : Nat} {lo hi mx : Option Int} {vl vh vm : Option Value} (hl : (lo = none ∧ vl = none) ∨ (∃ j k, lo = some j ∧ vl = some (.int k j))) (hh : (hi = none ∧ vh = none) ∨ (∃ j k, hi = some j ∧ vh = some (.int k j)))
   (hm : (mx = none ∧ vm = none) ∨ (∃ j k, mx = some j ∧ vm = some (.int k j))) (hb : 0 ≤ lo.getD 0 ∧ lo.getD 0 ≤ hi.getD len ∧ hi.getD len ≤ (len : Int)) (hlc : len ≤ cap) (hmx : ∀ m, mx = some m → m = hi.getD len ∧ hi ≠ none) :
   (Instr.sliceBounds isS len cap vl vh vm).run P w = .ok ((lo.getD 0).toNat, (hi.getD len).toNat, match mx with | some m => m.toNat | none => cap) w := by
 rcases hl with ⟨rfl, rfl⟩ | ⟨l, kl, rfl, rfl⟩ <;> rcases hh with ⟨rfl, rfl⟩ | ⟨h, kh, rfl, rfl⟩ <;> rcases hm with ⟨rfl, rfl⟩ | ⟨m, km, rfl, rfl⟩ <;> simp only [Option.getD_some, Option.getD_none] at hb hmx ⊢
 all_goals first
   | exact absurd rfl (hmx _ rfl).2
   | skip
 · simp [Instr.sliceBounds]
 · simp only [Instr.sliceBounds, Sem.run_bind, Sem.run_pure, Result.andThen_ok]
   rw [bound_ok (by omega)]
   simp
 · have := (hmx m rfl).1
   subst this
   simp only [Instr.sliceBounds, Sem.run_bind, Sem.run_pure, Result.andThen_ok]
   rw [bound_ok (by omega)]
   simp only [Result.andThen_ok]
   rw [bound_ok (by omega)]
   simp
 · simp only [Instr.sliceBounds, Sem.run_bind, Sem.run_pure, Result.andThen_ok]
   rw [bound_ok (by omega)]
   simp
 · simp only [Instr.sliceBounds, Sem.run_bind, Sem.run_pure, Result.andThen_ok]
   rw [bound_ok (by omega)]
   simp only [Result.andThen_ok]
   rw [bound_ok (by omega)]
   simp
 · have := (hmx m rfl).1
   subst this
   simp only [Instr.sliceBounds, Sem.run_bind, Sem.run_pure]
   rw [bound_ok (by omega)]
   simp only [Result.andThen_ok]
   rw [bound_ok (by omega)]
   simp only [Result.andThen_ok]
   rw [bound_ok (by omega)]
   simp
end Go.Abs
namespace Go.Abs
open Go.RowKit
variable {E : Env} {g : Ghost} {σ : Store} {w : World}
theorem aCut_length {es : List (List AV)} {l h : Int} (hb : 0 ≤ l ∧ l ≤ h ∧ h ≤ (es.length : Int)) : (aCut es l h).length = h.toNat - l.toNat := by
 simp [aCut]; omega
theorem RepE.cut {sz b o : Nat} {es : List (List AV)} {l h : Int} (hr : RepE g es sz b o) (hb : 0 ≤ l ∧ l ≤ h ∧ h ≤ (es.length : Int)) : RepE g (aCut es l h) sz b (o + l.toNat * sz) :=
 RepE.take _ (RepE.drop _ (by omega) hr)
theorem pair_inj' {α β : Type} {a a' : α} {b b' : β} (h : some (a, b) = some (a', b')) : a = a' ∧ b = b' := by
 injection h with h; injection h with h1 h2; exact ⟨h1, h2⟩
theorem slice_sl {e : Nat} (hty : ∀ t i, E.ty t = some i → TyOk E.P t i) (hI : Inv g σ w) {t : Nat} {f : Bool} {sz : Nat} {es : List (List AV)} {v : AV} {σ' : Store} {lo hi mx : Option Int} {xv : Value} {vl vh vm : Option Value} (hd1 : E.P.underlying t = some (.slice e)) (h2 : aSliceK E σ lo hi mx (.slice e) (.sl f sz es) = some (v, σ')) (hx : Rep g (.sl f sz es) σ.length xv)
   (hl : (lo = none ∧ vl = none) ∨ (∃ j k, lo = some j ∧ vl = some (.int k j))) (hh : (hi = none ∧ vh = none) ∨ (∃ j k, hi = some j ∧ vh = some (.int k j)))
   (hm : (mx = none ∧ vm = none) ∨ (∃ j k, mx = some j ∧ vm = some (.int k j))) :
   ∃ g' u, (Instr.sliceAt t xv vl vh vm).run E.P w = .ok u w ∧ Moved g g' σ σ' w ∧ Rep g' v σ'.length u := by
 have hstay : Moved g g σ σ w := ⟨Ext.refl g _, hI, Nat.le_refl _⟩
 obtain ⟨ei, hei, h3⟩ := bindO_eq h2
 obtain ⟨hc, h4⟩ := iteO_none h3
 simp only [Bool.and_eq_true, Bool.or_eq_true, decide_eq_true_eq, List.isEmpty_iff] at hc
 have hb := inS_eq hc.2
 have hsz := hc.1
 have hso := run_sizeOf' (hty e ei hei) w
 obtain ⟨a, cap, rfl, hlc, hfull, hr⟩ := hx
 have hcl := aCut_length hb
 have key : ∀ (m : Nat) (f' : Bool), (hi.getD es.length).toNat ≤ m → (f' = true → m - (lo.getD 0).toNat = (hi.getD es.length).toNat - (lo.getD 0).toNat) →
     Rep g (.sl f' sz (aCut es (lo.getD 0) (hi.getD es.length))) σ.length
       (.slice (if m = (lo.getD 0).toNat then a else a.map (·.add ((lo.getD 0).toNat * ei.size))) ((hi.getD es.length).toNat - (lo.getD 0).toNat) (m - (lo.getD 0).toNat)) := by
   intro m f' hm hf'
   refine ⟨_, m - (lo.getD 0).toNat, by rw [hcl], by rw [hcl]; omega, fun h => by rw [hcl]; exact hf' h, ?_⟩
   by_cases hnil : aCut es (lo.getD 0) (hi.getD es.length) = []
   · exact .inl hnil
   · have hpos : 0 < (aCut es (lo.getD 0) (hi.getD es.length)).length := List.length_pos_iff.2 hnil
     rw [hcl] at hpos
     rcases hr with rfl | ⟨b, o, rfl, hr⟩
     · simp [aCut] at hnil
     · refine .inr ⟨b, o + (lo.getD 0).toNat * sz, ?_, RepE.cut hr hb⟩
       have hsz' : sz = ei.size := by
         rcases hsz with h | h
         · exact h
         · exact absurd (by rw [h]; simp [aCut]) hnil
       rw [if_neg (by omega), hsz']
       simp [Addr.add_mid]
 rcases hm with ⟨rfl, rfl⟩ | ⟨m, km, rfl, rfl⟩
 · have hbo := bounds_ok (P := E.P) (w := w) (isS := true) (cap := cap) hl hh (.inl ⟨rfl, rfl⟩) hb hlc (fun m hm => by cases hm)
   simp only at h4 hbo
   injection h4 with h4
   injection h4 with h5 h6
   subst h5; subst h6
   refine ⟨g, _, ?_, hstay, key cap (f && hi.isNone) (by omega) (fun hf => ?_)⟩
   · simp [Instr.sliceAt, run_underlying hd1, Instr.slice, hbo, hso]
   · simp only [Bool.and_eq_true, Option.isNone_iff_eq_none] at hf
     rw [hf.2]
     have := hfull hf.1
     simp; omega
 · simp only at h4
   obtain ⟨hmc, h4⟩ := iteO_none h4
   simp only [Bool.and_eq_true, decide_eq_true_eq] at hmc
   obtain ⟨hme, his⟩ := hmc
   have hbo := bounds_ok (P := E.P) (w := w) (isS := true) (cap := cap) hl hh (.inr ⟨m, km, rfl, rfl⟩) hb hlc (fun m' hm' => by injection hm' with hm'; subst hm'; exact ⟨hme, fun h => by rw [h] at his; cases his⟩)
   simp only at hbo
   injection h4 with h4
   injection h4 with h5 h6
   subst h5; subst h6
   refine ⟨g, _, ?_, hstay, key m.toNat true (by omega) (fun _ => by omega)⟩
   simp [Instr.sliceAt, run_underlying hd1, Instr.slice, hbo, hso]
theorem slice_sound (hty : ∀ t i, E.ty t = some i → TyOk E.P t i) (hI : Inv g σ w) {t : Nat} {x v : AV} {σ' : Store} {lo hi mx : Option Int} {xv : Value} {vl vh vm : Option Value} (h : aSlice E σ t x lo hi mx = some (v, σ')) (hx : Rep g x σ.length xv)
   (hl : (lo = none ∧ vl = none) ∨ (∃ j k, lo = some j ∧ vl = some (.int k j))) (hh : (hi = none ∧ vh = none) ∨ (∃ j k, hi = some j ∧ vh = some (.int k j)))
   (hm : (mx = none ∧ vm = none) ∨ (∃ j k, mx = some j ∧ vm = some (.int k j))) :
   ∃ g' u, (Instr.sliceAt t xv vl vh vm).run E.P w = .ok u w ∧ Moved g g' σ σ' w ∧ Rep g' v σ'.length u := by
 obtain ⟨ti, ht, h2⟩ := bindO_eq h
 clear h
 obtain ⟨d, hd1, hd2⟩ := (hty t ti ht).und
 have hstay : Moved g g σ σ w := ⟨Ext.refl g _, hI, Nat.le_refl _⟩
 cases hk : ti.k with
 | string =>
   rw [hk] at h2 hd2
   have := desc_string hd2; subst this
   cases x with
   | str s =>
     obtain ⟨hc, h3⟩ := iteO_none h2
     injection h3 with h3
     injection h3 with h4 h5
     subst h4; subst h5
     simp only [Bool.and_eq_true] at hc
     have hb := inS_eq hc.2
     have hx : xv = _ := hx
     subst hx
     have hmn : mx = none ∧ vm = none := by
       rcases hm with hm | ⟨j, k, rfl, _⟩
       · exact hm
       · simp at hc
     obtain ⟨rfl, rfl⟩ := hmn
     have hbo := bounds_ok (P := E.P) (w := w) (isS := false) (cap := s.size) hl hh (.inl ⟨rfl, rfl⟩) hb (Nat.le_refl _) (fun m hm => by cases hm)
     refine ⟨g, _, ?_, hstay, rfl⟩
     simp [Instr.sliceAt, run_underlying hd1, Instr.slice, hbo]
   | _ => simp [aSliceK] at h2
 | slice e =>
   rw [hk] at h2 hd2
   have := desc_slice hd2; subst this
   cases x with
   | sl f sz es => exact slice_sl hty hI hd1 h2 hx hl hh hm
   | rs id ver =>
     by_cases hcase : ∃ l, lo = some l ∧ hi = none ∧ mx = none
     · obtain ⟨l, rfl, rfl, rfl⟩ := hcase
       have hvh : vh = none := by
         rcases hh with ⟨_, h⟩ | ⟨_, _, h, _⟩
         · exact h
         · cases h
       have hvm : vm = none := by
         rcases hm with ⟨_, h⟩ | ⟨_, _, h, _⟩
         · exact h
         · cases h
       subst hvh; subst hvm
       obtain ⟨ei, hei, h2⟩ := bindO_eq h2
       obtain ⟨p, hc, h3⟩ := bindO_eq h2
       obtain ⟨hb, h4⟩ := iteO_none h3
       injection h4 with h4
       injection h4 with h5 h6
       subst h5; subst h6
       have hb := inS_eq hb
       have hc := cur_eq hc
       obtain ⟨hid, hhd, _⟩ := hx
       obtain ⟨⟨a, cap, hh', hrow⟩, hes, hfresh⟩ := hI.objs id _ hc
       rw [hhd] at hh'
       injection hh' with hh'
       subst hh'
       have hlc : p.2.length ≤ cap := by
         rcases hrow with ⟨h1, h2⟩ | ⟨_, h2, _⟩
         · rw [h1]; simp
         · exact h2
       have hesz := run_sizeOf' (hty e ei hei) w
       have hbo := bounds_ok (P := E.P) (w := w) (isS := true) (len := p.2.length) (cap := cap) hl (.inl ⟨rfl, rfl⟩) (.inl ⟨rfl, rfl⟩) (by simpa using hb) hlc (fun m hm => by cases hm)
       simp only [Option.getD_some, Option.getD_none] at hbo
       have hu : ∃ u, (Instr.sliceAt t (.slice a p.2.length cap) vl none none).run E.P w = .ok u w := by
         simp [Instr.sliceAt, run_underlying hd1, Instr.slice, hbo, hesz]
       obtain ⟨u, hu⟩ := hu
       exact ⟨g, u, hu, hstay, trivial⟩
     by_cases hthree : ∃ h m, lo = none ∧ hi = some h ∧ mx = some m
     · obtain ⟨h, m, rfl, rfl, rfl⟩ := hthree
       obtain ⟨ei, hei, h2⟩ := bindO_eq h2
       obtain ⟨q, hq, h3⟩ := bindO_eq h2
       obtain ⟨s, hs, h4⟩ := bindO_eq h3
       obtain ⟨hc, h5⟩ := iteO_none h4
       obtain ⟨h6, h7⟩ := pair_inj' h5
       obtain ⟨g', hfz, hr'⟩ := objFrz_sound hI (v' := q.1) (σ' := q.2) hq hx
       obtain ⟨f, hqs⟩ : ∃ f, q.1 = .sl f s.1 s.2 := by
         cases hq1 : q.1 <;> rw [hq1] at hs <;> first | (injection hs with hs; subst hs; exact ⟨_, rfl⟩) | cases hs
       rw [hqs] at hr'
       simp only [Bool.and_eq_true, decide_eq_true_eq] at hc
       obtain ⟨hmh, hc⟩ := hc
       subst hmh
       obtain ⟨g2, u, hrun, hmv, hrep⟩ := slice_sl (g := g') (σ := q.2) (v := v) (σ' := σ') (lo := none) (hi := some m) (mx := some m) hty hfz.inv hd1 (by
         simp only [aSliceK, hei, bindO_some]
         rw [show ((decide (s.1 = ei.size) || s.2.isEmpty) && inS (Option.getD none 0) (Option.getD (some m) (s.2.length : Int)) s.2.length) = true by simpa [Bool.and_eq_true] using hc]
         subst h6; subst h7
         simp [iteO]) (Rep.mono (Ext.refl g' 0) _ 0 _ xv (Nat.le_refl _) (Nat.zero_le _) hr') hl hh hm
       exact ⟨g2, u, hrun, ⟨hfz.ext.trans hmv.ext (Nat.le_of_eq hfz.len.symm), hmv.inv, by have := hmv.len; rw [hfz.len] at this; exact this⟩, hrep⟩
     have hlo : lo = none ∧ vl = none := by
       rcases hl with h | ⟨l, kl, rfl, rfl⟩
       · exact h
       · cases hi with
         | some _ => cases mx <;> simp [aSliceK] at h2
         | none => cases mx with
           | some _ => simp [aSliceK] at h2
           | none => exact absurd ⟨l, rfl, rfl, rfl⟩ hcase
     have hmo : mx = none ∧ vm = none := by
       rcases hm with h | ⟨l, kl, rfl, rfl⟩
       · exact h
       · obtain ⟨rfl, rfl⟩ := hlo
         cases hi with
         | none => simp [aSliceK] at h2
         | some hv => exact absurd ⟨hv, l, rfl, rfl, rfl⟩ hthree
     obtain ⟨rfl, rfl⟩ := hlo
     obtain ⟨rfl, rfl⟩ := hmo
     have hho : ∃ hv kh, hi = some hv ∧ vh = some (.int kh hv) := by
       rcases hh with ⟨rfl, rfl⟩ | h
       · simp [aSliceK] at h2
       · obtain ⟨j, k, h1, h2⟩ := h; exact ⟨j, k, h1, h2⟩
     obtain ⟨hv, kh, rfl, rfl⟩ := hho
     obtain ⟨ei, hei, h2⟩ := bindO_eq h2
     obtain ⟨p, hc, h3⟩ := bindO_eq h2
     obtain ⟨hb, h4⟩ := iteO_none h3
     injection h4 with h4
     injection h4 with h5 h6
     subst h5; subst h6
     have hb := inS_eq hb
     have hc := cur_eq hc
     obtain ⟨hid, hhd, _⟩ := hx
     obtain ⟨⟨a, cap, hh', hrow⟩, hes, hfresh⟩ := hI.objs id _ hc
     rw [hhd] at hh'
     injection hh' with hh'
     subst hh'
     have hnone := hfresh (ver + 1) (by omega)
     have hlc : p.2.length ≤ cap := by
       rcases hrow with ⟨h1, h2⟩ | ⟨_, h2, _⟩
       · rw [h1]; simp
       · exact h2
     have hesz := run_sizeOf' (hty e ei hei) w
     have hbo := bounds_ok (P := E.P) (w := w) (isS := true) (len := p.2.length) (cap := cap) (lo := none) (vl := none) (.inl ⟨rfl, rfl⟩) (.inr ⟨hv, kh, rfl, rfl⟩) (.inl ⟨rfl, rfl⟩) (by simpa using hb) hlc (fun m hm => by cases hm)
     simp only [Option.getD_some, Option.getD_none] at hbo
     let u : Value := .slice a hv.toNat cap
     have he := g.ver_ext id (ver + 1) σ.length u hnone
     have htl : (p.2.take hv.toNat).length = hv.toNat := by simp; omega
     refine ⟨g.ver id (ver + 1) u, u, ?_, ⟨he, ?_, by simp⟩, by simpa using hid, g.ver_same id (ver + 1) u, rfl⟩
     · have ha : (if cap = 0 then a else a.map (·.add 0)) = a := by cases a <;> simp [Addr.add]
       simp only [Instr.sliceAt, Sem.run_bind, run_underlying hd1, Result.andThen_ok, Instr.slice]
       rw [hbo]
       simp [hesz, Addr.add, u]
     · refine hI.change id he (by simp) (fun j hj => set_other j hj) (fun j hj => g.ver_other id _ u j hj) (fun _ _ _ => rfl) (Below.refl _ _) (Nat.le_refl _) (fun _ _ _ h => .inl h) (fun o ho => ?_)
       rw [set_same hc] at ho
       injection ho with ho
       subst ho
       refine ⟨⟨⟨a, cap, by rw [htl]; exact g.ver_same id (ver + 1) u, ?_⟩, fun e he => hes e (List.mem_of_mem_take he), fun k hk => ?_⟩, fun b hb' => ?_⟩
       · rcases hrow with ⟨h1, h2⟩ | ⟨h1, h2, b, vs, tt, h3, h4, h5, h6⟩
         · exact .inl ⟨by rw [h1]; simp, h2⟩
         · refine .inr ⟨h1, by rw [htl]; omega, b, vs, tt, h3, h4, h5, ?_⟩
           have hr := Reps.take (hv.toNat * p.1) (Reps.mono he _ 0 0 _ (Nat.zero_le _) (Nat.le_refl _) h6)
           have hle : hv.toNat * p.1 ≤ p.2.length * p.1 := Nat.mul_le_mul_right _ (by omega)
           rw [List.take_take, Nat.min_eq_left hle] at hr
           rw [htl]
           have hfl : (p.2.take hv.toNat).flatten = p.2.flatten.take (hv.toNat * p.1) := by
             have h7 : p.2.flatten = (p.2.take hv.toNat).flatten ++ (p.2.drop hv.toNat).flatten := by rw [← List.flatten_append, List.take_append_drop]
             rw [h7, List.take_left']
             rw [ElemOk.flatten_len (fun e he => hes e (List.mem_of_mem_take he)), htl]
           rw [hfl]; exact hr
       · rw [g.ver_later id (ver + 1) u k hk]; exact hfresh k (by omega)
       · have hold : owned g id (.row p.1 ver p.2) = some b := by
           simp only [owned, rowBlock, g.ver_same id (ver + 1) u, hhd] at hb' ⊢
           simp only [u] at hb'
           cases a with
           | none => simp at hb'
           | some ad => exact hb'
         obtain ⟨h1, h2, h3⟩ := hI.sep id _ b hc hold
         exact ⟨.inr ⟨_, hc, hold⟩, h2, h3⟩
   | _ => simp [aSliceK] at h2
 | _ => rw [hk] at h2; simp [aSliceK] at h2
end Go.Abs
