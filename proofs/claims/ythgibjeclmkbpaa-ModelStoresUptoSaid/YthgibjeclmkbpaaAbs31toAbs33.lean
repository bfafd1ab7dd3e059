import Derived.Test.YthgibjeclmkbpaaAbs2toAbs30
set_option linter.unusedSimpArgs false
set_option linter.unusedVariables false
namespace Go.Abs
open Go.RowKit
variable {P : Program} {E : Env} {g : Ghost} {σ : Store} {w : World}
def pos : List (Option Nat) → Nat → Nat → Option Nat
 | [], _, _ => none
 | none :: l, id, i => pos l id (i + 1)
 | some j :: l, id, i => match decide (j = id) with
   | true => some i
   | false => pos l id (i + 1)
def isRow : Option AObj → Bool
 | some (.row _ _ _) => true
 | some (.app _ _ _) => true
 | _ => false
def posV (σ : Store) (sel : List (Option Nat)) (id : Nat) : Option Nat := match isRow σ[id]? with
 | true => none
 | false => pos sel id 0
def unRow (ver i : Nat) : Option AObj → AV
 | some (.row _ v _) => match decide (v = ver) with
   | true => .rs i 0
   | false => .top
 | some (.app _ v _) => match decide (v = ver) with
   | true => .rs i 1
   | false => .top
 | _ => .top
mutual
def AV.un (σ : Store) (sel : List (Option Nat)) : AV → AV
  | .ptr id off => match posV σ sel id with
    | some i => .ptr i off
    | none => .top
  | .rs id ver => match pos sel id 0 with
    | some i => unRow ver i σ[id]?
    | none => .top
  | .rptr _ _ _ _ _ => .top
  | .map id => match posV σ sel id with
    | some i => .map i
    | none => .top
  | .agg cs => .agg (AV.uns σ sel cs)
  | .tuple cs => .tuple (AV.uns σ sel cs)
  | .fn f cap => .fn f (AV.uns σ sel cap)
  | .yfn _ => .top
  | .bool b => .bool b
  | .int k n => .int k n
  | .str s => .str s
  | .sl f sz es => .sl f sz es
  | .top => .top
  | .cref cs => .cref cs
  | .nilfn => .nilfn
  | .fnc f => .fnc f
  | .nilp => .nilp
  | .nilmap => .nilmap
  | .nilif => .nilif
def AV.uns (σ : Store) (sel : List (Option Nat)) : List AV → List AV
  | [] => []
  | c :: cs => AV.un σ sel c :: AV.uns σ sel cs
end
def AObj.un (σ : Store) (sel : List (Option Nat)) : AObj → AObj
 | .var cs => .var (AV.uns σ sel cs)
 | .row sz _ es => .row sz 0 es
 | .app sz _ es => .app sz 1 es
 | .frz _ _ _ => .dead
 | .map kk m => .map kk m
 | .dead => .dead
 | .guest _ => .dead
def unO (σ : Store) (sel : List (Option Nat)) : Option Nat → AObj
 | some id => match σ[id]? with
   | some o => o.un σ sel
   | none => .dead
 | none => .dead
def unS (σ : Store) (sel : List (Option Nat)) : Store := sel.map (unO σ sel)
theorem pos_some : ∀ {sel : List (Option Nat)} {id k i : Nat}, pos sel id k = some i → k ≤ i ∧ sel[i - k]? = some (some id)
 | [], _, _, _, h => by cases h
 | none :: l, id, k, i, h => by
   obtain ⟨h1, h2⟩ := pos_some (sel := l) h
   refine ⟨by omega, ?_⟩
   rw [show i - k = (i - (k + 1)) + 1 by omega]; simpa using h2
 | some j :: l, id, k, i, h => by
   simp only [pos] at h
   split at h
   · rename_i hj
     injection h with h
     have := of_decide_eq_true hj
     subst h; subst this
     exact ⟨Nat.le_refl _, by simp⟩
   · obtain ⟨h1, h2⟩ := pos_some (sel := l) h
     refine ⟨by omega, ?_⟩
     rw [show i - k = (i - (k + 1)) + 1 by omega]; simpa using h2
def seeHd (g : Ghost) (id : Nat) (v : Nat) : Option AObj → Option Value
 | some (.row _ ver _) => g.hd id (ver + v)
 | some (.app _ ver _) => preHd g id (ver + v)
 | _ => g.hd id v
def Ghost.see (g : Ghost) (σ : Store) (sel : List (Option Nat)) (B : Nat → Nat) (F : Nat → Prop) (w0 : W0) : Ghost :=
 ⟨g.C, B, fun i v => match sel[i]? with
   | some (some id) => seeHd g id v σ[id]?
   | _ => none, F, w0⟩
section
variable {sel : List (Option Nat)} {B : Nat → Nat} {F : Nat → Prop} {w0 : W0}
def BlkOk (g : Ghost) (σ : Store) (sel : List (Option Nat)) (B : Nat → Nat) : Prop := ∀ i id, sel[i]? = some (some id) → isRow σ[id]? = false → B i = g.blk id
theorem posV_some {id i : Nat} (h : posV σ sel id = some i) : isRow σ[id]? = false ∧ sel[i]? = some (some id) := by
 simp only [posV] at h
 split at h
 · cases h
 · rename_i hr
   obtain ⟨_, h2⟩ := pos_some h
   exact ⟨hr, by simpa using h2⟩
theorem see_hd {i id ver v sz : Nat} {es : List (List AV)} (h : sel[i]? = some (some id)) (ho : σ[id]? = some (.row sz ver es)) : (g.see σ sel B F w0).hd i v = g.hd id (ver + v) := by simp only [Ghost.see, h, ho, seeHd]
theorem see_hdA {i id ver v sz : Nat} {es : List (List AV)} (h : sel[i]? = some (some id)) (ho : σ[id]? = some (.app sz ver es)) : (g.see σ sel B F w0).hd i v = preHd g id (ver + v) := by simp only [Ghost.see, h, ho, seeHd]
theorem see_foreign {i id ver sz : Nat} {es : List (List AV)} (h : sel[i]? = some (some id)) (ho : σ[id]? = some (.app sz ver es)) : foreign (g.see σ sel B F w0) i 1 = foreign g id ver := by
 simp only [foreign, see_hdA h ho, Nat.add_zero]
 cases ver <;> rfl
mutual
theorem un_rep {n : Nat} (hB : BlkOk g σ sel B) : ∀ (x : AV) (v : Value), Rep g x n v → Rep (g.see σ sel B F w0) (x.un σ sel) sel.length v
  | .bool _, _, hr => hr
  | .int _ _, _, hr => hr
  | .str _, _, hr => hr
  | .agg cs, _, ⟨vs, e, hr⟩ => ⟨vs, e, uns_rep hB cs vs hr⟩
  | .tuple cs, _, ⟨vs, e, hr⟩ => ⟨vs, e, uns_rep hB cs vs hr⟩
  | .sl f sz es, v, hr => Rep.data (g := g) (g' := g.see σ sel B F w0) (fun _ _ _ h => h) (.sl f sz es) sel.length v hr
  | .top, _, _ => trivial
  | .ptr id off, v, ⟨_, e⟩ => by
    simp only [AV.un]
    split
    · rename_i i hi
      obtain ⟨h1, h2⟩ := posV_some hi
      exact ⟨(List.getElem?_eq_some_iff.1 h2).1, by rw [show (g.see σ sel B F w0).blk i = g.blk id from hB i id h2 h1]; exact e⟩
    · trivial
  | .cref cs, v, hr => Rep.data (g := g) (g' := g.see σ sel B F w0) (fun _ _ _ h => h) (.cref cs) sel.length v hr
  | .rs id ver, v, ⟨_, e, e1⟩ => by
    simp only [AV.un]
    split
    · rename_i i hi
      obtain ⟨_, h2⟩ := pos_some hi
      rw [Nat.sub_zero] at h2
      cases ho : σ[id]? with
      | none => trivial
      | some o =>
        cases o with
        | row sz ver' es =>
          simp only [unRow]
          split
          · rename_i hv
            have := of_decide_eq_true hv
            subst this
            exact ⟨(List.getElem?_eq_some_iff.1 h2).1, by rw [see_hd h2 ho]; exact e, e1⟩
          · trivial
        | app sz ver' es =>
          simp only [unRow]
          split
          · rename_i hv
            have := of_decide_eq_true hv
            subst this
            exact ⟨(List.getElem?_eq_some_iff.1 h2).1, by rw [see_hdA h2 ho]; exact e, e1⟩
          · trivial
        | _ => trivial
    · trivial
  | .rptr _ _ _ _ _, _, _ => trivial
  | .map id, v, ⟨_, e⟩ => by
    simp only [AV.un]
    split
    · rename_i i hi
      obtain ⟨h1, h2⟩ := posV_some hi
      exact ⟨(List.getElem?_eq_some_iff.1 h2).1, by rw [show (g.see σ sel B F w0).blk i = g.blk id from hB i id h2 h1]; exact e⟩
    · trivial
  | .fn _ cap, _, ⟨vs, e, hr⟩ => ⟨vs, e, uns_rep hB cap vs hr⟩
  | .nilfn, _, hr => hr
  | .fnc _, _, hr => hr
  | .nilp, _, hr => hr
  | .nilmap, _, hr => hr
  | .nilif, _, hr => hr
  | .yfn _, _, _ => trivial
theorem uns_rep {n : Nat} (hB : BlkOk g σ sel B) : ∀ (cs : List AV) (vs : List Value), Reps g cs n vs → Reps (g.see σ sel B F w0) (AV.uns σ sel cs) sel.length vs
  | [], _, hr => hr
  | c :: cs, _, ⟨v, vs', e, h1, h2⟩ => ⟨v, vs', e, un_rep hB c v h1, uns_rep hB cs vs' h2⟩
end
def selOk : List (Option Nat) → Bool
 | [] => true
 | none :: l => selOk l
 | some j :: l => !l.contains (some j) && selOk l
theorem selOk_inj : ∀ {sel : List (Option Nat)}, selOk sel = true → ∀ {i j id : Nat}, sel[i]? = some (some id) → sel[j]? = some (some id) → i = j
 | [], _, _, _, _, h, _ => by simp at h
 | none :: l, h, i, j, id, hi, hj => by
   cases i with
   | zero => simp at hi
   | succ i => cases j with
     | zero => simp at hj
     | succ j =>
       have hi : l[i]? = some (some id) := by simpa using hi
       have hj : l[j]? = some (some id) := by simpa using hj
       rw [selOk_inj (sel := l) h hi hj]
 | some k :: l, h, i, j, id, hi, hj => by
   simp only [selOk, Bool.and_eq_true, Bool.not_eq_true', List.contains_eq_mem, decide_eq_false_iff_not] at h
   have key : ∀ {j : Nat}, l[j]? = some (some k) → False := fun hh => h.1 (List.mem_of_getElem? hh)
   cases i with
   | zero => cases j with
     | zero => rfl
     | succ j =>
       simp at hi; subst hi
       exact (key (by simpa using hj)).elim
   | succ i => cases j with
     | zero =>
       simp at hj; subst hj
       exact (key (by simpa using hi)).elim
     | succ j =>
       have hi : l[i]? = some (some id) := by simpa using hi
       have hj : l[j]? = some (some id) := by simpa using hj
       rw [selOk_inj (sel := l) h.2 hi hj]
theorem unS_get {i : Nat} {o : AObj} (h : (unS σ sel)[i]? = some o) : o = .dead ∨ ∃ id o', sel[i]? = some (some id) ∧ σ[id]? = some o' ∧ o = o'.un σ sel := by
 simp only [unS, List.getElem?_map, Option.map_eq_some_iff] at h
 obtain ⟨x, hx, rfl⟩ := h
 cases x with
 | none => exact .inl rfl
 | some id =>
   cases ho : σ[id]? with
   | none => exact .inl (by simp only [unO, ho])
   | some o' => exact .inr ⟨id, o', hx, ho, by simp only [unO, ho]⟩
theorem unS_length : (unS σ sel).length = sel.length := by simp [unS]
theorem see_owned (hB : BlkOk g σ sel B) {i id : Nat} {o : AObj} {b : Nat} (hs : sel[i]? = some (some id)) (ho : σ[id]? = some o) (h : owned (g.see σ sel B F w0) i (o.un σ sel) = some b) : owned g id o = some b := by
 cases o with
 | var cs => show some (g.blk id) = some b; rw [← hB i id hs (by rw [ho]; rfl)]; exact h
 | row sz ver es =>
   simp only [AObj.un, owned, rowBlock] at h ⊢
   rw [see_hd hs ho] at h
   exact h
 | app sz ver es =>
   simp only [AObj.un, owned, see_foreign hs ho] at h ⊢
   simp only [rowBlock, see_hdA hs ho] at h
   exact h
 | frz _ _ _ => simp [AObj.un, owned] at h
 | map kk m => show some (g.blk id) = some b; rw [← hB i id hs (by rw [ho]; rfl)]; exact h
 | dead => simp [AObj.un, owned] at h
 | guest _ => simp [AObj.un, owned] at h
theorem MapOk.data {g' : Ghost} (hC : ∀ b o v, g.C b o = some v → g'.C b o = some v) {kk : TK} : ∀ {es : List MapEntry} {f : MKey → Option AV}, MapOk g kk f es → MapOk g' kk f es
 | [], _, hm => hm
 | _ :: _, _, ⟨key, hk, ⟨v, hv, hr⟩, m', hm, he⟩ => ⟨key, hk, ⟨v, hv, Rep.data hC v 0 _ hr⟩, m', MapOk.data hC hm, he⟩
theorem AppOk.data {g' : Ghost} (hC : ∀ b o v, g.C b o = some v → g'.C b o = some v) {sz : Nat} {es : List (List AV)} {a : Option Addr} {cap : Nat} {f : Bool} (h : AppOk g w sz es a cap f) : AppOk g' w sz es a cap f := by
 cases f with
 | true => exact ⟨h.1, h.2.imp id fun ⟨b, o, ha, hr⟩ => ⟨b, o, ha, RepE.data hC es sz b o hr⟩⟩
 | false =>
   rcases h with h | ⟨hc, hl, b, vs, t, ha, hh, hsz, hr⟩
   · exact .inl h
   · exact .inr ⟨hc, hl, b, vs, t, ha, hh, hsz, Reps.data hC _ 0 _ hr⟩
theorem see_inv (hI : Inv g σ w) (hB : BlkOk g σ sel B) (hs : selOk sel = true)
   (hsep : ∀ (i id : Nat) (o : AObj) (b : Nat), sel[i]? = some (some id) → σ[id]? = some o → owned g id o = some b → ¬ F b) (hbelow : ∀ k, F k → w.heap[k]? = w0.w.heap[k]?) (hstr : Below 0 w0.w w) (hbase : ∀ k, F k → k < w.heap.size)
   (hlow : ∀ b o v, g.C b o = some v → F b → w0.C b o = some v) : Inv (g.see σ sel B F w0) (unS σ sel) w := by
 refine ⟨hI.comm, fun i o ho => ?_, fun i o b ho hb => ?_, fun i j o o' b ho ho' hb hb' => ?_, hbelow, hstr, hbase, hlow, fun i T hg => ?_⟩
 · rw [unS_length]
   rcases unS_get ho with rfl | ⟨id, o', h1, h2, rfl⟩
   · trivial
   · have hobj := hI.objs id o' h2
     cases o' with
     | var cs =>
       obtain ⟨vs, t, h3, h4⟩ := hobj
       exact ⟨vs, t, by rw [show (g.see σ sel B F w0).blk i = g.blk id from hB i id h1 (by rw [h2]; rfl)]; exact h3, uns_rep hB cs _ h4⟩
     | row sz ver es =>
       obtain ⟨⟨a, cap, h3, h4⟩, h5, h6⟩ := hobj
       refine ⟨⟨a, cap, by rw [see_hd h1 h2]; exact h3, ?_⟩, h5, fun k hk => by rw [see_hd h1 h2]; exact h6 _ (by omega)⟩
       rcases h4 with h4 | ⟨hc, hl, b, vs, t, ha, hh, hsz, hr⟩
       · exact .inl h4
       · exact .inr ⟨hc, hl, b, vs, t, ha, hh, hsz, Reps.data (g := g) (g' := g.see σ sel B F w0) (fun _ _ _ h => h) _ 0 _ hr⟩
     | app sz ver es =>
       obtain ⟨⟨a, cap, h3, h4⟩, h5, h6⟩ := hobj
       refine ⟨⟨a, cap, by rw [see_hdA h1 h2]; exact h3, ?_⟩, h5, fun k hk => by
         rw [see_hdA h1 h2, show ver + k = (ver + k - 1) + 1 by omega]; exact h6 _ (by omega)⟩
       rw [see_foreign h1 h2]
       exact AppOk.data (g := g) (g' := g.see σ sel B F w0) (fun _ _ _ h => h) h4
     | map kk m =>
       obtain ⟨ents, clock, h3, h4⟩ := hobj
       exact ⟨ents, clock, by rw [show (g.see σ sel B F w0).blk i = g.blk id from hB i id h1 (by rw [h2]; rfl)]; exact h3, MapOk.data (g := g) (g' := g.see σ sel B F w0) (fun _ _ _ h => h) h4⟩
     | frz _ _ _ => trivial
     | dead => trivial
     | guest _ => trivial
 · rcases unS_get ho with rfl | ⟨id, o', h1, h2, rfl⟩
   · simp [owned] at hb
   · have h3 := see_owned hB h1 h2 hb
     obtain ⟨h4, h5, h6⟩ := hI.sep id o' b h2 h3
     exact ⟨hsep i id o' b h1 h2 h3, h5, h6⟩
 · rcases unS_get ho with rfl | ⟨id, p, h1, h2, rfl⟩
   · simp [owned] at hb
   · rcases unS_get ho' with rfl | ⟨id', p', h1', h2', rfl⟩
     · simp [owned] at hb'
     · have := hI.inj id id' p p' b h2 h2' (see_owned hB h1 h2 hb) (see_owned hB h1' h2' hb')
       subst this
       exact selOk_inj hs h1 h1'
 · rcases unS_get hg with h | ⟨id, p, h1, h2, h⟩
   · cases h
   · cases p <;> cases h
end
end Go.Abs
namespace Go.Abs
open Go.RowKit
variable {P : Program} {E : Env} {g : Ghost} {σ : Store} {w : World}
def lowV : Option AObj → Nat
 | some (.row _ ver _) => ver
 | some (.app _ ver _) => ver - 1
 | _ => 0
def rowV : Option AObj → Nat
 | some (.row _ ver _) => ver + 1
 | some (.app _ ver _) => ver + 1
 | _ => 0
def selId : Option (Option Nat) → Nat
 | some (some id) => id
 | _ => 0
def bkI (σ : Store) (sel : List (Option Nat)) (i : Nat) : Nat := match decide (i < sel.length) with
 | true => selId sel[i]?
 | false => σ.length + (i - sel.length)
def bkV (n0 : Nat) (σ : Store) (sel : List (Option Nat)) (i : Nat) : Nat := match decide (i < sel.length) with
 | true => match decide (i < n0) with
   | true => lowV σ[selId sel[i]?]?
   | false => rowV σ[selId sel[i]?]?
 | false => 0
mutual
def AV.bk (n0 : Nat) (σ : Store) (sel : List (Option Nat)) : AV → AV
  | .ptr id off => .ptr (bkI σ sel id) off
  | .rs id ver => .rs (bkI σ sel id) (bkV n0 σ sel id + ver)
  | .rptr id ver sz i off => .rptr (bkI σ sel id) (bkV n0 σ sel id + ver) sz i off
  | .map id => .map (bkI σ sel id)
  | .agg cs => .agg (AV.bks n0 σ sel cs)
  | .tuple cs => .tuple (AV.bks n0 σ sel cs)
  | .fn f cap => .fn f (AV.bks n0 σ sel cap)
  | .yfn _ => .top
  | .bool b => .bool b
  | .int k n => .int k n
  | .str s => .str s
  | .sl f sz es => .sl f sz es
  | .top => .top
  | .cref cs => .cref cs
  | .nilfn => .nilfn
  | .fnc f => .fnc f
  | .nilp => .nilp
  | .nilmap => .nilmap
  | .nilif => .nilif
def AV.bks (n0 : Nat) (σ : Store) (sel : List (Option Nat)) : List AV → List AV
  | [] => []
  | c :: cs => AV.bk n0 σ sel c :: AV.bks n0 σ sel cs
end
def AObj.bk (n0 : Nat) (σ : Store) (sel : List (Option Nat)) (i : Nat) : AObj → AObj
 | .var cs => .var (AV.bks n0 σ sel cs)
 | .row sz ver es => .row sz (bkV n0 σ sel i + ver) es
 | .frz sz ver es => .frz sz (bkV n0 σ sel i + ver) es
 | .app sz ver es => .app sz (bkV n0 σ sel i + ver) es
 | .map kk m => .map kk m
 | .dead => .dead
 | .guest _ => .dead
def bkP (σ : Store) (sel : List (Option Nat)) (j : Nat) : Option Nat := match decide (j < σ.length) with
 | true => pos sel j 0
 | false => some (sel.length + (j - σ.length))
def backO (n0 : Nat) (σ : Store) (sel : List (Option Nat)) (σ1 : Store) (j : Nat) : AObj := match bkP σ sel j with
 | some i => (σ1.getD i .dead).bk n0 σ sel i
 | none => σ.getD j .dead
def back (n0 : Nat) (σ : Store) (sel : List (Option Nat)) (σ1 : Store) : Store := (List.range (σ.length + (σ1.length - sel.length))).map (backO n0 σ sel σ1)
def lowOk : Option AObj → Bool
 | some (.app _ ver _) => decide (0 < ver)
 | _ => true
def appPos : AObj → Bool
 | .app _ ver _ => decide (0 < ver)
 | _ => true
def selIn (σ : Store) (n0 : Nat) : Nat → List (Option Nat) → Bool
 | _, [] => true
 | _, none :: _ => false
 | i, some id :: l => decide (id < σ.length) && (match decide (n0 ≤ i) with
   | true => isRow σ[id]?
   | false => lowOk σ[id]?) && selIn σ n0 (i + 1) l
theorem selIn_get {n0 : Nat} : ∀ {sel : List (Option Nat)} {k : Nat}, selIn σ n0 k sel = true → ∀ {i : Nat}, i < sel.length → ∃ id, sel[i]? = some (some id) ∧ id < σ.length ∧ (n0 ≤ k + i → isRow σ[id]? = true) ∧ (k + i < n0 → lowOk σ[id]? = true)
 | [], _, _, i, hi => by simp at hi
 | none :: _, _, h, _, _ => by cases h
 | some id :: l, k, h, i, hi => by
   simp only [selIn, Bool.and_eq_true, decide_eq_true_eq] at h
   cases i with
   | zero =>
     refine ⟨id, rfl, h.1.1, fun hk => ?_, fun hk => ?_⟩
     · have := h.1.2
       rw [show decide (n0 ≤ k) = true from decide_eq_true hk] at this
       exact this
     · have := h.1.2
       rw [show decide (n0 ≤ k) = false from decide_eq_false (by omega)] at this
       exact this
   | succ i =>
     obtain ⟨id', h1, h2, h3, h4⟩ := selIn_get h.2 (i := i) (by simpa using hi)
     exact ⟨id', by simpa using h1, h2, fun hk => h3 (by omega), fun hk => h4 (by omega)⟩
def farB (g : Ghost) (σ : Store) (sel : List (Option Nat)) (w : World) (b : Nat) : Prop := b < w.heap.size ∧ ∀ (i id : Nat) (o : AObj), sel[i]? = some (some id) → σ[id]? = some o → owned g id o ≠ some b
def Ghost.lend (g : Ghost) (σ : Store) (sel : List (Option Nat)) (w : World) : Ghost := g.see σ sel (fun i => g.blk (selId sel[i]?)) (farB g σ sel w) ⟨w, g.C, g.w0.G⟩
theorem lend_inv {sel : List (Option Nat)} (hI : Inv g σ w) (hs : selOk sel = true) : Inv (g.lend σ sel w) (unS σ sel) w :=
 see_inv hI (fun i id h _ => by rw [h]; rfl) hs (fun i id o b h1 h2 h3 hf => hf.2 i id o h1 h2 h3) (fun _ _ => rfl) (Below.refl _ _) (fun _ h => h.1) (fun _ _ _ h _ => h)
section
variable {sel : List (Option Nat)} {n0 : Nat} {g1 : Ghost} {σ1 : Store} {w1 : World}
def Ghost.bk (n0 : Nat) (g g1 : Ghost) (σ : Store) (sel : List (Option Nat)) : Ghost :=
 ⟨g1.C, fun j => match bkP σ sel j with
   | some i => g1.blk i
   | none => g.blk j, fun j v => match bkP σ sel j with
   | some i => if v < bkV n0 σ sel i then g.hd j v else g1.hd i (v - bkV n0 σ sel i)
   | none => g.hd j v, g.fixed, g.w0⟩
theorem bkP_bkI (hs : selOk sel = true) (hin : selIn σ n0 0 sel = true) (i : Nat) : bkP σ sel (bkI σ sel i) = some i := by
 simp only [bkI]
 split
 · rename_i h
   have hi := of_decide_eq_true h
   obtain ⟨id, h1, h2, _⟩ := selIn_get hin hi
   simp only [h1, selId, bkP, h2, decide_true]
   have key : ∀ (l : List (Option Nat)) (i k : Nat), l[i]? = some (some id) → ∃ j, pos l id k = some j := by
     intro l
     induction l with
     | nil => intro i k h; simp at h
     | cons a l ih =>
       intro i k h
       cases a with
       | none =>
         cases i with
         | zero => simp at h
         | succ i => exact ih i (k + 1) (by simpa using h)
       | some a =>
         simp only [pos]
         split
         · exact ⟨_, rfl⟩
         · rename_i hne
           cases i with
           | zero => simp at h; subst h; simp at hne
           | succ i => exact ih i (k + 1) (by simpa using h)
   obtain ⟨j, hj⟩ := key sel i 0 h1
   obtain ⟨_, hj2⟩ := pos_some hj
   rw [Nat.sub_zero] at hj2
   rw [hj, selOk_inj hs hj2 h1]
 · rename_i h
   have hi := of_decide_eq_false h
   simp only [bkP]
   rw [show decide (σ.length + (i - sel.length) < σ.length) = false from decide_eq_false (by omega)]
   show some _ = some _
   congr 1; omega
theorem bkP_some {j i : Nat} (h : bkP σ sel j = some i) : bkI σ sel i = j := by
 simp only [bkP] at h
 split at h
 · obtain ⟨_, h2⟩ := pos_some h
   rw [Nat.sub_zero] at h2
   have hi : i < sel.length := (List.getElem?_eq_some_iff.1 h2).1
   simp only [bkI, hi, decide_true, h2, selId]
 · rename_i hj
   have hj := of_decide_eq_false hj
   injection h with h
   subst h
   simp only [bkI]
   rw [show decide (sel.length + (j - σ.length) < sel.length) = false from decide_eq_false (by omega)]
   show σ.length + _ = j
   omega
theorem bkI_lt (hin : selIn σ n0 0 sel = true) (hl : sel.length ≤ σ1.length) {i : Nat} (hi : i < σ1.length) : bkI σ sel i < (back n0 σ sel σ1).length := by
 simp only [back, List.length_map, List.length_range, bkI]
 split
 · rename_i h
   obtain ⟨id, h1, h2, _⟩ := selIn_get hin (of_decide_eq_true h)
   simp only [h1, selId]; omega
 · rename_i h
   have := of_decide_eq_false h
   omega
theorem bk_blk (hs : selOk sel = true) (hin : selIn σ n0 0 sel = true) (i : Nat) : (g.bk n0 g1 σ sel).blk (bkI σ sel i) = g1.blk i := by
 simp only [Ghost.bk, bkP_bkI hs hin]
theorem bk_hd (hs : selOk sel = true) (hin : selIn σ n0 0 sel = true) (i v : Nat) : (g.bk n0 g1 σ sel).hd (bkI σ sel i) (bkV n0 σ sel i + v) = g1.hd i v := by
 simp only [Ghost.bk, bkP_bkI hs hin]
 rw [if_neg (by omega)]
 congr 1; omega
mutual
theorem bk_rep (hs : selOk sel = true) (hin : selIn σ n0 0 sel = true) (hl : sel.length ≤ σ1.length) : ∀ (x : AV) (v : Value), Rep g1 x σ1.length v → Rep (g.bk n0 g1 σ sel) (x.bk n0 σ sel) (back n0 σ sel σ1).length v
  | .bool _, _, hr => hr
  | .int _ _, _, hr => hr
  | .str _, _, hr => hr
  | .agg cs, _, ⟨vs, e, hr⟩ => ⟨vs, e, bks_rep hs hin hl cs vs hr⟩
  | .tuple cs, _, ⟨vs, e, hr⟩ => ⟨vs, e, bks_rep hs hin hl cs vs hr⟩
  | .sl f sz es, v, hr => Rep.data (g := g1) (g' := g.bk n0 g1 σ sel) (fun _ _ _ h => h) (.sl f sz es) _ v hr
  | .top, _, _ => trivial
  | .ptr id off, v, ⟨h1, e⟩ => ⟨bkI_lt hin hl h1, by rw [bk_blk hs hin]; exact e⟩
  | .cref cs, v, hr => Rep.data (g := g1) (g' := g.bk n0 g1 σ sel) (fun _ _ _ h => h) (.cref cs) _ v hr
  | .rs id ver, v, ⟨h1, e, e1⟩ => ⟨bkI_lt hin hl h1, by rw [bk_hd hs hin]; exact e, e1⟩
  | .rptr id ver sz i off, v, ⟨h1, b, o, len, c, e, e'⟩ => ⟨bkI_lt hin hl h1, b, o, len, c, by rw [bk_hd hs hin]; exact e, e'⟩
  | .map id, v, ⟨h1, e⟩ => ⟨bkI_lt hin hl h1, by rw [bk_blk hs hin]; exact e⟩
  | .fn _ cap, _, ⟨vs, e, hr⟩ => ⟨vs, e, bks_rep hs hin hl cap vs hr⟩
  | .nilfn, _, hr => hr
  | .fnc _, _, hr => hr
  | .nilp, _, hr => hr
  | .nilmap, _, hr => hr
  | .nilif, _, hr => hr
  | .yfn _, _, _ => trivial
theorem bks_rep (hs : selOk sel = true) (hin : selIn σ n0 0 sel = true) (hl : sel.length ≤ σ1.length) : ∀ (cs : List AV) (vs : List Value), Reps g1 cs σ1.length vs → Reps (g.bk n0 g1 σ sel) (AV.bks n0 σ sel cs) (back n0 σ sel σ1).length vs
  | [], _, hr => hr
  | c :: cs, _, ⟨v, vs', e, h1, h2⟩ => ⟨v, vs', e, bk_rep hs hin hl c v h1, bks_rep hs hin hl cs vs' h2⟩
end
theorem bk_foreign (hs : selOk sel = true) (hin : selIn σ n0 0 sel = true) (i ver : Nat) (hv : 0 < ver) : foreign (g.bk n0 g1 σ sel) (bkI σ sel i) (bkV n0 σ sel i + ver) = foreign g1 i ver := by
 cases ver with
 | zero => omega
 | succ k =>
   have := bk_hd (g := g) (g1 := g1) hs hin i k
   show (match (g.bk n0 g1 σ sel).hd (bkI σ sel i) (bkV n0 σ sel i + k) with | some (.bool false) => true | _ => false) = _
   rw [this]; rfl
theorem bk_owned (hs : selOk sel = true) (hin : selIn σ n0 0 sel = true) {i b : Nat} {o : AObj} (hp : appPos o = true) (h : owned (g.bk n0 g1 σ sel) (bkI σ sel i) (o.bk n0 σ sel i) = some b) : owned g1 i o = some b := by
 cases o with
 | var cs => simpa only [AObj.bk, owned, bk_blk hs hin] using h
 | row sz ver es =>
   simp only [AObj.bk, owned, rowBlock] at h ⊢
   rw [bk_hd hs hin] at h
   exact h
 | app sz ver es =>
   simp only [AObj.bk, owned, bk_foreign hs hin i ver (of_decide_eq_true hp)] at h ⊢
   simp only [rowBlock] at h ⊢
   rw [bk_hd hs hin] at h
   exact h
 | frz _ _ _ => simp [AObj.bk, owned] at h
 | map kk m => simpa only [AObj.bk, owned, bk_blk hs hin] using h
 | dead => simp [AObj.bk, owned] at h
 | guest _ => simp [AObj.bk, owned] at h
theorem back_get {j : Nat} {o : AObj} (h : (back n0 σ sel σ1)[j]? = some o) : (∃ i, j = bkI σ sel i ∧ (o = .dead ∨ ∃ o', σ1[i]? = some o' ∧ o = o'.bk n0 σ sel i)) ∨ (bkP σ sel j = none ∧ σ[j]? = some o) := by
 simp only [back, List.getElem?_map, Option.map_eq_some_iff] at h
 obtain ⟨x, hx, rfl⟩ := h
 have hx' : j < σ.length + (σ1.length - sel.length) ∧ x = j := by
   obtain ⟨h1, h2⟩ := List.getElem?_eq_some_iff.1 hx
   simp at h1 h2
   exact ⟨h1, h2.symm⟩
 obtain ⟨hj, rfl⟩ := hx'
 simp only [backO]
 cases hp : bkP σ sel x with
 | some i =>
   refine .inl ⟨i, (bkP_some hp).symm, ?_⟩
   cases ho : σ1[i]? with
   | none => exact .inl (by simp [List.getD_eq_getElem?_getD, ho, AObj.bk])
   | some o' => exact .inr ⟨o', rfl, by simp [List.getD_eq_getElem?_getD, ho]⟩
 | none =>
   refine .inr ⟨rfl, ?_⟩
   have hlt : x < σ.length := by
     simp only [bkP] at hp
     split at hp
     · rename_i h; exact of_decide_eq_true h
     · cases hp
   simp [List.getD_eq_getElem?_getD, List.getElem?_eq_getElem hlt]
theorem back_call (hI : Inv g σ w) (hs : selOk sel = true) (hin : selIn σ n0 0 sel = true) (he : Ext (g.lend σ sel w) g1 n0) (hI1 : Inv g1 σ1 w1) (hl : sel.length ≤ σ1.length) (hap : σ1.all appPos = true)
   (hb : ∀ id, id < sel.length → g1.blk id = (g.lend σ sel w).blk id) : Moved g (g.bk n0 g1 σ sel) σ (back n0 σ sel σ1) w1 := by
 have hap' : ∀ {i : Nat} {o : AObj}, σ1[i]? = some o → appPos o = true := fun {i o} h => List.all_eq_true.1 hap o (List.mem_of_getElem? h)
 have hfar : ∀ k, farB g σ sel w k → w1.heap[k]? = w.heap[k]? := fun k hk => (hI1.below k (he.tie.fix k hk)).trans (he.tie.same k hk)
 have hfix : ∀ k, g.fixed k → farB g σ sel w k := fun k hk => ⟨hI.base k hk, fun i id o _ h2 h3 => (hI.sep id o k h2 h3).1 hk⟩
 have hlowC : ∀ b o v, g1.C b o = some v → farB g σ sel w b → g.C b o = some v := fun b o v hv hf => he.tie.low b o v (hI1.low b o v hv (he.tie.fix b hf)) hf
 have hbel : Below 0 w w1 := he.tie.str.trans hI1.str
 have hother : ∀ {j : Nat} {o : AObj} {b : Nat}, bkP σ sel j = none → σ[j]? = some o → owned g j o = some b → farB g σ sel w b := fun {j o b} hp ho hown => by
   refine ⟨(hI.sep j o b ho hown).2.1, fun i id o' h1 h2 h3 => ?_⟩
   have := hI.inj j id o o' b ho h2 hown h3
   subst this
   have h4 := bkP_bkI hs hin i
   have hi : i < sel.length := (List.getElem?_eq_some_iff.1 h1).1
   rw [show bkI σ sel i = j by simp only [bkI, hi, decide_true, h1, selId]] at h4
   rw [hp] at h4; cases h4
 have hext : Ext g (g.bk n0 g1 σ sel) σ.length := by
   refine ⟨fun b o v hv => he.C b o v hv, fun j hj => ?_, fun j hj v x hx => ?_, Tie.refl _ _⟩
   · simp only [Ghost.bk]
     cases hp : bkP σ sel j with
     | none => rfl
     | some i =>
       have h1 := bkP_some hp
       simp only [bkP, hj, decide_true] at hp
       obtain ⟨_, h2⟩ := pos_some hp
       rw [Nat.sub_zero] at h2
       show g1.blk i = g.blk j
       rw [hb i (List.getElem?_eq_some_iff.1 h2).1]
       show g.blk (selId sel[i]?) = g.blk j
       rw [h2]; rfl
   · simp only [Ghost.bk]
     cases hp : bkP σ sel j with
     | none => exact hx
     | some i =>
       simp only [bkP, hj, decide_true] at hp
       obtain ⟨_, h2⟩ := pos_some hp
       rw [Nat.sub_zero] at h2
       have hi : i < sel.length := (List.getElem?_eq_some_iff.1 h2).1
       obtain ⟨id, h3, _, h5, h5'⟩ := selIn_get hin hi
       rw [h2] at h3
       injection h3 with h3
       injection h3 with h3
       subst h3
       rw [Nat.zero_add] at h5 h5'
       show (if v < bkV n0 σ sel i then g.hd j v else g1.hd i (v - bkV n0 σ sel i)) = some x
       by_cases hi0 : i < n0
       · -- lent: the versions stay
         have hlow := h5' hi0
         have hV : bkV n0 σ sel i = lowV σ[j]? := by simp only [bkV, hi, decide_true, h2, selId, hi0]
         rw [hV]
         by_cases hv : v < lowV σ[j]?
         · rw [if_pos hv]; exact hx
         · rw [if_neg hv]
           refine he.hd i hi0 _ x ?_
           show (g.lend σ sel w).hd i _ = some x
           simp only [Ghost.lend, Ghost.see, h2]
           cases ho : σ[j]? with
           | none => rw [ho] at hv; exact hx
           | some o =>
             rw [ho] at hv hlow
             cases o with
             | row sz ver es =>
               simp only [lowV] at hv ⊢
               simp only [seeHd]
               rw [show ver + (v - ver) = v by omega]; exact hx
             | app sz ver es =>
               have hpos : 0 < ver := of_decide_eq_true hlow
               simp only [lowV] at hv ⊢
               simp only [seeHd]
               rw [show ver + (v - (ver - 1)) = v + 1 by omega]; exact hx
             | _ => exact hx
       · have hrow := h5 (by omega)
         have hV : bkV n0 σ sel i = rowV σ[j]? := by simp only [bkV, hi, decide_true, h2, selId, hi0, decide_false]
         rw [hV]
         cases ho : σ[j]? with
         | none => rw [ho] at hrow; cases hrow
         | some o =>
           cases o with
           | row sz ver es =>
             show (if v < ver + 1 then g.hd j v else g1.hd i (v - (ver + 1))) = some x
             by_cases hv : v < ver + 1
             · rw [if_pos hv]; exact hx
             · exfalso
               obtain ⟨_, _, h6⟩ := hI.objs j _ ho
               rw [h6 v (by omega)] at hx
               cases hx
           | app sz ver es =>
             show (if v < ver + 1 then g.hd j v else g1.hd i (v - (ver + 1))) = some x
             by_cases hv : v < ver + 1
             · rw [if_pos hv]; exact hx
             · exfalso
               obtain ⟨_, _, h6⟩ := hI.objs j _ ho
               rw [h6 v (by omega)] at hx
               cases hx
           | _ => rw [ho] at hrow; cases hrow
 have hlen : σ.length ≤ (back n0 σ sel σ1).length := by simp [back]
 refine ⟨hext, ?_, hlen⟩
 refine ⟨hI1.comm, fun j o ho => ?_, fun j o b ho hb' => ?_, fun j j' o o' b ho ho' hb1 hb2 => ?_, fun k hk => (hfar k (hfix k hk)).trans (hI.below k hk), hI.str.trans hbel, fun k hk => Nat.lt_of_lt_of_le (hI.base k hk) hbel.size, fun b o v hv hf => hI.low b o v (hlowC b o v hv (hfix b hf)) hf, fun j T hj => ?_⟩
 · rcases back_get ho with ⟨i, rfl, rfl | ⟨o', ho', rfl⟩⟩ | ⟨hp, ho'⟩
   · trivial
   · have hobj := hI1.objs i o' ho'
     cases o' with
     | var cs =>
       obtain ⟨vs, t, h3, h4⟩ := hobj
       exact ⟨vs, t, by rw [bk_blk hs hin]; exact h3, bks_rep hs hin hl cs _ h4⟩
     | row sz ver es =>
       obtain ⟨⟨a, cap, h3, h4⟩, h5, h6⟩ := hobj
       refine ⟨⟨a, cap, by rw [bk_hd hs hin]; exact h3, ?_⟩, h5, fun k hk => ?_⟩
       · rcases h4 with h4 | ⟨hc, hll, b, vs, t, ha, hh, hsz, hr⟩
         · exact .inl h4
         · exact .inr ⟨hc, hll, b, vs, t, ha, hh, hsz, Reps.data (g := g1) (g' := g.bk n0 g1 σ sel) (fun _ _ _ h => h) _ 0 _ hr⟩
       · have := bk_hd (g := g) (g1 := g1) hs hin i (k - bkV n0 σ sel i)
         rw [show bkV n0 σ sel i + (k - bkV n0 σ sel i) = k by omega] at this
         rw [this]; exact h6 _ (by omega)
     | app sz ver es =>
       obtain ⟨⟨a, cap, h3, h4⟩, h5, h6⟩ := hobj
       refine ⟨⟨a, cap, by rw [bk_hd hs hin]; exact h3, ?_⟩, h5, fun k hk => ?_⟩
       · rw [bk_foreign hs hin i ver (of_decide_eq_true (hap' ho'))]
         exact AppOk.data (g := g1) (g' := g.bk n0 g1 σ sel) (fun _ _ _ h => h) h4
       · have := bk_hd (g := g) (g1 := g1) hs hin i (k - bkV n0 σ sel i)
         rw [show bkV n0 σ sel i + (k - bkV n0 σ sel i) = k by omega] at this
         rw [this]; exact h6 _ (by omega)
     | frz sz ver es =>
       obtain ⟨v, h1, h2⟩ := hobj
       exact ⟨v, by rw [bk_hd hs hin]; exact h1, Rep.data (g := g1) (g' := g.bk n0 g1 σ sel) (fun _ _ _ h => h) _ 0 _ h2⟩
     | map kk m =>
       obtain ⟨ents, clock, h3, h4⟩ := hobj
       exact ⟨ents, clock, by rw [bk_blk hs hin]; exact h3, MapOk.data (g := g1) (g' := g.bk n0 g1 σ sel) (fun _ _ _ h => h) h4⟩
     | dead => trivial
     | guest _ => trivial
   · have hjl : j < σ.length := (List.getElem?_eq_some_iff.1 ho').1
     refine ObjOk.keep hext.up hjl hlen ?_ (fun b hb' => hfar b (hother hp ho' hb')) (hI.objs j o ho')
     funext v
     simp only [Ghost.bk, hp]
 · rcases back_get ho with ⟨i, rfl, rfl | ⟨o', ho', rfl⟩⟩ | ⟨hp, ho'⟩
   · simp [owned] at hb'
   · obtain ⟨h1, h2, h3⟩ := hI1.sep i o' b ho' (bk_owned hs hin (hap' ho') hb')
     exact ⟨fun hf => h1 (he.tie.fix b (hfix b hf)), h2, h3⟩
   · have hown : owned g j o = some b := by
       rw [← owned_keep hext (List.getElem?_eq_some_iff.1 ho').1 (by funext v; simp only [Ghost.bk, hp])]; exact hb'
     obtain ⟨h1, h2, h3⟩ := hI.sep j o b ho' hown
     refine ⟨h1, Nat.lt_of_lt_of_le h2 hbel.size, fun off => ?_⟩
     cases hc : g1.C b off with
     | none => exact hc
     | some v => have := hlowC b off v hc (hother hp ho' hown); rw [h3 off] at this; cases this
 · have hown : ∀ {j : Nat} {o : AObj}, bkP σ sel j = none → σ[j]? = some o → owned (g.bk n0 g1 σ sel) j o = some b → owned g j o = some b := fun {j o} hp ho' hb' => by
     rw [← owned_keep hext (List.getElem?_eq_some_iff.1 ho').1 (by funext v; simp only [Ghost.bk, hp])]; exact hb'
   rcases back_get ho with ⟨i, rfl, rfl | ⟨p, hp, rfl⟩⟩ | ⟨hn, hp⟩
   · simp [owned] at hb1
   · rcases back_get ho' with ⟨i', rfl, rfl | ⟨p', hp', rfl⟩⟩ | ⟨hn', hp'⟩
     · simp [owned] at hb2
     · rw [hI1.inj i i' p p' b hp hp' (bk_owned hs hin (hap' hp) hb1) (bk_owned hs hin (hap' hp') hb2)]
     · exact absurd (he.tie.fix b (hother hn' hp' (hown hn' hp' hb2))) (hI1.sep i p b hp (bk_owned hs hin (hap' hp) hb1)).1
   · rcases back_get ho' with ⟨i', rfl, rfl | ⟨p', hp', rfl⟩⟩ | ⟨hn', hp'⟩
     · simp [owned] at hb2
     · exact absurd (he.tie.fix b (hother hn hp (hown hn hp hb1))) (hI1.sep i' p' b hp' (bk_owned hs hin (hap' hp') hb2)).1
     · exact hI.inj j j' o o' b hp hp' (hown hn hp hb1) (hown hn' hp' hb2)
 · rcases back_get hj with ⟨i, _, h | ⟨p, _, h⟩⟩ | ⟨hp, ho'⟩
   · cases h
   · cases p <;> cases h
   · obtain ⟨h0, hy, F, hrel, hF, hfF⟩ := hI.guest j T ho'
     have hnF : ∀ b, b < w.heap.size → ¬ F b → farB g σ sel w b := fun b hb1 hb2 => ⟨hb1, fun i id o h1 h2 h3 => hb2 (hF id o b h2 h3)⟩
     refine ⟨h0, hy, fun k => F k ∨ (w.heap.size ≤ k ∧ k < w1.heap.size), ?_, fun id' o' b ho' hb' => ?_, fun k hk => .inl (hfF k hk)⟩
     · refine g.w0.G.step T F g.C g1.C w w1 hrel (fun b o v hv => he.C b o v hv) hI1.comm (fun b o v hv => ?_) (fun k hk hnFk => hfar k (hnF k hk hnFk)) hbel
       by_cases h1 : w.heap.size ≤ b
       · exact .inr (.inr h1)
       · by_cases h2 : F b
         · exact .inr (.inl h2)
         · exact .inl (hlowC b o v hv (hnF b (by omega) h2))
     · rcases back_get ho' with ⟨i, rfl, rfl | ⟨p, hp2, rfl⟩⟩ | ⟨hn, hp2⟩
       · simp [owned] at hb'
       · have h1 := hI1.sep i p b hp2 (bk_owned hs hin (hap' hp2) hb')
         by_cases h2 : w.heap.size ≤ b
         · exact .inr ⟨h2, h1.2.1⟩
         · by_cases h3 : F b
           · exact .inl h3
           · exact absurd (he.tie.fix b (hnF b (by omega) h3)) h1.1
       · have hown : owned g id' o' = some b := by
           rw [← owned_keep hext (List.getElem?_eq_some_iff.1 hp2).1 (by funext v; simp only [Ghost.bk, hn])]; exact hb'
         exact .inl (hF id' o' b hp2 hown)
end
end Go.Abs
namespace Go.Abs
open Go.RowKit
variable {P : Program} {E : Env} {g : Ghost} {σ : Store} {w : World}
def LensOk (P : Program) (f n0 : Nat) (args : List AV) (σ0 : Store) (v : AV) (σ1 : Store) : Prop :=
 ∀ (g : Ghost) (w : World) (vs : List Value), Inv g σ0 w → Reps g args σ0.length vs →
   Calls P f vs.toArray w fun e w' => ∃ val, e = .returned val ∧ ∃ g', Ext g g' n0 ∧ Inv g' σ1 w' ∧ σ0.length ≤ σ1.length ∧ (∀ id, id < σ0.length → g'.blk id = g.blk id) ∧ Rep g' v σ1.length val
mutual
def AV.refs : AV → List Nat
  | .ptr id _ => [id]
  | .rs id _ => [id]
  | .map id => [id]
  | .agg cs => AV.refsL cs
  | .tuple cs => AV.refsL cs
  | .fn _ cap => AV.refsL cap
  | _ => []
def AV.refsL : List AV → List Nat
  | [] => []
  | c :: cs => AV.refs c ++ AV.refsL cs
end
def refsO : Option AObj → List Nat
 | some (.var cs) => AV.refsL cs
 | _ => []
def isVM : Option AObj → Bool
 | some (.var _) => true
 | some (.map _ _) => true
 | _ => false
def reach (σ : Store) : Nat → List Nat → List Nat → List Nat
 | 0, _, acc => acc
 | _ + 1, [], acc => acc
 | n + 1, id :: l, acc => match acc.contains id with
   | true => reach σ n l acc
   | false => reach σ n (refsO σ[id]? ++ l) (acc ++ [id])
inductive PM where
 | keep
 | give
 | app (sz : Nat)
 | lend
def lentIds : List PM → List AV → List Nat
 | .lend :: ms, c :: cs => AV.refs c ++ lentIds ms cs
 | _ :: ms, _ :: cs => lentIds ms cs
 | _, _ => []
def selOf (σ : Store) (ms : List PM) (args : List AV) : List (Option Nat) :=
 let r := reach σ 64 (AV.refsL args) []
 let l := lentIds ms args
 ((r.filter fun id => isVM σ[id]?) ++ ((r.filter fun id => isRow σ[id]? && l.contains id) ++ (r.filter fun id => isRow σ[id]? && !l.contains id))).map some
def lentOk : Option AObj → Bool
 | some (.row _ ver _) => decide (ver = 0)
 | some (.app _ ver _) => decide (ver = 1)
 | _ => true
def endAt (σ : Store) (n0 mk : Nat) (i : Nat) : Option Nat := match decide (i < n0) || (decide (i < mk) && isRow σ[i]?) with
 | true => some i
 | false => none
def endSel (σ : Store) (n0 m mk : Nat) (rs : List AV) : List (Option Nat) :=
 let r := (reach σ 64 ((List.range n0).flatMap (fun id => refsO σ[id]?) ++ AV.refsL rs) (List.range m)).drop m
 (List.range m).map (endAt σ n0 mk) ++ ((r.filter fun id => isRow σ[id]?) ++ (r.filter fun id => isVM σ[id]?)).map some
def midOk (σ : Store) : Option Nat → Bool
 | none => true
 | some id => isRow σ[id]?
def endChk (σ : Store) (n0 m : Nat) : Nat → List (Option Nat) → Bool
 | i, [] => decide (m ≤ i)
 | i, x :: l => (match decide (i < n0) with
   | true => x == some i && lentOk σ[i]?
   | false => match decide (i < m) with
     | true => midOk σ x
     | false => true) && endChk σ n0 m (i + 1) l
theorem endChk_len {n0 m : Nat} : ∀ {l : List (Option Nat)} {k : Nat}, endChk σ n0 m k l = true → m ≤ k + l.length
 | [], _, h => by simpa [endChk] using h
 | x :: l, k, h => by
   simp only [endChk, Bool.and_eq_true] at h
   have := endChk_len h.2
   simp only [List.length_cons]; omega
theorem endChk_low {n0 m : Nat} : ∀ {l : List (Option Nat)} {k i : Nat} {x : Option Nat}, endChk σ n0 m k l = true → l[i]? = some x → k + i < n0 → x = some (k + i) ∧ lentOk σ[k + i]? = true
 | [], _, _, _, _, h, _ => by simp at h
 | y :: l, k, i, x, h, hx, hi => by
   simp only [endChk, Bool.and_eq_true] at h
   cases i with
   | zero =>
     simp at hx; subst hx
     rw [Nat.add_zero] at hi ⊢
     rw [show decide (k < n0) = true from decide_eq_true hi] at h
     simp only [Bool.and_eq_true, beq_iff_eq] at h
     exact h.1
   | succ i =>
     have := endChk_low h.2 (i := i) (by simpa using hx) (by omega)
     rwa [show k + 1 + i = k + (i + 1) by omega] at this
theorem endChk_mid {n0 m : Nat} : ∀ {l : List (Option Nat)} {k i : Nat} {x : Option Nat}, endChk σ n0 m k l = true → l[i]? = some x → n0 ≤ k + i → k + i < m → midOk σ x = true
 | [], _, _, _, _, h, _, _ => by simp at h
 | y :: l, k, i, x, h, hx, hi, hm => by
   simp only [endChk, Bool.and_eq_true] at h
   cases i with
   | zero =>
     simp at hx; subst hx
     rw [Nat.add_zero] at hi hm
     rw [show decide (k < n0) = false from decide_eq_false (by omega), show decide (k < m) = true from decide_eq_true hm] at h
     exact h.1
   | succ i => exact endChk_mid h.2 (i := i) (by simpa using hx) (by omega) (by omega)
def prep1 (σ : Store) : PM → AV → Option (AV × Store)
 | .keep, c => some (c, σ)
 | .lend, c => some (c, σ)
 | .give, c => sealV σ c
 | .app sz, c => toApp σ sz c
def pmOf : List PM → PM
 | [] => .keep
 | m :: _ => m
def prepM : List PM → Store → List AV → Option (List AV × Store)
 | _, σ, [] => some ([], σ)
 | ms, σ, c :: cs => bindO (prep1 σ (pmOf ms) c) fun p => bindO (prepM ms.tail p.2 cs) fun q => some (p.1 :: q.1, q.2)
structure Prep (g g' : Ghost) (σ σ' : Store) (w : World) : Prop where
 ext : Ext g g' σ.length
 inv : Inv g' σ' w
 len : σ.length ≤ σ'.length
 blk : g'.blk = g.blk
theorem Prep.trans {g g' g'' : Ghost} {σ σ' σ'' : Store} (h : Prep g g' σ σ' w) (h' : Prep g' g'' σ' σ'' w) : Prep g g'' σ σ'' w :=
 ⟨h.ext.trans h'.ext h.len, h'.inv, Nat.le_trans h.len h'.len, h'.blk.trans h.blk⟩
theorem prep1_sound (hI : Inv g σ w) {m : PM} {n : Nat} (hn : n ≤ σ.length) {c c' : AV} {σ' : Store} {v : Value} (h : prep1 σ m c = some (c', σ')) (hr : Rep g c n v) : ∃ g', Prep g g' σ σ' w ∧ Rep g' c' σ'.length v := by
 cases m with
 | keep =>
   obtain ⟨h1, h2⟩ := pair_inj h
   subst h1; subst h2
   exact ⟨g, ⟨Ext.refl g _, hI, Nat.le_refl _, rfl⟩, Rep.mono (Ext.refl g _) c n _ v (Nat.le_refl _) hn hr⟩
 | lend =>
   obtain ⟨h1, h2⟩ := pair_inj h
   subst h1; subst h2
   exact ⟨g, ⟨Ext.refl g _, hI, Nat.le_refl _, rfl⟩, Rep.mono (Ext.refl g _) c n _ v (Nat.le_refl _) hn hr⟩
 | give =>
   obtain ⟨g', hf, hr'⟩ := sealV_sound hI hn (v' := c') (σ' := σ') h hr
   exact ⟨g', ⟨hf.ext, hf.inv, Nat.le_of_eq hf.len.symm, hf.blk⟩, Rep.mono (Ext.refl g' 0) c' 0 _ v (Nat.le_refl _) (Nat.zero_le _) hr'⟩
 | app sz =>
   obtain ⟨g', hm, hr', hb⟩ := toApp_sound hI hn (v' := c') (σ' := σ') h hr
   exact ⟨g', ⟨hm.ext, hm.inv, hm.len, hb⟩, hr'⟩
theorem prepM_sound {w : World} {n : Nat} : ∀ {cs cs' : List AV} {ms : List PM} {g : Ghost} {σ σ' : Store} {vs : List Value}, Inv g σ w → n ≤ σ.length → prepM ms σ cs = some (cs', σ') → Reps g cs n vs →
   ∃ g', Prep g g' σ σ' w ∧ Reps g' cs' σ'.length vs
 | [], _, ms, g, σ, _, _, hI, _, h, hr => by
   simp only [prepM] at h
   obtain ⟨h1, h2⟩ := pair_inj h
   subst h1; subst h2
   exact ⟨g, ⟨Ext.refl g _, hI, Nat.le_refl _, rfl⟩, hr⟩
 | c :: cs, _, ms, g, σ, _, _, hI, hn, h, ⟨v, vs', e, h1, h2⟩ => by
   obtain ⟨p, hp, h⟩ := bindO_eq h
   obtain ⟨q, hq, h⟩ := bindO_eq h
   obtain ⟨ha, hb⟩ := pair_inj h
   subst ha; subst hb
   obtain ⟨g1, hf1, hr1⟩ := prep1_sound hI hn (c' := p.1) (σ' := p.2) hp h1
   obtain ⟨g2, hf2, hr2⟩ := prepM_sound (n := n) hf1.inv (Nat.le_trans hn hf1.len) (cs' := q.1) (σ' := q.2) hq (Reps.mono hf1.ext cs n n _ hn (Nat.le_refl _) h2)
   exact ⟨g2, hf1.trans hf2, v, vs', e, Rep.mono hf2.ext _ _ _ _ (Nat.le_refl _) hf2.len hr1, hr2⟩
theorem packed_reps {n : Nat} {cs : List AV} {val : Value} : (∃ us : List Value, Reps g cs n us ∧ (match us with | [u] => val = u | us => val = .tuple us.toArray)) ↔ Rep g (packed cs) n val := by
 constructor
 · rintro ⟨us, hr, hv⟩
   match cs, us, hr with
   | [], [], hr => exact ⟨[], hv, rfl⟩
   | [c], us, ⟨u, us', e, h1, h2⟩ =>
     have h2 : us' = [] := h2
     subst h2; subst e
     simp only at hv
     subst hv
     exact h1
   | c :: c' :: cs, us, ⟨u, us', e, h1, u', us'', e', h2, h3⟩ =>
     subst e'; subst e
     exact ⟨_, hv, u, _, rfl, h1, u', us'', rfl, h2, h3⟩
 · intro h
   match cs, h with
   | [], ⟨us, e, hr⟩ =>
     have hr : us = [] := hr
     subst hr
     exact ⟨[], rfl, e⟩
   | [c], h => exact ⟨[val], ⟨val, [], rfl, h, rfl⟩, rfl⟩
   | c :: c' :: cs, ⟨us, e, hr⟩ =>
     refine ⟨us, hr, ?_⟩
     have := Reps.length hr
     match us, this with
     | u :: u' :: us, _ => exact e
theorem prepM_packed {w : World} {ms : List PM} {cs cs' : List AV} {g : Ghost} {σ σ' : Store} {val : Value} (hI : Inv g σ w) (h : prepM ms σ cs = some (cs', σ')) (hr : Rep g (packed cs) σ.length val) :
   ∃ g', Prep g g' σ σ' w ∧ Rep g' (packed cs') σ'.length val := by
 obtain ⟨us, hr, hv⟩ := packed_reps.2 hr
 obtain ⟨g', hf, hr'⟩ := prepM_sound hI (Nat.le_refl _) h hr
 exact ⟨g', hf, packed_reps.1 ⟨us, hr', hv⟩⟩
def finL (n0 m mk : Nat) (ms : List PM) (q : List AV × Store) : Option (AV × Store) :=
 bindO (prepM ms q.2 q.1) fun p => iteO (selOk (endSel p.2 n0 m mk p.1) && endChk p.2 n0 m 0 (endSel p.2 n0 m mk p.1)) (some ((packed p.1).un p.2 (endSel p.2 n0 m mk p.1), unS p.2 (endSel p.2 n0 m mk p.1))) none
noncomputable def aLens (E : Env) (fn : Func) (H : Nat → Hint) (N mk : Nat) (ms : List PM) (args : List AV) (σ0 : Store) : Option (AV × Store) := bindO (aFn E fn H N args σ0) (finL E.n0 σ0.length mk ms)
theorem lens_of (hE : EnvOk E) (hS : SeqEnv E) {chk : Nat → Array Oper → Bool} (hchk : ∀ id ops, chk id ops = true → DrawSound E (E.ali id) ops) {f : Nat} {fn : Func} {c : Code} (hf : E.P.funcs[f]? = some fn) (hb : fn.body = some c) (hd : drawsOk chk c = true)
   {H : Nat → Hint} {N mk : Nat} {ms : List PM} {args : List AV} {σ0 σ1 : Store} {v : AV} (h : aLens E fn H N mk ms args σ0 = some (v, σ1)) (hn0 : E.n0 ≤ σ0.length) : LensOk E.P f E.n0 args σ0 v σ1 := by
 intro g w vs hI hr
 obtain ⟨q, hq, h1⟩ := bindO_eq h
 obtain ⟨p, hp, h2⟩ := bindO_eq h1
 obtain ⟨h3, h4⟩ := iteO_none h2
 obtain ⟨h5, h6⟩ := pair_inj h4
 simp only [Bool.and_eq_true] at h3
 obtain ⟨hs, hc⟩ := h3
 subst h5; subst h6
 refine (fn_calls hE hS hchk hf hb hd (rs := q.1) (σ' := q.2) hq hn0 hI hr).mono ?_
 rintro e w' ⟨val, rfl, g1, he, hI1, hl1, hrep, hbk⟩
 obtain ⟨g2, hfz, hrep2⟩ := prepM_packed hI1 (cs' := p.1) (σ' := p.2) hp hrep
 have he2 : Ext g g2 E.n0 := he.trans (hfz.ext.le (Nat.le_trans hn0 hl1)) (Nat.le_refl _)
 refine ⟨val, rfl, g2.see p.2 (endSel p.2 E.n0 σ0.length mk p.1) (fun i => if i < σ0.length then g.blk i else g2.blk (selId (endSel p.2 E.n0 σ0.length mk p.1)[i]?)) g2.fixed g2.w0, ?_, ?_, ?_, ?_, ?_⟩
 · refine ⟨he2.C, fun id hid => ?_, fun id hid ver x hx => ?_, he2.tie⟩
   · show (if id < σ0.length then _ else _) = _
     rw [if_pos (by omega)]
   · have hx2 := he2.hd id hid ver x hx
     have hlen := endChk_len hc
     rw [Nat.zero_add] at hlen
     have hget : (endSel p.2 E.n0 σ0.length mk p.1)[id]? = some (endSel p.2 E.n0 σ0.length mk p.1)[id] := List.getElem?_eq_getElem (by omega)
     obtain ⟨h7, h8⟩ := endChk_low hc hget (by omega)
     rw [Nat.zero_add] at h7 h8
     rw [h7] at hget
     simp only [Ghost.see, hget]
     cases ho : p.2[id]? with
     | none => exact hx2
     | some o =>
       rw [ho] at h8
       cases o with
       | row sz v es =>
         have := of_decide_eq_true h8
         subst this
         simp only [seeHd, Nat.zero_add]; exact hx2
       | app sz v es =>
         have := of_decide_eq_true h8
         subst this
         simp only [seeHd]
         rw [show 1 + ver = ver + 1 by omega]; exact hx2
       | _ => exact hx2
 · refine see_inv hfz.inv (fun i id h7 h8 => ?_) hs (fun i id o b _ h8 h9 => (hfz.inv.sep id o b h8 h9).1) hfz.inv.below hfz.inv.str hfz.inv.base hfz.inv.low
   by_cases hi : i < σ0.length
   · rw [if_pos hi]
     by_cases hi0 : i < E.n0
     · have := (endChk_low hc h7 (by omega)).1
       rw [Nat.zero_add] at this
       injection this with this
       subst this
       rw [hfz.blk, hbk id hi]
     · have h9 := endChk_mid hc h7 (by omega) (by omega)
       rw [show midOk p.2 (some id) = isRow p.2[id]? from rfl, h8] at h9
       cases h9
   · rw [if_neg hi, h7]; rfl
 · have := endChk_len hc
   rw [unS_length]; omega
 · intro id hid
   show (if id < σ0.length then _ else _) = _
   rw [if_pos hid]
 · rw [unS_length]
   refine un_rep (fun i id h7 h8 => ?_) _ _ hrep2
   by_cases hi : i < σ0.length
   · rw [if_pos hi]
     by_cases hi0 : i < E.n0
     · have := (endChk_low hc h7 (by omega)).1
       rw [Nat.zero_add] at this
       injection this with this
       subst this
       rw [hfz.blk, hbk id hi]
     · have h9 := endChk_mid hc h7 (by omega) (by omega)
       rw [show midOk p.2 (some id) = isRow p.2[id]? from rfl, h8] at h9
       cases h9
   · rw [if_neg hi, h7]; rfl
def lensAt (n0 : Nat) (ms : List PM) (T : List AV → Store → Option (AV × Store)) (args : List AV) (σ : Store) : Option (AV × Store) :=
 iteO (selOk (selOf σ ms args) && selIn σ n0 0 (selOf σ ms args)) (bindO (T (AV.uns σ (selOf σ ms args) args) (unS σ (selOf σ ms args))) fun p => iteO (p.2.all appPos) (some (p.1.bk n0 σ (selOf σ ms args), back n0 σ (selOf σ ms args) p.2)) none) none
def lensRun (n0 : Nat) (ms : List PM) (T : List AV → Store → Option (AV × Store)) (args : List AV) (σ : Store) : Option (AV × Store) :=
 bindO (prepM ms σ args) fun q => lensAt n0 ms T q.1 q.2
theorem lens_callOk {f n0 : Nat} {ms : List PM} {fn : Func} {c : Code} (hf : P.funcs[f]? = some fn) (hb : fn.body = some c) (hn : fn.name ≠ "runtime.NumGoroutine") {T : List AV → Store → Option (AV × Store)} (hT : ∀ a s v s', T a s = some (v, s') → LensOk P f n0 a s v s')
   {args : List AV} {σ' : Store} {v : AV} (h : lensRun n0 ms T args σ = some (v, σ')) : CallOk P f args σ v σ' := by
 intro g0 w vs hI0 hr0
 obtain ⟨q, hq, h⟩ := bindO_eq h
 obtain ⟨g, hpre, hr⟩ := prepM_sound hI0 (Nat.le_refl _) (cs' := q.1) (σ' := q.2) hq hr0
 have hI := hpre.inv
 generalize q.1 = args at h hr
 generalize q.2 = σ2 at h hr hI hpre
 obtain ⟨h3, h4⟩ := iteO_none h
 simp only [Bool.and_eq_true] at h3
 obtain ⟨hs, hin⟩ := h3
 obtain ⟨p, hp, h5⟩ := bindO_eq h4
 obtain ⟨hap, h5⟩ := iteO_none h5
 obtain ⟨h6, h7⟩ := pair_inj h5
 subst h6; subst h7
 have hI0 := lend_inv hI hs
 have hr0 : Reps (g.lend σ2 (selOf σ2 ms args) w) (AV.uns σ2 (selOf σ2 ms args) args) (unS σ2 (selOf σ2 ms args)).length vs := by
   rw [unS_length]
   exact uns_rep (fun i id h _ => by rw [h]; rfl) args vs hr
 refine Yields.of_calls (callFunc_enter hf hb hn _ _) ((hT _ _ p.1 p.2 hp _ w vs hI0 hr0).mono ?_)
 rintro e w' ⟨val, rfl, g', he, hI', hl, hbk, hrep⟩
 rw [unS_length] at hl hbk
 have hm := back_call hI hs hin he hI' hl hap hbk
 exact ⟨val, rfl, _, ⟨hpre.ext.trans hm.ext hpre.len, hm.inv, Nat.le_trans hpre.len hm.len⟩, bk_rep hs hin hl p.1 val hrep⟩
end Go.Abs
