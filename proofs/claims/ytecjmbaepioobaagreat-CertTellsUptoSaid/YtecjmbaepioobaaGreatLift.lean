import Derived.Test.YtecjmbaepioobaaGreatGen1
import Derived.DataReads
import Derived.ChangeSame
import Derived.Carry
import Derived.OpenShut
import Derived.JoinedCond
set_option linter.unusedSimpArgs false
set_option linter.unusedVariables false
namespace Go.Abs
open Go.RowKit
section
variable {H : Type} {enc : TypeId × Value → H} {P : Program} {W : World}
def callC (W : World) (b o : Nat) : Option Value := W.cell? ⟨b, o, none⟩
def gW (P : Program) (W : World) : Ghost := ghost0 P (callC W) W
structure Bulk (bulk : DataW H → Nat) : Prop where
 str : ∀ s : List UInt8, s.length + 1 ≤ bulk (.lit (.string s))
 lit : ∀ l : Lit, 1 ≤ bulk (.lit l)
 nil : 1 ≤ bulk .nil
 slice : ∀ es sp, (es.map bulk).sum + 1 ≤ bulk (.slice es sp)
 agg : ∀ ps, (ps.map bulk).sum + 1 ≤ bulk (.agg ps)
def RA (enc : TypeId × Value → H) (P : Program) (W : World) (bulk : DataW H → Nat) (n : Nat) (t : Nat) {α : Type} (c : α → List AV) (μ : α → Nat) : Prop :=
 ∀ fuel, fuel ≤ n → ∀ (cs : List Value) (d : DataW H) (ps : List MemPlace), DataW.trod enc P W 0 (fun _ => true) true fuel t cs = some (d, ps) → ∃ x : α, Reps (gW P W) (c x) 0 cs ∧ allLeaf (c x) = true ∧ μ x ≤ bulk d
variable {bulk : DataW H → Nat}
theorem RA.mono {n n' t : Nat} {α : Type} {c : α → List AV} {μ : α → Nat} (h : RA enc P W bulk n t c μ) (hn : n' ≤ n) : RA enc P W bulk n' t c μ := fun fuel hf => h fuel (Nat.le_trans hf hn)
theorem RA.zero {t : Nat} {α : Type} {c : α → List AV} {μ : α → Nat} : RA enc P W bulk 0 t c μ := fun fuel hf cs d ps h => by
 obtain rfl : fuel = 0 := by omega
 simp [DataW.trod] at h
theorem RA.int (hb : Bulk bulk) {n t : Nat} {k : IntKind} (hu : P.underlying t = some (.int k)) : RA enc P W bulk n t (cI k) (fun _ => 1) := by
 intro fuel _ cs d ps h
 obtain ⟨m, rfl, hx, _⟩ := DataW.trod_int hu h
 injection hx with h1 _
 subst h1
 exact ⟨m, ⟨_, [], rfl, rfl, rfl⟩, rfl, hb.lit _⟩
theorem RA.bool (hb : Bulk bulk) {n t : Nat} (hu : P.underlying t = some .bool) : RA enc P W bulk n t cB (fun _ => 1) := by
 intro fuel _ cs d ps h
 obtain ⟨m, rfl, hx⟩ := DataW.trod_bool hu h
 injection hx with h1 _
 subst h1
 exact ⟨m, ⟨_, [], rfl, rfl, rfl⟩, rfl, hb.lit _⟩
theorem RA.string (hb : Bulk bulk) {n t : Nat} (hu : P.underlying t = some .string) : RA enc P W bulk n t cS (fun s => s.size + 1) := by
 intro fuel _ cs d ps h
 obtain ⟨s, rfl, hx, _⟩ := DataW.trod_string hu h
 injection hx with h1 _
 subst h1
 refine ⟨s, ⟨_, [], rfl, rfl, rfl⟩, rfl, ?_⟩
 have := hb.str s.data.toList
 simpa using this
theorem list_of {β γ : Type} {R : Nat → β → γ → Prop} : ∀ {r : List β}, (∀ i b, r[i]? = some b → ∃ x, R i b x) → ∃ xs : List γ, xs.length = r.length ∧ ∀ (i : Nat) (b : β), r[i]? = some b → ∃ x : γ, xs[i]? = some x ∧ R i b x
 | [], _ => ⟨[], rfl, fun i b h => by simp at h⟩
 | b :: r, h => by
   obtain ⟨x, hx⟩ := h 0 b rfl
   obtain ⟨xs, h1, h2⟩ := list_of (R := fun i => R (i + 1)) (r := r) fun i b' hi => h (i + 1) b' (by simpa using hi)
   refine ⟨x :: xs, by simp [h1], fun i b' hi => ?_⟩
   cases i with
   | zero => simp at hi; subst hi; exact ⟨x, rfl, hx⟩
   | succ i => simpa using h2 i b' (by simpa using hi)
theorem repC_of_cells {cs : List AV} {vs : List Value} {b o : Nat} (hr : Reps (gW P W) cs 0 vs) (h : ∀ i v, vs[i]? = some v → W.cell? ⟨b, o + i, none⟩ = some v) : RepC (gW P W) cs b o :=
 RepC.of_reps hr fun j v hj => h j v hj
theorem repE_of {es : List (List AV)} {sz b o : Nat} (h : ∀ i e, es[i]? = some e → RepC (gW P W) e b (o + i * sz) ∧ ElemOk sz e) : RepE (gW P W) es sz b o := by
 induction es generalizing o with
 | nil => trivial
 | cons e es ih =>
   obtain ⟨h1, h2⟩ := h 0 e rfl
   refine ⟨by simpa using h1, h2, ih fun i e' hi => ?_⟩
   have := h (i + 1) e' (by simpa using hi)
   rw [show o + sz + i * sz = o + (i + 1) * sz by rw [Nat.add_mul]; omega]
   exact this
theorem sum_le {α β : Type} {xs : List α} {ds : List β} {μ : α → Nat} {ν : β → Nat} (hl : xs.length = ds.length) (h : ∀ (i : Nat) x d, xs[i]? = some x → ds[i]? = some d → μ x ≤ ν d) : (xs.map μ).sum ≤ (ds.map ν).sum := by
 induction xs generalizing ds with
 | nil => simp
 | cons x xs ih =>
   cases ds with
   | nil => simp at hl
   | cons d ds =>
     have h0 := h 0 x d rfl rfl
     have := ih (ds := ds) (by simpa using hl) fun i x' d' hx hd => h (i + 1) x' d' (by simpa using hx) (by simpa using hd)
     simp only [List.map_cons, List.sum_cons]; omega
theorem RA.slice (hb : Bulk bulk) {n t e sz : Nat} (hu : P.underlying t = some (.slice e)) (hsz : P.cellsOf e = sz) (hpos : 0 < sz) {α : Type} {c : α → List AV} {μ : α → Nat} (he : RA enc P W bulk n e c μ) :
   RA enc P W bulk (n + 1) t (cL sz c) (fun l => (l.map μ).sum + 1) := by
 intro fuel hf cs d ps h
 rcases DataW.trod_slice hu h with ⟨rfl, hx⟩ | ⟨a, len, cap, elems, rest, n', hfu, rfl, hx, _, hlc, _, hx2, hel, _, _⟩
 · injection hx with h1 _
   subst h1
   exact ⟨[], ⟨_, [], rfl, ⟨none, 0, rfl, Nat.le_refl _, by simp, .inl rfl⟩, rfl⟩, rfl, by simpa using hb.nil⟩
 · injection hx with h1 _
   subst h1
   obtain ⟨xs, hx1, hx3⟩ := list_of (r := elems) (R := fun (i : Nat) (y : DataW H × List MemPlace) (x : α) => (∃ vs, W.cells? 0 (a.add (i * P.cellsOf e)) (P.cellsOf e) = some vs ∧ Reps (gW P W) (c x) 0 vs) ∧ allLeaf (c x) = true ∧ μ x ≤ bulk y.1) (fun i y hy => by
     have hil : i < len := by rw [← hx2]; exact (List.getElem?_eq_some_iff.1 hy).1
     have h0 := hel i hil
     rw [hy] at h0
     obtain ⟨vs, hvs, hy⟩ := Option.bind_eq_some_iff.1 h0
     obtain ⟨x, h1, h2, h3⟩ := he n' (by omega) vs y.1 y.2 hy
     exact ⟨x, ⟨vs, hvs, h1⟩, h2, h3⟩)
   rw [hx2] at hx1
   have hget : ∀ i, i < len → ∃ y x, elems[i]? = some y ∧ xs[i]? = some x ∧ (∃ vs, W.cells? 0 (a.add (i * sz)) sz = some vs ∧ Reps (gW P W) (c x) 0 vs) ∧ allLeaf (c x) = true ∧ μ x ≤ bulk y.1 := fun i hi => by
     have hlt : i < elems.length := by omega
     obtain ⟨x, h2, h3⟩ := hx3 i elems[i] (List.getElem?_eq_getElem hlt)
     rw [hsz] at h3
     exact ⟨_, x, List.getElem?_eq_getElem hlt, h2, h3⟩
   refine ⟨xs, ⟨_, [], rfl, ⟨some a, cap, by rw [List.length_map, hx1], by rw [List.length_map, hx1]; exact hlc, by simp, ?_⟩, rfl⟩, rfl, ?_⟩
   · by_cases h0 : xs = []
     · left; simp [h0]
     · right
       have hl0 : 0 < len := by rw [← hx1]; exact List.length_pos_iff.2 h0
       obtain ⟨y, x, _, _, ⟨vs, hvs, _⟩, _⟩ := hget 0 hl0
       have hspot : a.spot = none := by
         have h1 := (World.cells?_some hvs).2.2 0 hpos
         obtain ⟨_, hlen, _⟩ := World.cells?_some hvs
         simp only [Nat.zero_mul, Addr.add, if_true] at h1
         rw [List.getElem?_eq_getElem (by omega)] at h1
         cases hs : a.spot with
         | none => rfl
         | some s =>
           unfold World.cell? at h1
           rw [hs] at h1
           split at h1
           · simp at h1
           · cases h1
       refine ⟨a.block, a.off, by cases a; simp_all, repE_of fun i e' hi => ?_⟩
       rw [List.getElem?_map] at hi
       cases hxi : xs[i]? with
       | none => rw [hxi] at hi; simp at hi
       | some x' =>
         have hil : i < len := by rw [← hx1]; exact (List.getElem?_eq_some_iff.1 hxi).1
         obtain ⟨y, x2, _, h2, ⟨vs, hvs, hr⟩, hlf, _⟩ := hget i hil
         rw [hxi] at h2
         injection h2 with h2
         subst h2
         rw [hxi] at hi
         simp at hi
         subst hi
         obtain ⟨_, hlen, hcell⟩ := World.cells?_some hvs
         refine ⟨repC_of_cells hr fun j v hj => ?_, by rw [← Reps.length hr]; exact hlen, hlf⟩
         have hjl : j < sz := by rw [← hlen]; exact (List.getElem?_eq_some_iff.1 hj).1
         have h3 := hcell j hjl
         rw [hj] at h3
         rw [← h3]
         congr 1
         cases a with
         | mk blk off spot =>
           simp only at hspot
           subst hspot
           simp only [Addr.add]
           split <;> split <;> simp_all <;> omega
   · have hs := sum_le (xs := xs) (ds := elems.map (·.1)) (μ := μ) (ν := bulk) (by simp [hx1, hx2]) (fun i x d hx hd => by
       have hil : i < len := by rw [← hx1]; exact (List.getElem?_eq_some_iff.1 hx).1
       obtain ⟨y, x2, h1, h2, _, _, h3⟩ := hget i hil
       rw [hx] at h2
       injection h2 with h2
       subst h2
       rw [List.getElem?_map, h1] at hd
       simp at hd
       subst hd
       exact h3)
     have := hb.slice (elems.map (·.1)) (rest.map (·.1))
     show (List.map μ xs).sum + 1 ≤ _
     omega
theorem RA.field {n n' t : Nat} {α : Type} {c : α → List AV} {μ : α → Nat} (h : RA enc P W bulk n t c μ) (hn : n' ≤ n) {cs : List Value} {y : DataW H × List MemPlace} (hy : DataW.trod enc P W 0 (fun _ => true) true n' t cs = some y) : ∃ x : α, Reps (gW P W) (c x) 0 cs ∧ allLeaf (c x) = true ∧ μ x ≤ bulk y.1 := h n' hn cs y.1 y.2 hy
end
section
variable {P : Program} {W : World}
theorem gW_inv : Inv (gW P W) [] W := inv0 fun _ _ _ h => h
theorem law_calls {f : Nat} {fn : Func} {c : Code} (hf : P.funcs[f]? = some fn) (hb : fn.body = some c) (hn : fn.name ≠ "runtime.NumGoroutine") {args : List AV} {b : Bool} (h : Pure P f args (.bool b)) {vs : List Value} (hr : Reps (gW P W) args 0 vs) :
   Calls P f vs.toArray W fun e W' => e = .returned (.bool b) ∧ Below W.heap.size W W' := by
 refine ((h [] (gW P W) W vs gW_inv hr).calls (callFunc_enter hf hb hn _ _)).mono ?_
 rintro e W' ⟨val, rfl, g', hm, hv⟩
 have hv : val = .bool b := hv
 subst hv
 refine ⟨rfl, ?_, ?_, ?_, ?_, fun k hk => ?_⟩
 · exact (hm.ext.tie.str.trans hm.inv.str).os
 · exact (hm.ext.tie.str.trans hm.inv.str).tape
 · exact (hm.ext.tie.str.trans hm.inv.str).output
 · exact (hm.ext.tie.str.trans hm.inv.str).size
 · exact (hm.inv.below k (hm.ext.tie.fix k hk)).trans (hm.ext.tie.same k hk)
end
end Go.Abs
