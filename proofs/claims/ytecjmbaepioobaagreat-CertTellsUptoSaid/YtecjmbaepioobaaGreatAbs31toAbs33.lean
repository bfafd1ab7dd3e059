import Derived.Test.YtecjmbaepioobaaGreatAbs2toAbs30
set_option linter.unusedSimpArgs false
set_option linter.unusedVariables false
namespace Go.Abs
open Go.RowKit
variable {P : Program} {E : Env} {g : Ghost} {σ : Store} {w : World}
def pos : List (Option Nat) → Nat → Nat → Option Nat
 | [], _, _ => none
 | none :: l, id, i => pos l id (i + 1)
 | some j :: l, id, i => match decide (j = id) with
   | true => some i
   | false => pos l id (i + 1)
def isRow : Option AObj → Bool
 | some (.row _ _ _) => true
 | some (.app _ _ _) => true
 | _ => false
def seeHd (g : Ghost) (id : Nat) (v : Nat) : Option AObj → Option Value
 | some (.row _ ver _) => g.hd id (ver + v)
 | some (.app _ ver _) => preHd g id (ver + v)
 | _ => g.hd id v
def Ghost.see (g : Ghost) (σ : Store) (sel : List (Option Nat)) (B : Nat → Nat) (F : Nat → Prop) (w0 : W0) : Ghost :=
 ⟨g.C, B, fun i v => match sel[i]? with
   | some (some id) => seeHd g id v σ[id]?
   | _ => none, F, w0⟩
section
variable {sel : List (Option Nat)} {B : Nat → Nat} {F : Nat → Prop} {w0 : W0}
theorem MapOk.data {g' : Ghost} (hC : ∀ b o v, g.C b o = some v → g'.C b o = some v) {kk : TK} : ∀ {es : List MapEntry} {f : MKey → Option AV}, MapOk g kk f es → MapOk g' kk f es
 | [], _, hm => hm
 | _ :: _, _, ⟨key, hk, ⟨v, hv, hr⟩, m', hm, he⟩ => ⟨key, hk, ⟨v, hv, Rep.data hC v 0 _ hr⟩, m', MapOk.data hC hm, he⟩
theorem AppOk.data {g' : Ghost} (hC : ∀ b o v, g.C b o = some v → g'.C b o = some v) {sz : Nat} {es : List (List AV)} {a : Option Addr} {cap : Nat} {f : Bool} (h : AppOk g w sz es a cap f) : AppOk g' w sz es a cap f := by
 cases f with
 | true => exact ⟨h.1, h.2.imp id fun ⟨b, o, ha, hr⟩ => ⟨b, o, ha, RepE.data hC es sz b o hr⟩⟩
 | false =>
   rcases h with h | ⟨hc, hl, b, vs, t, ha, hh, hsz, hr⟩
   · exact .inl h
   · exact .inr ⟨hc, hl, b, vs, t, ha, hh, hsz, Reps.data hC _ 0 _ hr⟩
end
end Go.Abs
namespace Go.Abs
open Go.RowKit
variable {P : Program} {E : Env} {g : Ghost} {σ : Store} {w : World}
def selId : Option (Option Nat) → Nat
 | some (some id) => id
 | _ => 0
def farB (g : Ghost) (σ : Store) (sel : List (Option Nat)) (w : World) (b : Nat) : Prop := b < w.heap.size ∧ ∀ (i id : Nat) (o : AObj), sel[i]? = some (some id) → σ[id]? = some o → owned g id o ≠ some b
def Ghost.lend (g : Ghost) (σ : Store) (sel : List (Option Nat)) (w : World) : Ghost := g.see σ sel (fun i => g.blk (selId sel[i]?)) (farB g σ sel w) ⟨w, g.C, g.w0.G⟩
section
variable {sel : List (Option Nat)} {n0 : Nat} {g1 : Ghost} {σ1 : Store} {w1 : World}
end
end Go.Abs
namespace Go.Abs
open Go.RowKit
variable {P : Program} {E : Env} {g : Ghost} {σ : Store} {w : World}
inductive PM where
 | keep
 | give
 | app (sz : Nat)
 | lend
end Go.Abs
