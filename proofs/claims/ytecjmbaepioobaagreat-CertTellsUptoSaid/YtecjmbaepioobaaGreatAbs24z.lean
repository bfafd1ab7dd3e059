import Derived.Test.YtecjmbaepioobaaGreatAbs19ftoAbs24
set_option linter.unusedSimpArgs false
set_option linter.unusedVariables false
namespace Go.Abs
open Go.RowKit
variable {E : Env} {g : Ghost} {σ : Store} {w : World}
def loadAt : Op → Option Nat
 | .load _ (.tmp p) => some p
 | _ => none
def storeAt : Op → Option Nat
 | .store _ (.tmp q) _ => some q
 | _ => none
def notVar : AObj → Bool
 | .var _ => false
 | _ => true
def Grown (σ σ' : Store) : Prop := ∀ id : Nat, objVar σ'[id]? = objVar σ[id]?
theorem Grown.refl (σ : Store) : Grown σ σ := fun _ => rfl
theorem Grown.trans {a b c : Store} (h : Grown a b) (h' : Grown b c) : Grown a c := fun id => (h' id).trans (h id)
theorem Grown.push {σ : Store} {o : AObj} (h : notVar o = true) : Grown σ (σ ++ [o]) := fun id => by
 by_cases hid : id < σ.length
 · rw [List.getElem?_append_left hid]
 · rw [List.getElem?_append_right (by omega), List.getElem?_eq_none (l := σ) (by omega)]
   cases ho : ([o] : Store)[id - σ.length]? with
   | none => rfl
   | some o' =>
     have : o' = o := by
       have := List.mem_of_getElem? ho
       simpa using this
     subst this
     cases o' <;> first | rfl | cases h
theorem Grown.set {σ : Store} {j : Nat} {o o' : AObj} (ho : σ[j]? = some o) (h : notVar o = true) (h' : notVar o' = true) : Grown σ (σ.set j o') := fun id => by
 by_cases hid : id = j
 · subst hid
   rw [List.getElem?_set_self (List.getElem?_eq_some_iff.1 ho).1, ho]
   cases o <;> cases o' <;> first | rfl | (cases h; done) | (cases h'; done)
 · rw [List.getElem?_set_ne (by omega)]
end Go.Abs
