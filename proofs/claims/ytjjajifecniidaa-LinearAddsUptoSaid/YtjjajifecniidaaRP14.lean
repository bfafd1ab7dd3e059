import Derived.Test.YtjjajifecniidaaMrg
namespace Go.Abs.Try
set_option linter.unusedSimpArgs false
set_option linter.unusedVariables false
set_option maxRecDepth 100000
theorem copied86 (N : Nat) (f : Lin) (hN : N = 4611686018427387904) (hg : Good f) (ha : ∀ m ∈ f.linMonos, atomB m.monoAtom = true) : F86 N f = some f := by
  have hl := hg.1
  have hf : fits f.linMonos.length 72 = true := fits72_le (by omega)
  simp only [F86, hf, iteO_true, Int.toNat_natCast]
  refine foldN_idx (step := F86_s1 N) (fin := F86_f1 f) (fun s _ _ => s) (fun i l s => s = f.linMonos ∧ i + l.length = f.linMonos.length) (fun r => r = some f) ?_ ?_ (List.range f.linMonos.length) N 0 f.linMonos (by simp; omega) ⟨rfl, by simp⟩
  · intro x xs i s ⟨h1, h2⟩
    subst h1
    simp only [List.length_cons] at h2
    have hi : i < f.linMonos.length := by omega
    have hm := List.getElem_mem hi
    have h3 : atO f.linMonos (i : Int) = some f.linMonos[i] := atO_get (List.getElem?_eq_getElem hi)
    have hs := hg.2 _ hm
    have hc : F24 N f.linMonos[i].monoAtom (⟨#[]⟩ : ByteArray) (⟨0, 0, (⟨#[]⟩ : ByteArray), 0, []⟩ : Node) = some f.linMonos[i].monoAtom := copy24 N _ (by omega) hs (ha _ hm)
    refine ⟨?_, rfl, by omega⟩
    simp only [F86_s1, h3, bindO_some, hc]
    have : (⟨f.linMonos[i].monoCoef, f.linMonos[i].monoAtom⟩ : Mono) = f.linMonos[i] := rfl
    rw [this, List.set_getElem_self]
  · intro i s ⟨h1, _⟩
    subst h1
    rfl
end Go.Abs.Try
