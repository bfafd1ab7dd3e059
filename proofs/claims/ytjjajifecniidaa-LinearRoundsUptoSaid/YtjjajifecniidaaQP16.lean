import Derived.Test.YtjjajifecniidaaQP15
namespace Go.Abs.Try
set_option linter.unusedSimpArgs false
set_option linter.unusedVariables false
set_option maxRecDepth 100000
theorem copied86 (N : Nat) (f : Lin) (hN : N = 4611686018427387904) (hg : Good f) (ha : ∀ m ∈ f.linMonos, atomB m.monoAtom = true) : F86 N f = some f := by
  have hl := hg.1
  have hf : fits f.linMonos.length 72 = true := fits72_ok (by omega)
  simp only [F86, hf, iteO_true, Int.toNat_natCast]
  refine foldN_idx (step := F86_s1 N) (fin := F86_f1 f) (fun s _ _ => s) (fun i l s => s = f.linMonos ∧ i + l.length = f.linMonos.length) (fun r => r = some f) ?_ ?_ (List.range f.linMonos.length) N 0 f.linMonos (by simp; omega) ⟨rfl, by simp⟩
  · intro x xs i s ⟨h1, h2⟩
    subst h1
    simp only [List.length_cons] at h2
    have hi : i < f.linMonos.length := by omega
    have hm := List.getElem_mem hi
    have h3 : atO f.linMonos (i : Int) = some f.linMonos[i] := atO_get (List.getElem?_eq_getElem hi)
    have hs := hg.2 _ hm
    have hc : F24 N f.linMonos[i].monoAtom (⟨#[]⟩ : ByteArray) (⟨0, 0, (⟨#[]⟩ : ByteArray), 0, []⟩ : Node) = some f.linMonos[i].monoAtom := copy24 N _ (by omega) hs (ha _ hm)
    refine ⟨?_, rfl, by omega⟩
    simp only [F86_s1, h3, bindO_some, hc]
    have : (⟨f.linMonos[i].monoCoef, f.linMonos[i].monoAtom⟩ : Mono) = f.linMonos[i] := rfl
    rw [this, List.set_getElem_self]
  · intro i s ⟨h1, _⟩
    subst h1
    rfl
theorem same58 (N : Nat) (c : Con) (hN : N = 4611686018427387904) (hg : Good c.conForm) : F58 N c c = some true := by
  have hl := hg.1
  have h35 : F35 N c.conForm c.conForm = some true := by
    simp only [F35, beq_self_eq_true, iteO_true]
    refine foldN_idx (step := F35_s1 N c.conForm) (fin := F35_f1) (fun s _ _ => s) (fun i l _ => c.conForm.linMonos.drop i = l) (fun r => r = some true) ?_ (fun _ _ _ => rfl) c.conForm.linMonos N 0 () (by omega) rfl
    intro x xs i s h1
    obtain ⟨hx, hxs⟩ := drop_cons h1
    obtain ⟨hi, hx'⟩ := List.getElem?_eq_some_iff.1 hx
    have hm : x ∈ c.conForm.linMonos := hx' ▸ List.getElem_mem hi
    have hs := hg.2 x hm
    refine ⟨?_, hxs⟩
    simp only [F35_s1, atO_get hx, bindO_some, beq_self_eq_true, iteO_true, equal21 N x.monoAtom (by omega) hs]
  simp only [F58, beq_self_eq_true, iteO_true, h35, bindO_some]
theorem light32 (N : Nat) (f : Lin) (hN : N = 4611686018427387904) (hg : Good f) : ∃ b, F32 N [f] = some b := by
  have hl := hg.1
  have h1 : F32_s1 N 0 0 f = bif f.linMonos.all (fun m => !decide ((m.monoAtom.size : Int) > 200)) then F32_f2 0 f () else some (.inr false) := by
    unfold F32_s1
    exact foldN_all (step := F32_s2 N) (fin := F32_f2 0 f) (fun m => !decide ((m.monoAtom.size : Int) > 200)) (.inr false) f.linMonos N 0 (by omega) fun x hx i => by
      have hs := hg.2 x hx
      simp only [F32_s2, size27 N x.monoAtom (by omega) (by omega), bindO_some]
      cases decide ((x.monoAtom.size : Int) > 200) <;> rfl
  obtain ⟨K, hK⟩ : ∃ K, N = K + 2 := ⟨N - 2, by omega⟩
  subst hK
  simp only [F32, foldN, h1]
  cases f.linMonos.all (fun m => !decide ((m.monoAtom.size : Int) > 200)) with
  | true => exact ⟨_, rfl⟩
  | false => exact ⟨_, rfl⟩
theorem round56 (N : Nat) (c : Con) (hN : N = 4611686018427387904) (hg : Good c.conForm) (hv : validC c = true) : F56 N c = some (roundR c, 0) := by
  have h := ok_of c hg hv
  obtain ⟨h1, h2⟩ := round_ok c h hv
  have h3 := ok_of _ h1 h2
  simp only [F56, valid107 N c hN hg, hv, bindO_some, iteO_true, round108 N c hN h, copied86 N (roundR c).conForm hN h1 fun m hm => (h3.2.1 m hm).2.2]
def big : Nat := 4611686018427387904
theorem law10 (c : Con) (hg : Good c.conForm) : F10 big c = some true := by
  have hN : big = 4611686018427387904 := rfl
  have ha : F26 big = some true := awake26 4611686018427387874
  obtain ⟨b, hb⟩ := light32 big c.conForm hN hg
  obtain ⟨k, h59, h60⟩ := contra_same big c hN hg
  simp only [F10, ha, hb, bindO_some, iteO_true]
  cases b with
  | false => rfl
  | true =>
    simp only [iteO_true]
    cases hv : validC c with
    | false =>
      have h56 : F56 big c = some ((⟨(⟨[], 0⟩ : Lin), 0⟩ : Con), 3) := by simp only [F56, valid107 big c hN hg, hv, bindO_some, iteO_false]
      have h57 : F57 big c = some ((⟨(⟨[], 0⟩ : Lin), 0⟩ : Con), 3) := by simp only [F57, valid109 big c hN hg, hv, bindO_some, iteO_false]
      have hs := same58 big (⟨(⟨[], 0⟩ : Lin), 0⟩ : Con) hN ⟨by simp, by simp⟩
      obtain ⟨r8, hr8⟩ : ∃ r, F56 big (⟨(⟨[], 0⟩ : Lin), 0⟩ : Con) = some r := ⟨_, round56 big _ hN ⟨by simp, by simp⟩ rfl⟩
      simp only [h56, h57, bindO_some, beq_self_eq_true, iteO_true, hs, h59, h60, hr8]
      rfl
    | true =>
      have h56 := round56 big c hN hg hv
      have h := ok_of c hg hv
      obtain ⟨g1, v1⟩ := round_ok c h hv
      have h57 : F57 big c = some (roundR c, 0) := by simp only [F57, valid109 big c hN hg, hv, bindO_some, iteO_true, round110 big c hN h]
      have hs := same58 big (roundR c) hN g1
      have h2 := round56 big (roundR c) hN g1 v1
      rw [round_twice c h] at h2
      simp only [h56, h57, bindO_some, beq_self_eq_true, iteO_true, hs, h59, h60, h2]
end Go.Abs.Try
