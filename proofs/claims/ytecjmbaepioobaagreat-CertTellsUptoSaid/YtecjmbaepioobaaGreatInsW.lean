import Derived.Test.YtecjmbaepioobaaGreatSqPre2
import Derived.Test.YtecjmbaepioobaaGreatIns
import Derived.WalkKit
import Derived.Laws.AppendOwn
import Derived.Lib.Walk
import Derived.Lib.SliceRun
import Derived.Deep.LoopGhost
import Derived.Lib.AppendZerosOnto
import Derived.Lib.JoinLaws
import Derived.Laws.NewBlocks
set_option linter.unusedSimpArgs false
set_option linter.unusedVariables false
namespace Go.Abs
open Go.RowKit Go.Lib
section
variable {P : Program}
theorem run_copy_many (w : World) (dT sT ty elem : TypeId) (i : TypeInfo) (b o dLen dCap : Nat) (a : Addr) (sLen sCap n : Nat) (cs : List Value)
   (hu : P.underlying dT = some (.slice elem)) (hi : P.info? elem = some i) (hn : n = Nat.min sLen dLen) (hl : cs.length = n * i.size)
   (hsrc : ∀ j v, cs[j]? = some v → w.cell? (a.add j) = some v) (hc : ∀ j, j < cs.length → (w.cell? ⟨b, o + j, none⟩).isSome = true) (hf : ∀ j, j < cs.length → w.frozen? ⟨b, o + j, none⟩ = false) (h1 : ∀ v ∈ cs, v.oneCell' = true) :
   (Builtin.copy_ #[dT, sT] ty #[.slice (some ⟨b, o, none⟩) dLen dCap, .slice (some a) sLen sCap]).run P w = .ok (goInt n) (w.setCells b o cs) := by
 have hl' := run_firstCells_some (P := P) w i.size n a sLen sCap cs hl hsrc
 have hst := run_storeCells_cells (P := P) b o cs 0 w (by simpa using hc) (by simpa using hf) h1
 simp [Builtin.copy_, run_underlying hu, Builtin.lenOf, sizeOf, typeInfo, hi, ← hn, hl', hst]
theorem run_overlaps_free (w : World) (tS tR e : TypeId) (ht : P.underlying tS = some (.slice e)) (size : Nat) (hz : ∀ w, (Go.sizeOf e).run P w = .ok size w)
   (a b : Addr) (la ca lb cb : Nat) (hne : a.block ≠ b.block) (u : Value) (x : Nat) (hx : w.cell? ⟨a.block, x, none⟩ = some u) (L : Array Value) (t : TypeId) (hb : w.heap[b.block]? = some (.cells L t (0, 0))) (hL : 0 < L.size) :
   (Extern.SlicesOverlaps.overlaps #[tS, tS] #[tR] #[.slice (some a) la ca, .slice (some b) lb cb]).run P w = .ok (.bool false) w := by
 have hnb : (a.block != b.block) = true := by simpa using hne
 have hnb' : (a.block == b.block) = false := by simpa using hne
 have hsb : w.shape? b.block = some (t, L.size) := by simp [World.shape?, hb]
 have hfb : ∀ o s, w.frozen? ⟨b.block, o, s⟩ = false := fun o s => by simp [World.frozen?, hb]
 have hfb' : w.frozen? b = false := by cases b; exact hfb _ _
 obtain ⟨tA, kA, hsa⟩ : ∃ tA kA, w.shape? a.block = some (tA, kA + 1) := by
   unfold World.cell? at hx
   unfold World.shape?
   cases hh : w.heap[a.block]? with
   | none => simp [hh] at hx
   | some ob =>
     cases ob with
     | cells c el fr =>
       simp [hh] at hx
       have h1 := (Array.getElem?_eq_some_iff.1 hx).1
       exact ⟨el, c.size - 1, by simp only; congr 2; omega⟩
     | _ => simp [hh] at hx
 obtain ⟨m, hm⟩ : ∃ m, L.size = m + 1 := ⟨L.size - 1, by omega⟩
 rw [hm] at hsb
 change Sem.run P (α := Value) (do
   let some t := (#[tS, tS] : Array TypeId)[0]? | stuck "slices.overlaps: no parameter types"
   let .slice elem ← underlying t | stuck "slices.overlaps: slice type expected"
   let size ← sizeOf elem
   match (some a : Option Addr), (some b : Option Addr) with
   | some a, some b =>
     if la = 0 ∨ lb = 0 ∨ size = 0 then pure (Value.bool false)
     else if a.block != b.block && (← frozen a) && (← frozen b) then unsupported .addressObserved
     else do
       if a.block != b.block then do
         noView a; noView b
         if ← mayBeOne a b then return Value.bool ((← choose (.extern "sameAddr.stringBytes" 2)) == 1)
       pure (Value.bool (a.block == b.block && a.off < b.off + lb * size && b.off < a.off + la * size))
   | _, _ => pure (Value.bool false)) w = _
 by_cases h0 : la = 0 ∨ lb = 0 ∨ size = 0
 · simp [run_underlying ht, hz, h0]
 · cases hfa : w.frozen? a <;> cases hfe : w.frozen? { block := a.block, off := kA + 1 } <;>
     simp [run_underlying ht, hz, h0, hnb, hnb', frozen, noView, viewAt, mayBeOne, stringish, shape, Sem.run, hsa, hsb, hfa, hfe, hfb, hfb']
end
section
variable {sz n c b i : Nat} {L : Array Value} {t : TypeId} {vs : List Value} {w : World}
theorem take_len (h : n * sz ≤ L.size) : (L.toList.take (n * sz)).length = n * sz := by rw [List.length_take, Array.length_toList]; omega
theorem insOld_shift (hi : i ≤ n) (hroom : n + 1 ≤ c) (hh : w.heap[b]? = some (.cells L t (0, 0))) (hL : c * sz ≤ L.size) (hvl : vs.length = sz) :
   InsOld sz n c b ((L.toList.take (n * sz)).take (i * sz) ++ vs ++ (L.toList.take (n * sz)).drop (i * sz)) w (.returned (.slice (some ⟨b, 0, none⟩) (n + 1) c)) ((w.drew.setCells b ((i + 1) * sz) ((L.toList.take (n * sz)).drop (i * sz))).setCells b (i * sz) vs) := by
 have h1 : (n + 1) * sz ≤ L.size := Nat.le_trans (Nat.mul_le_mul_right _ hroom) hL
 have h2 : (n + 1) * sz = n * sz + sz := by rw [Nat.add_mul, Nat.one_mul]
 have h3 : (i + 1) * sz = i * sz + sz := by rw [Nat.add_mul, Nat.one_mul]
 have h4 : i * sz ≤ n * sz := Nat.mul_le_mul_right _ hi
 have hlt := take_len (L := L) (n := n) (sz := sz) (by omega)
 obtain ⟨cs, hcs⟩ : ∃ cs, cs = L.toList.take (n * sz) := ⟨_, rfl⟩
 rw [← hcs] at hlt ⊢
 have hdl : (cs.drop (i * sz)).length = n * sz - i * sz := by rw [List.length_drop, hlt]
 have hh1 := setCells_heap b (cs.drop (i * sz)) ((i + 1) * sz) w.drew L t (0, 0) hh (by omega)
 have hh2 := setCells_heap b vs (i * sz) _ _ t (0, 0) hh1 (by simp; omega)
 refine ⟨rfl, _, t, hh2, ?_, ?_, fun k hk => by rw [setCells_other _ _ _ _ _ hk, setCells_other _ _ _ _ _ hk]; rfl, by rw [setCells_size, setCells_size]; rfl,
   ((Below.refl 0 w).drew.trans (setCells_below (Nat.zero_le _) _ _ _)).trans (setCells_below (Nat.zero_le _) _ _ _)⟩
 · simp; omega
 · have hl2 : L.toList.length = L.size := Array.length_toList
   have e1 : L.toList.take ((i + 1) * sz) = L.toList.take (i * sz) ++ (L.toList.drop (i * sz)).take sz := by rw [h3, List.take_add]
   have e2 : cs.take (i * sz) = L.toList.take (i * sz) := by rw [hcs, List.take_take, Nat.min_eq_left h4]
   simp only
   have hA : (L.toList.take ((i + 1) * sz) ++ (cs.drop (i * sz) ++ L.toList.drop ((i + 1) * sz + (cs.drop (i * sz)).length))).take (i * sz) = L.toList.take (i * sz) := by
     rw [List.take_append_of_le_length (by rw [List.length_take]; omega), List.take_take, Nat.min_eq_left (by omega)]
   have hB : (L.toList.take ((i + 1) * sz) ++ (cs.drop (i * sz) ++ L.toList.drop ((i + 1) * sz + (cs.drop (i * sz)).length))).drop (i * sz + vs.length) = cs.drop (i * sz) ++ L.toList.drop ((i + 1) * sz + (cs.drop (i * sz)).length) := by
     rw [List.drop_left']
     rw [List.length_take]; omega
   rw [hA, hB, e2, ← List.append_assoc, ← List.append_assoc, List.take_left']
   rw [List.length_append, List.length_append, List.length_take, hdl, hvl]; omega
theorem insOld_end (hroom : n + 1 ≤ c) (hh : w.heap[b]? = some (.cells L t (0, 0))) (hL : c * sz ≤ L.size) (hvl : vs.length = sz) :
   InsOld sz n c b ((L.toList.take (n * sz)).take (n * sz) ++ vs ++ (L.toList.take (n * sz)).drop (n * sz)) w (.returned (.slice (some ⟨b, 0, none⟩) (n + 1) c)) (w.setCells b (n * sz) vs) := by
 have h1 : (n + 1) * sz ≤ L.size := Nat.le_trans (Nat.mul_le_mul_right _ hroom) hL
 have h2 : (n + 1) * sz = n * sz + sz := by rw [Nat.add_mul, Nat.one_mul]
 have hlt := take_len (L := L) (n := n) (sz := sz) (by omega)
 have hh2 := setCells_heap b vs (n * sz) w L t (0, 0) hh (by omega)
 refine ⟨rfl, _, t, hh2, ?_, ?_, fun k hk => by rw [setCells_other _ _ _ _ _ hk], by rw [setCells_size], setCells_below (Nat.zero_le _) _ _ _⟩
 · simp; omega
 · simp only
   rw [List.take_of_length_le (by omega : (L.toList.take (n * sz)).length ≤ n * sz), List.drop_eq_nil_of_le (by omega : (L.toList.take (n * sz)).length ≤ n * sz), List.append_nil, ← List.append_assoc, List.take_left']
   rw [List.length_append, hlt, hvl]; omega
theorem insNew_end {cs : List Value} {z : Array Value} {G : Nat} {E : TypeId} (hG : n + 1 ≤ G ∧ G ≤ 9223372036854775807) (hz : z.size = sz) (hcl : cs.length = n * sz) (hvl : vs.length = sz) :
   InsNew sz n (cs.take (n * sz) ++ vs ++ cs.drop (n * sz)) w (.returned (.slice (some ⟨w.heap.size, 0, none⟩) (n + 1) G)) (w.drew.alloc (.cells ((cs ++ vs).toArray ++ Builtin.zeroCells z (G - (n + 1))) E)) := by
 have h2 : (n + 1) * sz = n * sz + sz := by rw [Nat.add_mul, Nat.one_mul]
 refine ⟨G, rfl, hG, _, E, heap_new w.drew _, ?_, ?_, ((Below.refl _ w).drew).alloc (Nat.le_refl _) _, by simp⟩
 · simp [hcl, hvl, hz, Builtin.zeroCells]
   have : G * sz = (n + 1) * sz + (G - (n + 1)) * sz := by rw [← Nat.add_mul]; congr 1; omega
   omega
 · rw [List.take_of_length_le (by omega : cs.length ≤ n * sz), List.drop_eq_nil_of_le (by omega), List.append_nil]
   simp only [Array.toList_append]
   rw [List.take_left']
   rw [List.length_append, hcl, hvl]; omega
theorem insNew_grow {cs : List Value} {z : Array Value} {G : Nat} {E : TypeId} (hi : i ≤ n) (hG : n + 1 ≤ G ∧ G ≤ 9223372036854775807) (hz : z.size = sz) (hcl : cs.length = n * sz) (hvl : vs.length = sz) :
   InsNew sz n (cs.take (i * sz) ++ vs ++ cs.drop (i * sz)) w (.returned (.slice (some ⟨w.heap.size, 0, none⟩) (n + 1) G))
     ((((w.alloc (.cells ((cs.take (i * sz)).toArray ++ Builtin.zeroCells z (n + 1 - i) ++ Builtin.zeroCells z (G - (n + 1))) E)).drew.setCells w.heap.size (i * sz) vs).drew).setCells w.heap.size ((i + 1) * sz) (cs.drop (i * sz))) := by
 have h2 : (n + 1) * sz = n * sz + sz := by rw [Nat.add_mul, Nat.one_mul]
 have h3 : (i + 1) * sz = i * sz + sz := by rw [Nat.add_mul, Nat.one_mul]
 have h4 : i * sz ≤ n * sz := Nat.mul_le_mul_right _ hi
 have h5 : (n + 1 - i) * sz + i * sz = (n + 1) * sz := by rw [← Nat.add_mul]; congr 1; omega
 have h6 : G * sz = (n + 1) * sz + (G - (n + 1)) * sz := by rw [← Nat.add_mul]; congr 1; omega
 obtain ⟨R, hR⟩ : ∃ R : Array Value, R = (cs.take (i * sz)).toArray ++ Builtin.zeroCells z (n + 1 - i) ++ Builtin.zeroCells z (G - (n + 1)) := ⟨_, rfl⟩
 rw [← hR]
 have hRs : R.size = G * sz := by rw [hR]; simp [hz, Builtin.zeroCells, hcl, Nat.min_eq_left hi, Nat.min_eq_left h4]; omega
 have hRt : R.toList.take (i * sz) = cs.take (i * sz) := by
   rw [hR]
   simp only [Array.toList_append, List.append_assoc]
   rw [List.take_left']
   rw [List.length_take]; omega
 have hdl : (cs.drop (i * sz)).length = n * sz - i * sz := by rw [List.length_drop, hcl]
 have hh0 : ((w.alloc (.cells R E)).drew).heap[w.heap.size]? = some (.cells R E (0, 0)) := heap_new w _
 have hh1 := setCells_heap w.heap.size vs (i * sz) _ R E (0, 0) hh0 (by omega)
 have hh1' : (((w.alloc (.cells R E)).drew.setCells w.heap.size (i * sz) vs).drew).heap[w.heap.size]? = _ := hh1
 have hh2 := setCells_heap w.heap.size (cs.drop (i * sz)) ((i + 1) * sz) _ _ E (0, 0) hh1' (by simp; omega)
 refine ⟨G, rfl, hG, _, E, hh2, ?_, ?_, ?_, ?_⟩
 · simp; omega
 · simp only
   rw [hRt]
   have hA : (cs.take (i * sz) ++ (vs ++ R.toList.drop (i * sz + vs.length))).take ((i + 1) * sz) = cs.take (i * sz) ++ vs := by
     rw [← List.append_assoc, List.take_left']
     rw [List.length_append, List.length_take]; omega
   rw [hA, ← List.append_assoc, List.take_left']
   rw [List.length_append, List.length_append, List.length_take]; omega
 · refine ((((Below.refl w.heap.size w).alloc (Nat.le_refl _) _).drew).trans (setCells_below (Nat.le_refl _) _ _ _)).trans (((Below.refl w.heap.size _).drew).trans (setCells_below (Nat.le_refl _) _ _ _))
 · rw [setCells_size]
   show w.heap.size < (World.setCells _ _ _ _).heap.size
   rw [setCells_size]
   show w.heap.size < (w.alloc _).heap.size
   simp
end
end Go.Abs
