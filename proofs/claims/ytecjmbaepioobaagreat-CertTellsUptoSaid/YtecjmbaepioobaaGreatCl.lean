import Derived.Test.YtecjmbaepioobaaGreatGen1
import Derived.Laws.AppendOwn
set_option linter.unusedSimpArgs false
set_option linter.unusedVariables false
namespace Go.Abs
open Go.RowKit
def cloneT (sz bytes : Nat) : List AV → Store → Option (AV × Store)
 | [.sl _ s es], σ => iteO ((decide (s = sz) || es.isEmpty) && fits es.length bytes) (some (.rs σ.length 0, σ ++ [.row sz 0 es])) none
 | _, _ => none
theorem clone_ok {P : Program} {f sz bytes : Nat} {e : TypeId} {fn : Func} {c : Code} (hf : P.funcs[f]? = some fn) (hb : fn.body = some c) (hn : fn.name ≠ "runtime.NumGoroutine") (hsz : 0 < sz)
   (hnil : ∀ n c w, Calls P f #[.slice none n c] w fun e w' => e = .returned (.slice none 0 0) ∧ w' = w)
   (hsome : ∀ (ad : Addr) (n c : Nat) (news : List Value) (w : World), news.length = n * sz → n ≤ maxLen → n * bytes ≤ 140737488355328 → (∀ j u, news[j]? = some u → w.cell? (ad.add j) = some u) → (∀ u ∈ news, u.oneCell' = true) →
     Calls P f #[.slice (some ad) n c] w fun x w' => ∃ v', x = .returned v' ∧ w'.ownsRow w.heap.size e sz v' n news ∧ v' ≠ .slice none 0 0 ∧ Below w.heap.size w w')
   (args : List AV) (σ : Store) (v : AV) (σ' : Store) (hr : cloneT sz bytes args σ = some (v, σ')) : CallOk P f args σ v σ' := by
 unfold cloneT at hr
 split at hr
 · rename_i fl s es
   obtain ⟨h1, h2⟩ := iteO_none hr
   obtain ⟨rfl, rfl⟩ := pair_inj h2
   simp only [Bool.and_eq_true, Bool.or_eq_true, decide_eq_true_eq] at h1
   obtain ⟨hs, hfit⟩ := h1
   obtain ⟨hfb, hfn⟩ := fits_eq hfit
   intro g w vs hI hR
   obtain ⟨v0, _, rfl, h0, h3⟩ := hR
   have h3 : _ = [] := h3
   subst h3
   have h0' : Rep g (.sl fl sz es) σ.length v0 := by
     rcases hs with rfl | he
     · exact h0
     · obtain ⟨a, cap, k1, k2, k3, _⟩ := h0
       exact ⟨a, cap, k1, k2, k3, .inl (List.isEmpty_iff.1 he)⟩
   obtain ⟨a, cap, rfl, hl, _, hor⟩ := h0'
   have fin : ∀ (a' : Option Addr) (cap' : Nat) (w' : World), RowOk g w' sz es a' cap' → (∀ e ∈ es, ElemOk sz e) → (∀ ad, a' = some ad → 0 < cap' → w.heap.size ≤ ad.block ∧ ad.block < w'.heap.size) → Below w.heap.size w w' → Below 0 w w' →
       ∃ g', Moved g g' σ (σ ++ [.row sz 0 es]) w' ∧ Rep g' (.rs σ.length 0) (σ ++ [AObj.row sz 0 es]).length (.slice a' es.length cap') := by
     intro a' cap' w' hrow hes hblk hB hB0
     obtain ⟨g', hm, hh⟩ := hI.pushRow (w' := w') (sz := sz) (es := es) (a := a') (cap := cap') (fun k hk => hB.block k hk) hB0 hB.size hes hrow hblk
     exact ⟨g', hm, by simp, hh, rfl⟩
   cases a with
   | none =>
     have he : es = [] := by
       rcases hor with h | ⟨_, _, h, _⟩
       · exact h
       · cases h
     subst he
     refine Yields.of_calls (callFunc_enter hf hb hn _ _) ((hnil 0 cap w).mono ?_)
     rintro x w' ⟨rfl, rfl⟩
     obtain ⟨g', hm, hrp⟩ := fin none 0 w' (.inl ⟨rfl, rfl⟩) (by simp) (fun _ h => by cases h) (Below.refl _ _) (Below.refl _ _)
     exact ⟨_, rfl, g', hm, hrp⟩
   | some ad =>
     have hnews : ∃ news : List Value, news.length = es.length * sz ∧ Reps g es.flatten 0 news ∧ (∀ j u, news[j]? = some u → w.cell? (ad.add j) = some u) ∧ (∀ u ∈ news, u.oneCell' = true) ∧ ∀ e ∈ es, ElemOk sz e := by
       rcases hor with rfl | ⟨b, o, ha, hre⟩
       · exact ⟨[], by simp, rfl, fun j u h => by simp at h, by simp, by simp⟩
       · injection ha with ha
         subst ha
         have hsz' := RepE.size hre
         obtain ⟨news, k1, k2⟩ := RepC.reps (RepE.reps hre)
         refine ⟨news, by rw [Reps.length k1, ElemOk.flatten_len hsz'], k1, fun j u hj => ?_, fun u hu => ?_, hsz'⟩
         · rw [Addr.add_mid]
           exact hI.comm b (o + j) u (k2 j u hj)
         · exact List.all_eq_true.1 (Reps.flatten_one hsz' k1) u hu
     obtain ⟨news, k1, k2, k3, k4, k5⟩ := hnews
     refine Yields.of_calls (callFunc_enter hf hb hn _ _) ((hsome ad es.length cap news w k1 (by have h1 : maxLen = 2 ^ 63 - 1 := rfl; omega) hfb k3 k4).mono ?_)
     rintro x w' ⟨v', rfl, ⟨_, hown⟩, hne, hB⟩
     rcases hown with ⟨h, _⟩ | ⟨g0, cap', cur, rfl, hg0, hh, hle, hml, hcs, htk⟩
     · exact absurd h hne
     have hlt : g0 < w'.heap.size := by
       by_cases h : g0 < w'.heap.size
       · exact h
       · rw [Array.getElem?_eq_none (by omega)] at hh; cases hh
     obtain ⟨g', hm, hrp⟩ := fin (some ⟨g0, 0, none⟩) cap' w' (by
       by_cases hz : cap' = 0
       · refine .inl ⟨List.length_eq_zero_iff.1 (by omega), hz⟩
       · have hml2 : maxLen = 9223372036854775807 := rfl
         refine .inr ⟨by omega, hle, g0, cur, e, rfl, hh, by omega, ?_⟩
         rw [htk]; exact k2) k5 (fun ad had _ => by injection had with had; subst had; exact ⟨hg0, hlt⟩) hB ⟨hB.os, hB.tape, hB.output, hB.size, fun k hk => absurd hk (Nat.not_lt_zero _)⟩
     exact ⟨_, rfl, g', hm, hrp⟩
 · cases hr
end Go.Abs
