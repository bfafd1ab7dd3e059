import Derived.Test.YtecjmbaepioobaaGreatGen1
import Derived.Shelf.Spec.SlicesInsert
set_option linter.unusedSimpArgs false
set_option linter.unusedVariables false
namespace Go.Abs
open Go.RowKit
def InsOld (sz n c b : Nat) (cs : List Value) (w : World) (e : Ending) (w' : World) : Prop :=
 e = .returned (.slice (some ⟨b, 0, none⟩) (n + 1) c) ∧ ∃ (L : Array Value) (t : TypeId), w'.heap[b]? = some (.cells L t (0, 0)) ∧ c * sz ≤ L.size ∧ L.toList.take ((n + 1) * sz) = cs ∧
   (∀ k, k ≠ b → w'.heap[k]? = w.heap[k]?) ∧ w'.heap.size = w.heap.size ∧ Below 0 w w'
def InsNew (sz n : Nat) (cs : List Value) (w : World) (e : Ending) (w' : World) : Prop :=
 ∃ c, e = .returned (.slice (some ⟨w.heap.size, 0, none⟩) (n + 1) c) ∧ (n + 1 ≤ c ∧ c ≤ 9223372036854775807) ∧ ∃ (L : Array Value) (t : TypeId), w'.heap[w.heap.size]? = some (.cells L t (0, 0)) ∧ c * sz ≤ L.size ∧ L.toList.take ((n + 1) * sz) = cs ∧
   Below w.heap.size w w' ∧ w.heap.size < w'.heap.size
def insertT (sz bytes : Nat) : List AV → Store → Option (AV × Store)
 | [.rs id ver, .int .i64 i, .sl _ s [x]], σ => bindO (cur σ id ver) fun p => iteO (decide (p.1 = sz) && decide (s = sz) && inS i i p.2.length && fits (p.2.length + 1) bytes)
     (some (.rs id (ver + 1), σ.set id (.row sz (ver + 1) (p.2.take i.toNat ++ x :: p.2.drop i.toNat)))) none
 | _, _ => none
section
variable {g : Ghost} {σ : Store} {w : World}
theorem Inv.nextRow (hI : Inv g σ w) {id sz ver : Nat} {es es' : List (List AV)} (hc : σ[id]? = some (.row sz ver es)) {w' : World} {a' : Option Addr} {cap' : Nat}
   (hw : ∀ k, k < w.heap.size → owned g id (.row sz ver es) ≠ some k → w'.heap[k]? = w.heap[k]?) (hb : Below 0 w w') (hes : ∀ e ∈ es', ElemOk sz e) (hrow : RowOk g w' sz es' a' cap')
   (hblk : ∀ ad, a' = some ad → 0 < cap' → (w.heap.size ≤ ad.block ∨ owned g id (.row sz ver es) = some ad.block) ∧ ad.block < w'.heap.size) :
   ∃ g', Moved g g' σ (σ.set id (.row sz (ver + 1) es')) w' ∧ g'.hd id (ver + 1) = some (.slice a' es'.length cap') := by
 obtain ⟨_, _, hfresh⟩ := hI.objs id _ hc
 have hnone := hfresh (ver + 1) (by omega)
 let u : Value := .slice a' es'.length cap'
 have he := g.ver_ext id (ver + 1) σ.length u hnone
 refine ⟨g.ver id (ver + 1) u, ⟨he, ?_, by simp⟩, g.ver_same id (ver + 1) u⟩
 refine hI.change id he (by simp) (fun j hj => set_other j hj) (fun j hj => g.ver_other id _ u j hj) (fun k hk ho => hw k hk (ho _ hc)) hb hb.size (fun _ _ _ h => .inl h) (fun o ho => ?_)
 rw [set_same hc] at ho
 injection ho with ho
 subst ho
 refine ⟨⟨⟨a', cap', g.ver_same id (ver + 1) u, ?_⟩, hes, fun k hk => ?_⟩, fun b hb' => ?_⟩
 · rcases hrow with h | ⟨h1, h2, b, vs, t, h3, h4, h5, h6⟩
   · exact .inl h
   · exact .inr ⟨h1, h2, b, vs, t, h3, h4, h5, Reps.mono he _ 0 0 _ (Nat.zero_le _) (Nat.le_refl _) h6⟩
 · rw [g.ver_later id (ver + 1) u k hk]; exact hfresh k (by omega)
 · simp only [owned, rowBlock, g.ver_same id (ver + 1) u, u] at hb'
   cases a' with
   | none => simp at hb'
   | some ad =>
     simp only at hb'
     by_cases hc0 : cap' = 0
     · rw [if_pos hc0] at hb'; cases hb'
     · rw [if_neg hc0] at hb'
       injection hb' with hb'
       subst hb'
       obtain ⟨h1, h2⟩ := hblk ad rfl (by omega)
       refine ⟨h1.elim .inl fun h => .inr ⟨_, hc, h⟩, h2, fun off => ?_⟩
       show g.C ad.block off = none
       rcases h1 with h1 | h1
       · cases hcc : g.C ad.block off with
         | none => rfl
         | some v => have := hI.lt hcc; omega
       · exact (hI.sep id _ _ hc h1).2.2 off
end
theorem ftake {sz : Nat} : ∀ (es : List (List AV)) (k : Nat), (∀ e ∈ es, ElemOk sz e) → (es.take k).flatten = es.flatten.take (k * sz)
 | es, 0, _ => by simp
 | [], k + 1, _ => by simp
 | e :: es, k + 1, h => by
   have h1 := (h e (by simp)).1
   have h2 : (k + 1) * sz = sz + k * sz := by rw [Nat.add_mul, Nat.one_mul, Nat.add_comm]
   rw [List.take_succ_cons, List.flatten_cons, List.flatten_cons, ftake es k (fun x hx => h x (by simp [hx])), h2, List.take_append, h1, List.take_of_length_le (by omega : e.length ≤ sz + k * sz), Nat.add_sub_cancel_left]
theorem fdrop {sz : Nat} : ∀ (es : List (List AV)) (k : Nat), (∀ e ∈ es, ElemOk sz e) → (es.drop k).flatten = es.flatten.drop (k * sz)
 | es, 0, _ => by simp
 | [], k + 1, _ => by simp
 | e :: es, k + 1, h => by
   have h1 := (h e (by simp)).1
   have h2 : (k + 1) * sz = sz + k * sz := by rw [Nat.add_mul, Nat.one_mul, Nat.add_comm]
   rw [List.drop_succ_cons, List.flatten_cons, fdrop es k (fun x hx => h x (by simp [hx])), h2, List.drop_append, h1, List.drop_eq_nil_of_le (by omega : e.length ≤ sz + k * sz), List.nil_append, Nat.add_sub_cancel_left]
theorem insert_ok {P : Program} {f sz bytes : Nat} {fn : Func} {c : Code} (hf : P.funcs[f]? = some fn) (hb : fn.body = some c) (hn : fn.name ≠ "runtime.NumGoroutine") (hsz : 0 < sz)
   (hroom : ∀ (b n cp i vb vo vc : Nat) (L : Array Value) (t : TypeId) (vs : List Value) (w : World), i ≤ n → n + 1 ≤ cp → n + 1 ≤ 140737488355328 → vb ≠ b → w.heap[b]? = some (.cells L t (0, 0)) → cp * sz ≤ L.size → vs.length = sz →
     (∀ j v, vs[j]? = some v → w.cell? ⟨vb, vo + j, none⟩ = some v) → (∀ v ∈ L.toList.take (n * sz), v.oneCell' = true) → (∀ v ∈ vs, v.oneCell' = true) →
     Calls P f #[.slice (some ⟨b, 0, none⟩) n cp, .int .i64 (i : Int), .slice (some ⟨vb, vo, none⟩) 1 vc] w (InsOld sz n cp b ((L.toList.take (n * sz)).take (i * sz) ++ vs ++ (L.toList.take (n * sz)).drop (i * sz)) w))
   (hgrow : ∀ (base : Option Addr) (n cp i vb vo vc : Nat) (cs vs : List Value) (w : World), i ≤ n → n ≤ cp → cp < n + 1 → (n + 1) * bytes ≤ 140737488355328 → n + 1 ≤ 140737488355328 → cs.length = n * sz → vs.length = sz →
     (n = 0 ∨ ∃ b, base = some ⟨b, 0, none⟩ ∧ ∀ j v, cs[j]? = some v → w.cell? ⟨b, j, none⟩ = some v) →
     (∀ j v, vs[j]? = some v → w.cell? ⟨vb, vo + j, none⟩ = some v) → (∀ v ∈ cs, v.oneCell' = true) → (∀ v ∈ vs, v.oneCell' = true) →
     Calls P f #[.slice base n cp, .int .i64 (i : Int), .slice (some ⟨vb, vo, none⟩) 1 vc] w (InsNew sz n (cs.take (i * sz) ++ vs ++ cs.drop (i * sz)) w))
   (args : List AV) (σ : Store) (v : AV) (σ' : Store) (hr : insertT sz bytes args σ = some (v, σ')) : CallOk P f args σ v σ' := by
 unfold insertT at hr
 split at hr
 · rename_i id ver i fl s x
   obtain ⟨⟨rz, es⟩, hcur, hr⟩ := bindO_eq hr
   obtain ⟨h1, h2⟩ := iteO_none hr
   obtain ⟨rfl, rfl⟩ := pair_inj h2
   simp only [Bool.and_eq_true, decide_eq_true_eq] at h1
   obtain ⟨⟨⟨hrz, hss⟩, hin⟩, hfit⟩ := h1
   subst hrz; subst hss
   obtain ⟨hfb, hfn⟩ := fits_eq hfit
   have hin := of_decide_eq_true hin
   obtain ⟨k, rfl⟩ : ∃ k : Nat, i = (k : Int) := ⟨i.toNat, by omega⟩
   have hk : k ≤ es.length := by have := hin.2.2; simpa using this
   have hc := cur_eq hcur
   simp only at hc
   rw [Int.toNat_natCast]
   intro g w vs hI hR
   obtain ⟨v0, _, rfl, h0, v1, _, rfl, h1, v2, _, rfl, h2, h3⟩ := hR
   have h3 : _ = [] := h3
   subst h3
   have h1 : v1 = .int .i64 (k : Int) := h1
   subst h1
   obtain ⟨hidlt, hs, _⟩ := h0
   obtain ⟨ax, cx, rfl, _, _, hor⟩ := h2
   rcases hor with h | ⟨vb, vo, rfl, hre⟩
   · cases h
   have hx := RepE.size hre
   obtain ⟨news, hnr, hnc⟩ := RepC.reps (RepE.reps hre)
   have hnr' : Reps g x 0 news := by simpa using hnr
   have hnl : news.length = s := by rw [Reps.length hnr, ElemOk.flatten_len hx]; simp
   have hnc' : ∀ j u, news[j]? = some u → w.cell? ⟨vb, vo + j, none⟩ = some u := fun j u hj => hI.comm vb (vo + j) u (hnc j u hj)
   have hn1 : ∀ u ∈ news, u.oneCell' = true := fun u hu => List.all_eq_true.1 (Reps.flatten_one hx hnr) u hu
   obtain ⟨⟨a, cap, hh, hrow⟩, hes, hfresh⟩ := hI.objs id _ hc
   rw [hs] at hh
   injection hh with hh
   subst hh
   have hes' : ∀ e ∈ es.take k ++ x :: es.drop k, ElemOk s e := fun e he => by
     rcases List.mem_append.1 he with h | h
     · exact hes e (List.mem_of_mem_take h)
     · rcases List.mem_cons.1 h with h | h
       · subst h; exact hx _ (by simp)
       · exact hes e (List.mem_of_mem_drop h)
   have hlen : (es.take k ++ x :: es.drop k).length = es.length + 1 := by simp; omega
   have hreps : ∀ olds : List Value, Reps g es.flatten 0 olds → Reps g (es.take k ++ x :: es.drop k).flatten 0 (olds.take (k * s) ++ news ++ olds.drop (k * s)) := fun olds ho => by
     rw [List.flatten_append, List.flatten_cons, ftake es k hes, fdrop es k hes, ← List.append_assoc]
     exact Reps.append (Reps.append (Reps.take _ ho) hnr') (Reps.drop _ ho)
   by_cases hrm : es.length + 1 ≤ cap
   · rcases hrow with ⟨rfl, hc0⟩ | ⟨hcpos, hl, b, L, t, rfl, hheap, hLs, hreps0⟩
     · simp at hrm; omega
     · have hown : owned g id (.row s ver es) = some b := by simp only [owned, rowBlock, hs]; rw [if_neg (by omega)]
       have hsep := hI.sep id _ _ hc hown
       have hvb : vb ≠ b := by
         rintro rfl
         obtain ⟨u, hu⟩ : ∃ u, news[0]? = some u := ⟨_, List.getElem?_eq_getElem (by omega)⟩
         have h4 := hnc 0 u hu
         rw [hsep.2.2] at h4; cases h4
       refine Yields.of_calls (callFunc_enter hf hb hn _ _) ((hroom b es.length cap k vb vo cx L t news w hk hrm hfn hvb hheap hLs hnl hnc' (fun u hu => List.all_eq_true.1 (Reps.flatten_one hes hreps0) u hu) hn1).mono ?_)
       rintro e w' ⟨rfl, L', t', hheap', hL', htake, hoth, hsize, hB⟩
       obtain ⟨g', hm, hh'⟩ := hI.nextRow hc (w' := w') (a' := some ⟨b, 0, none⟩) (cap' := cap) (es' := es.take k ++ x :: es.drop k) (fun j _ hj => hoth j fun e => hj (by rw [e]; exact hown)) hB hes'
         (.inr ⟨hcpos, by rw [hlen]; exact hrm, b, L', t', rfl, hheap', hL', by rw [hlen, htake]; exact hreps _ hreps0⟩)
         (fun ad had _ => by injection had with had; subst had; exact ⟨.inr hown, by rw [hsize]; exact hsep.2.1⟩)
       refine ⟨_, rfl, g', hm, ?_, by rw [hh', hlen], rfl⟩
       simpa using hidlt
   · obtain ⟨olds, hor, hol, hcell⟩ : ∃ olds : List Value, Reps g es.flatten 0 olds ∧ olds.length = es.length * s ∧ (es.length = 0 ∨ ∃ b, a = some ⟨b, 0, none⟩ ∧ ∀ j u, olds[j]? = some u → w.cell? ⟨b, j, none⟩ = some u) := by
       rcases hrow with ⟨rfl, _⟩ | ⟨_, _, b, L, t, rfl, hheap, hLs, hreps0⟩
       · exact ⟨[], rfl, by simp, .inl rfl⟩
       · refine ⟨_, hreps0, by rw [Reps.length hreps0, ElemOk.flatten_len hes], .inr ⟨b, rfl, fun j u hj => ?_⟩⟩
         rw [List.getElem?_take] at hj
         split at hj
         · rw [cell_of_block hheap]; simpa using hj
         · cases hj
     have hle : es.length ≤ cap := by
       rcases hrow with ⟨rfl, _⟩ | ⟨_, h, _⟩
       · simp
       · exact h
     refine Yields.of_calls (callFunc_enter hf hb hn _ _) ((hgrow a es.length cap k vb vo cx olds news w hk hle (by omega) hfb hfn hol hnl hcell hnc' (fun u hu => List.all_eq_true.1 (Reps.flatten_one hes hor) u hu) hn1).mono ?_)
     rintro e w' ⟨cap', rfl, hcap, L', t', hheap', hL', htake, hB, hlt⟩
     obtain ⟨g', hm, hh'⟩ := hI.nextRow hc (w' := w') (a' := some ⟨w.heap.size, 0, none⟩) (cap' := cap') (es' := es.take k ++ x :: es.drop k) (fun j hj _ => hB.block j hj) ⟨hB.os, hB.tape, hB.output, hB.size, fun k hk => absurd hk (Nat.not_lt_zero _)⟩ hes'
         (.inr ⟨by omega, by rw [hlen]; exact hcap.1, w.heap.size, L', t', rfl, hheap', hL', by rw [hlen, htake]; exact hreps _ hor⟩)
         (fun ad had _ => by injection had with had; subst had; exact ⟨.inl (Nat.le_refl _), hlt⟩)
     refine ⟨_, rfl, g', hm, ?_, by rw [hh', hlen], rfl⟩
     simpa using hidlt
 · cases hr
section
variable {α γ : Type}
def insL (l : List α) (k : Nat) (x : α) : List α := l.take k ++ x :: l.drop k
def insF (bytes : Nat) (l : List α) (i : Int) : List α → Option (List α)
 | [x] => iteO (inS i i l.length && fits (l.length + 1) bytes) (some (insL l i.toNat x)) none
 | _ => none
theorem insF_some (bytes : Nat) (l : List α) (k : Nat) (x : α) (h : k ≤ l.length) (hf : fits (l.length + 1) bytes = true) : insF bytes l (k : Int) [x] = some (insL l k x) := by
 have : inS (k : Int) k l.length = true := decide_eq_true ⟨by omega, by omega, by omega⟩
 simp only [insF, this, hf, Bool.and_self, iteO_true, Int.toNat_natCast]
theorem ins_ext {c : α → List AV} {l : List α} {x : α} {e : List AV} {i : Int} {sz bytes id ver : Nat} {fl : Bool} {σ : Store} {K : AV × Store → Option γ} {K' : List α → Option γ} (hx : e = c x) (hcur : cur σ id ver = some (sz, List.map c l))
   (h : ∀ r : List α, run (K (.rs id (ver + 1), σ.set id (.row sz (ver + 1) (List.map c r)))) = K' r) :
   bindO (insertT sz bytes [.rs id ver, .int .i64 i, .sl fl sz [e]] σ) K = bindO (insF bytes l i [x]) K' := by
 subst hx
 simp only [insertT, insF, hcur, bindO_some, decide_true, Bool.true_and, List.length_map]
 cases inS i i l.length && fits (l.length + 1) bytes with
 | false => rfl
 | true =>
   simp only [iteO_true, bindO_some]
   rw [← h]
   simp only [insL, List.map_append, List.map_cons, List.map_take, List.map_drop]
   rfl
theorem ins_extr {c : α → List AV} {l : List α} {x : α} {e : List AV} {i : Int} {sz bytes id ver : Nat} {fl : Bool} {σ : Store} {K : AV × Store → Option γ} {K' : List α → Option γ} (hx : e = c x) (hcur : cur σ id ver = some (sz, List.map c l))
   (h : ∀ r : List α, run (K (.rs id (ver + 1), σ.set id (.row sz (ver + 1) (List.map c r)))) = K' r) :
   bindO (run (insertT sz bytes [.rs id ver, .int .i64 i, .sl fl sz [e]] σ)) K = bindO (insF bytes l i [x]) K' := ins_ext hx hcur h
theorem ag {c : α → List AV} {l : List α} {j : Nat} {K : List AV → Option γ} {K' : α → Option γ} (h : ∀ x, (List.map c l)[j]? = some (c x) → run (K (c x)) = K' x) : bindO ((List.map c l)[j]?) K = bindO (atO l (j : Int)) K' := by
 cases hx : l[j]? with
 | none =>
   have h1 : (List.map c l)[j]? = none := by rw [List.getElem?_map, hx]; rfl
   have h2 : atO l (j : Int) = none := by
     have := List.getElem?_eq_none_iff.1 hx
     have hb : inB (j : Int) l.length = false := by simp only [inB]; exact decide_eq_false (by omega)
     simp only [atO, hb, iteO_false]
   rw [h1, h2]; rfl
 | some x =>
   have h1 : (List.map c l)[j]? = some (c x) := by rw [List.getElem?_map, hx]; rfl
   have h2 : atO l (j : Int) = some x := by
     have hlt := (List.getElem?_eq_some_iff.1 hx).1
     have hb : inB (j : Int) l.length = true := by simp only [inB]; exact decide_eq_true (by omega)
     simp only [atO, hb, iteO_true, Int.toNat_natCast, hx]
   rw [h1, h2]
   exact h x h1
theorem agr {c : α → List AV} {l : List α} {j : Nat} {K : List AV → Option γ} {K' : α → Option γ} (h : ∀ x, (List.map c l)[j]? = some (c x) → run (K (c x)) = K' x) : bindO (run (List.map c l)[j]?) K = bindO (atO l (j : Int)) K' := ag h
end
end Go.Abs
