import Derived.Test.YthgibjeclmkbpaaIns
import Derived.Test.YthgibjeclmkbpaaCl
import Derived.Test.YthgibjeclmkbpaaAbs24z
import Derived.Sort.Grow
import Derived.Lib.RowBridge
import Derived.Lib.SlicesCompact
set_option linter.unusedSimpArgs false
set_option linter.unusedVariables false
namespace Go.Abs
open Go.RowKit
def decI : List (List AV) → Option (List Int)
 | [] => some []
 | [.int .i64 z] :: es => bindO (decI es) fun zs => some (z :: zs)
 | _ :: _ => none
@[push_cast] theorem decI_map : ∀ zs : List Int, decI (List.map (cI .i64) zs) = some zs
 | [] => rfl
 | z :: zs => by
   show bindO (decI (List.map (cI .i64) zs)) _ = _
   rw [decI_map zs]; rfl
theorem decI_eq : ∀ {es : List (List AV)} {zs : List Int}, decI es = some zs → es = List.map (cI .i64) zs
 | [], zs, h => by injection h with h; subst h; rfl
 | e :: es, zs, h => by
   unfold decI at h
   split at h
   · rename_i h0; cases h0
   · rename_i z es' h0
     injection h0 with h1 h2
     subst h1; subst h2
     obtain ⟨ys, h3, h4⟩ := bindO_eq h
     injection h4 with h4
     subst h4
     rw [decI_eq h3]; rfl
   · cases h
def sortF (l : List Int) : List Int := l.mergeSort fun x y => decide (x ≤ y)
def compF (l : List Int) : List Int := Lib.compact l
def delF (l : List Int) (i j : Int) : List Int := l.take i.toNat ++ l.drop j.toNat
@[push_cast] theorem sortF_length (l : List Int) : (sortF l).length = l.length := by unfold sortF; simp
noncomputable def sortT : List AV → Store → Option (AV × Store)
 | [.rs id ver], σ => bindO (cur σ id ver) fun p => iteO (decide (p.1 = 1) && fits p.2.length 8) (bindO (decI p.2) fun zs => some (.tuple [], σ.set id (.row 1 ver (List.map (cI .i64) (sortF zs))))) none
 | _, _ => none
noncomputable def compT : List AV → Store → Option (AV × Store)
 | [.rs id ver], σ => bindO (cur σ id ver) fun p => iteO (decide (p.1 = 1) && fits p.2.length 8) (bindO (decI p.2) fun zs => some (.rs id (ver + 1), σ.set id (.row 1 (ver + 1) (List.map (cI .i64) (compF zs))))) none
 | _, _ => none
noncomputable def delT : List AV → Store → Option (AV × Store)
 | [.rs id ver, .int .i64 i, .int .i64 j], σ => bindO (cur σ id ver) fun p => iteO (decide (p.1 = 1) && fits p.2.length 8 && inS i j p.2.length && decide (i < j)) (bindO (decI p.2) fun zs => some (.rs id (ver + 1), σ.set id (.row 1 (ver + 1) (List.map (cI .i64) (delF zs i j))))) none
 | _, _ => none
theorem iteO_and2 {α : Type} (a b : Bool) (x : Option α) : iteO (a && b) x none = iteO a (iteO b x none) none := by cases a <;> rfl
@[push_cast] theorem decI_app (a b : List Int) : decI (List.map (cI .i64) a ++ List.map (cI .i64) b) = some (a ++ b) := by rw [← List.map_append, decI_map]
@[push_cast] theorem r_sortT (id ver : Nat) (σ : Store) : sortT [.rs id ver] σ = bindO (cur σ id ver) fun p => iteO (decide (p.1 = 1)) (iteO (fits p.2.length 8) (bindO (decI p.2) fun zs => some (.tuple [], σ.set id (.row 1 ver (List.map (cI .i64) (sortF zs))))) none) none := by
 unfold sortT; simp only [iteO_and2]
@[push_cast] theorem r_compT (id ver : Nat) (σ : Store) : compT [.rs id ver] σ = bindO (cur σ id ver) fun p => iteO (decide (p.1 = 1)) (iteO (fits p.2.length 8) (bindO (decI p.2) fun zs => some (.rs id (ver + 1), σ.set id (.row 1 (ver + 1) (List.map (cI .i64) (compF zs))))) none) none := by
 unfold compT; simp only [iteO_and2]
@[push_cast] theorem r_delT (id ver : Nat) (i j : Int) (σ : Store) : delT [.rs id ver, .int .i64 i, .int .i64 j] σ = bindO (cur σ id ver) fun p => iteO (decide (p.1 = 1)) (iteO (fits p.2.length 8) (iteO (inS i j p.2.length) (iteO (decide (i < j)) (bindO (decI p.2) fun zs => some (.rs id (ver + 1), σ.set id (.row 1 (ver + 1) (List.map (cI .i64) (delF zs i j))))) none) none) none) none := by
 unfold delT; simp only [iteO_and2]
theorem del_grown {args : List AV} {σ : Store} {v : AV} {σ' : Store} (h : delT args σ = some (v, σ')) : Grown σ σ' := by
 unfold delT at h
 split at h
 · obtain ⟨p, hp, h⟩ := bindO_eq h
   obtain ⟨_, h⟩ := iteO_none h
   obtain ⟨zs, _, h⟩ := bindO_eq h
   injection h with h
   injection h with _ h
   subst h
   exact Grown.set (cur_eq hp) rfl rfl
 · cases h
theorem insert_grown {sz bytes : Nat} {args : List AV} {σ : Store} {v : AV} {σ' : Store} (h : insertT sz bytes args σ = some (v, σ')) : Grown σ σ' := by
 unfold insertT at h
 split at h
 · obtain ⟨p, hp, h⟩ := bindO_eq h
   obtain ⟨_, h⟩ := iteO_none h
   injection h with h
   injection h with _ h
   subst h
   exact Grown.set (cur_eq hp) rfl rfl
 · cases h
theorem clone_grown {sz bytes : Nat} {args : List AV} {σ : Store} {v : AV} {σ' : Store} (h : cloneT sz bytes args σ = some (v, σ')) : Grown σ σ' := by
 unfold cloneT at h
 split at h
 · obtain ⟨_, h⟩ := iteO_none h
   injection h with h
   injection h with _ h
   subst h
   exact Grown.push rfl
 · cases h
section
variable {g : Ghost} {σ : Store} {w : World}
theorem Inv.sameRow (hI : Inv g σ w) {id sz ver : Nat} {es es' : List (List AV)} (hc : σ[id]? = some (.row sz ver es)) (hlen : es'.length = es.length) {w' : World} {a : Option Addr} {cap : Nat}
   (hhd : g.hd id ver = some (.slice a es.length cap)) (hw : ∀ k, k < w.heap.size → owned g id (.row sz ver es) ≠ some k → w'.heap[k]? = w.heap[k]?) (hb : Below 0 w w')
   (hes : ∀ e ∈ es', ElemOk sz e) (hrow : RowOk g w' sz es' a cap) : Moved g g σ (σ.set id (.row sz ver es')) w' := by
 obtain ⟨_, _, hfresh⟩ := hI.objs id _ hc
 refine ⟨Ext.refl g _, ?_, by simp⟩
 refine hI.change id (Ext.refl g _) (by simp) (fun j hj => set_other j hj) (fun _ _ => rfl) (fun k hk ho => hw k hk (ho _ hc)) hb hb.size (fun _ _ _ h => .inl h) (fun o ho => ?_)
 rw [set_same hc] at ho
 injection ho with ho
 subst ho
 refine ⟨⟨⟨a, cap, by rw [hlen]; exact hhd, hrow⟩, hes, hfresh⟩, fun b hb' => ?_⟩
 have hb2 : owned g id (.row sz ver es) = some b := hb'
 obtain ⟨_, h2, h3⟩ := hI.sep id _ _ hc hb2
 exact ⟨.inr ⟨_, hc, hb2⟩, Nat.lt_of_lt_of_le h2 hb.size, h3⟩
end
theorem ints_flat : ∀ zs : List Int, (List.map (cI .i64) zs).flatten = zs.map (AV.int .i64)
 | [] => rfl
 | z :: zs => by
   show cI .i64 z ++ (List.map (cI .i64) zs).flatten = _
   rw [ints_flat zs]; rfl
theorem reps_ints {g : Ghost} : ∀ {zs : List Int} {n : Nat} {vs : List Value}, Reps g (zs.map (AV.int .i64)) n vs → vs = zs.map (Value.int .i64)
 | [], n, vs, h => h
 | z :: zs, n, vs, h => by
   obtain ⟨v, us, e, hv, hr⟩ := h
   have hv : v = .int .i64 z := hv
   rw [e, hv, reps_ints hr]; rfl
theorem reps_ints_mk {g : Ghost} : ∀ (zs : List Int) (n : Nat), Reps g (zs.map (AV.int .i64)) n (zs.map (Value.int .i64))
 | [], n => rfl
 | z :: zs, n => ⟨_, _, rfl, rfl, reps_ints_mk zs n⟩
theorem ints_ok (zs : List Int) : ∀ e ∈ List.map (cI .i64) zs, ElemOk 1 e := fun e he => by
 obtain ⟨z, _, rfl⟩ := List.mem_map.1 he
 exact ⟨rfl, rfl⟩
def RowIn (c b : Nat) (ys : List Int) (w w' : World) : Prop := ∃ L t, w'.heap[b]? = some (.cells L t (0, 0)) ∧ c ≤ L.size ∧ L.toList.take ys.length = ys.map (Value.int .i64) ∧ (∀ k, k < w.heap.size → k ≠ b → w'.heap[k]? = w.heap[k]?) ∧ Below 0 w w'
theorem rowIn_set {w : World} {L : Array Value} {t : TypeId} {b c q : Nat} {os : Array Obj} (hh : w.heap[b]? = some (.cells L t (0, 0))) (hL : c ≤ L.size) {ys zs : List Int} (hz : (ys ++ zs).length ≤ c) :
   RowIn c b ys w (Sort.grow ((w.drewN q).setCells b 0 ((ys ++ zs).map (Value.int .i64))) os) := by
 have hlt : b < w.heap.size := by
   by_cases h : b < w.heap.size
   · exact h
   · rw [Array.getElem?_eq_none (by omega)] at hh; cases hh
 have h1 := setCells_heap b ((ys ++ zs).map (Value.int .i64)) 0 (w.drewN q) L t (0, 0) hh (by rw [List.length_map]; omega)
 have hgr : ∀ (u : World) (k : Nat), k < u.heap.size → (Sort.grow u os).heap[k]? = u.heap[k]? := fun u k hk => by
   show (u.heap ++ os)[k]? = _
   rw [Array.getElem?_append_left hk]
 have hsz : ((w.drewN q).setCells b 0 ((ys ++ zs).map (Value.int .i64))).heap.size = w.heap.size := by rw [setCells_size]; rfl
 refine ⟨_, t, (hgr _ b (by rw [hsz]; exact hlt)).trans h1, ?_, ?_, fun k hk hne => ?_, ?_⟩
 · simp at hz ⊢; omega
 · simp
 · rw [hgr _ k (by rw [hsz]; exact hk), setCells_other _ _ _ _ _ hne]; rfl
 · have hB : Below 0 w (w.drewN q) := ⟨rfl, rfl, rfl, Nat.le_refl _, fun _ h => absurd h (Nat.not_lt_zero _)⟩
   exact (hB.trans (setCells_below (Nat.zero_le _) _ _ _)).trans ⟨rfl, rfl, rfl, by show _ ≤ (_ ++ os).size; rw [Array.size_append]; omega, fun j hj => absurd hj (Nat.not_lt_zero _)⟩
section
variable {g : Ghost} {σ : Store} {w : World}
theorem row_ints {id ver : Nat} {zs : List Int} (hI : Inv g σ w) (hc : σ[id]? = some (.row 1 ver (List.map (cI .i64) zs))) :
   ∃ a cap, g.hd id ver = some (.slice a zs.length cap) ∧ ((zs = [] ∧ RowOk g w 1 [] a cap) ∨ ∃ b L t, a = some ⟨b, 0, none⟩ ∧ w.heap[b]? = some (.cells L t (0, 0)) ∧ cap ≤ L.size ∧ (0 < cap ∧ cap ≤ 9223372036854775807) ∧ zs.length ≤ cap ∧ L.toList.take zs.length = zs.map (Value.int .i64) ∧
     owned g id (.row 1 ver (List.map (cI .i64) zs)) = some b ∧ Sort.Holds (Value.int .i64) w b 0 zs.toArray) := by
 obtain ⟨⟨a, cap, hh, hrow⟩, _, _⟩ := hI.objs id _ hc
 rw [List.length_map] at hh
 refine ⟨a, cap, hh, ?_⟩
 rcases hrow with ⟨he, hc0⟩ | ⟨hcpos, hl, b, vs, t, ha, hheap, hsz, hreps⟩
 · have : zs = [] := List.map_eq_nil_iff.1 he
   subst this
   exact .inl ⟨rfl, .inl ⟨rfl, hc0⟩⟩
 · right
   rw [ints_flat, List.length_map, Nat.mul_one] at hreps
   rw [List.length_map] at hl
   have hv := reps_ints hreps
   refine ⟨b, vs, t, ha, hheap, by omega, hcpos, hl, hv, ?_, fun j hj => ?_⟩
   · simp only [owned, rowBlock, hh, ha]; rw [if_neg (by omega)]
   · have hj : j < zs.length := by simpa using hj
     have hcell : vs.toList[j]? = some (.int .i64 zs[j]) := by
       have h1 : (vs.toList.take zs.length)[j]? = (zs.map (Value.int .i64))[j]? := by rw [hv]
       rw [List.getElem?_take, if_pos hj, List.getElem?_map, List.getElem?_eq_getElem hj] at h1
       exact h1
     refine ⟨?_, by simp [World.frozen?, hheap]⟩
     rw [cell_of_block hheap, Nat.zero_add]
     have : (zs.toArray)[j]! = zs[j] := by simp [hj]
     rw [this]
     simpa using hcell
end
theorem row_in_ok {g : Ghost} {w' : World} {ys : List Int} {c b : Nat} {L : Array Value} {t : TypeId} (h0 : 0 < c ∧ c ≤ 9223372036854775807) (hl : ys.length ≤ c) (hh : w'.heap[b]? = some (.cells L t (0, 0))) (hL : c ≤ L.size) (ht : L.toList.take ys.length = ys.map (Value.int .i64)) :
   RowOk g w' 1 (List.map (cI .i64) ys) (some ⟨b, 0, none⟩) c :=
 .inr ⟨h0, by rw [List.length_map]; exact hl, b, L, t, rfl, hh, by omega, by rw [ints_flat, List.length_map, Nat.mul_one, ht]; exact reps_ints_mk ys 0⟩
section
variable {P : Program} {f : Nat} {fn : Func} {c : Code} (hf : P.funcs[f]? = some fn) (hb : fn.body = some c) (hn : fn.name ≠ "runtime.NumGoroutine")
include hf hb hn
theorem sort_ok
   (hnone : ∀ (p : Option Addr) (cap : Nat) (w : World), Calls P f #[.slice p 0 cap] w fun e w' => e = .returned (.tuple #[]) ∧ w' = w)
   (hrun : ∀ (blk off cap : Nat) (zs : List Int) (w : World), Sort.Holds (Value.int .i64) w blk off zs.toArray → blk < w.heap.size → zs.length < 4611686018427387904 →
     Calls P f #[.slice (some ⟨blk, off, none⟩) zs.length cap] w fun e w' => e = .returned (.tuple #[]) ∧ ∃ n os, w' = Sort.grow (Sort.putRow (Value.int .i64) (Sort.ahead w n) blk off (zs.mergeSort fun x y => decide (x ≤ y)).toArray) os)
   (args : List AV) (σ : Store) (v : AV) (σ' : Store) (hr : sortT args σ = some (v, σ')) : CallOk P f args σ v σ' := by
 unfold sortT at hr
 split at hr
 · rename_i id ver
   obtain ⟨⟨rz, es⟩, hcur, hr⟩ := bindO_eq hr
   obtain ⟨h1, hr⟩ := iteO_none hr
   obtain ⟨zs, hzs, hr⟩ := bindO_eq hr
   obtain ⟨rfl, rfl⟩ := pair_inj hr
   simp only [Bool.and_eq_true, decide_eq_true_eq] at h1
   obtain ⟨hrz, hfit⟩ := h1
   subst hrz
   have hes := decI_eq hzs
   simp only at hes hcur
   subst hes
   obtain ⟨_, hfn⟩ := fits_eq hfit
   rw [List.length_map] at hfn
   have hc := cur_eq hcur
   simp only at hc
   intro g w vs hI hR
   obtain ⟨v0, _, rfl, h0, h3⟩ := hR
   have h3 : _ = [] := h3
   subst h3
   obtain ⟨hidlt, hs, _⟩ := h0
   obtain ⟨a, cap, hh, hrow⟩ := row_ints hI hc
   rw [hs] at hh
   injection hh with hh
   subst hh
   rcases hrow with ⟨rfl, hro⟩ | ⟨b, L, t, rfl, hheap, hL, hc0, hl, htk, hown, hH⟩
   · refine Yields.of_calls (callFunc_enter hf hb hn _ _) ((hnone a cap w).mono ?_)
     rintro e w' ⟨rfl, rfl⟩
     have hs0 : sortF [] = [] := by unfold sortF; simp
     rw [hs0]
     exact ⟨_, rfl, g, hI.sameRow hc rfl hs (fun _ _ _ => rfl) (Below.refl _ _) (ints_ok _) hro, _, rfl, rfl⟩
   · have hsep := hI.sep id _ _ hc hown
     refine Yields.of_calls (callFunc_enter hf hb hn _ _) ((hrun b 0 cap zs w hH hsep.2.1 (by omega)).mono ?_)
     rintro e w' ⟨rfl, n, os, rfl⟩
     have hlen : (zs.mergeSort fun x y => decide (x ≤ y)).length = zs.length := by simp
     rw [Lib.putRow_eq_setCells (Value.int .i64) w b 0 zs.toArray _ n hH (by simp)]
     obtain ⟨L', t', k1, k2, k3, k4, k5⟩ := rowIn_set (q := n) (os := os) hheap hL (ys := sortF zs) (zs := []) (by rw [List.append_nil, sortF_length]; exact hl)
     rw [List.append_nil] at k1 k4 k5
     refine ⟨_, rfl, g, hI.sameRow hc (by rw [List.length_map, List.length_map, sortF_length]) (by rw [List.length_map]; exact hs) (fun k hk hne => k4 k hk fun e => hne (by rw [e]; exact hown)) k5 (ints_ok _) ?_, _, rfl, rfl⟩
     exact row_in_ok hc0 (by rw [sortF_length]; exact hl) k1 k2 k3
 · cases hr
theorem comp_ok
   (hnone : ∀ (p : Option Addr) (cap : Nat) (w : World), Calls P f #[.slice p 0 cap] w fun e w' => e = .returned (.slice p 0 cap) ∧ w' = w)
   (hrun : ∀ (blk off cap : Nat) (zs : List Int) (w : World), Sort.Holds (Value.int .i64) w blk off zs.toArray → zs.length ≤ 9223372036854775807 → zs.length ≤ cap →
     Calls P f #[.slice (some ⟨blk, off, none⟩) zs.length cap] w fun e w' => e = .returned (.slice (some ⟨blk, off, none⟩) (Lib.compact zs).length cap) ∧ ∃ q, w' = Sort.putRow (Value.int .i64) (Sort.ahead w q) blk off (Lib.compact zs ++ List.replicate (zs.length - (Lib.compact zs).length) 0).toArray)
   (args : List AV) (σ : Store) (v : AV) (σ' : Store) (hr : compT args σ = some (v, σ')) : CallOk P f args σ v σ' := by
 unfold compT at hr
 split at hr
 · rename_i id ver
   obtain ⟨⟨rz, es⟩, hcur, hr⟩ := bindO_eq hr
   obtain ⟨h1, hr⟩ := iteO_none hr
   obtain ⟨zs, hzs, hr⟩ := bindO_eq hr
   obtain ⟨rfl, rfl⟩ := pair_inj hr
   simp only [Bool.and_eq_true, decide_eq_true_eq] at h1
   obtain ⟨hrz, hfit⟩ := h1
   subst hrz
   have hes := decI_eq hzs
   simp only at hes hcur
   subst hes
   obtain ⟨_, hfn⟩ := fits_eq hfit
   rw [List.length_map] at hfn
   have hc := cur_eq hcur
   simp only at hc
   intro g w vs hI hR
   obtain ⟨v0, _, rfl, h0, h3⟩ := hR
   have h3 : _ = [] := h3
   subst h3
   obtain ⟨hidlt, hs, _⟩ := h0
   obtain ⟨a, cap, hh, hrow⟩ := row_ints hI hc
   rw [hs] at hh
   injection hh with hh
   subst hh
   rcases hrow with ⟨rfl, hro⟩ | ⟨b, L, t, rfl, hheap, hL, hc0, hl, htk, hown, hH⟩
   · refine Yields.of_calls (callFunc_enter hf hb hn _ _) ((hnone a cap w).mono ?_)
     rintro e w' ⟨rfl, rfl⟩
     obtain ⟨g', hm, hh'⟩ := hI.nextRow hc (w' := w') (a' := a) (cap' := cap) (es' := List.map (cI .i64) (compF [])) (fun _ _ _ => rfl) (Below.refl _ _) (ints_ok _) hro (fun ad had h => by
       rcases hro with ⟨_, h0⟩ | ⟨_, _, b, vs, t, ha, hheap, _⟩
       · omega
       · rw [ha] at had
         injection had with had
         subst had
         have hown : owned g id (.row 1 ver (List.map (cI .i64) [])) = some b := by
           simp only [owned, rowBlock, hs, ha]; rw [if_neg (by omega)]
         exact ⟨.inr hown, (hI.sep id _ _ hc hown).2.1⟩)
     exact ⟨_, rfl, g', hm, by simpa using hidlt, hh', rfl⟩
   · have hsep := hI.sep id _ _ hc hown
     refine Yields.of_calls (callFunc_enter hf hb hn _ _) ((hrun b 0 cap zs w hH (by omega) hl).mono ?_)
     rintro e w' ⟨rfl, n, rfl⟩
     have hle := Lib.compact_length_le zs
     rw [Lib.putRow_eq_setCells (Value.int .i64) w b 0 zs.toArray _ n hH (by simp; omega)]
     obtain ⟨L', t', k1, k2, k3, k4, k5⟩ := rowIn_set (q := n) (os := #[]) hheap hL (ys := compF zs) (zs := List.replicate (zs.length - (Lib.compact zs).length) 0) (by unfold compF; simp; omega)
     rw [Sort.grow_empty] at k1 k4 k5
     obtain ⟨g', hm, hh'⟩ := hI.nextRow hc (w' := (w.drewN n).setCells b 0 ((compF zs ++ List.replicate (zs.length - (Lib.compact zs).length) 0).map (Value.int .i64))) (a' := some ⟨b, 0, none⟩) (cap' := cap) (es' := List.map (cI .i64) (compF zs))
       (fun k hk hne => k4 k hk fun e => hne (by rw [e]; exact hown)) k5 (ints_ok _) (row_in_ok hc0 (by unfold compF; omega) k1 k2 k3)
       (fun ad had _ => by injection had with had; subst had; exact ⟨.inr hown, Nat.lt_of_lt_of_le hsep.2.1 k5.size⟩)
     exact ⟨_, rfl, g', hm, by simpa using hidlt, by rw [hh', List.length_map]; rfl, rfl⟩
 · cases hr
theorem del_ok
   (hrun : ∀ (blk off cap i j : Nat) (zs : List Int) (w : World), Sort.Holds (Value.int .i64) w blk off zs.toArray → zs.length ≤ cap → cap ≤ 9223372036854775807 → i ≤ j → j ≤ zs.length →
     Calls P f #[.slice (some ⟨blk, off, none⟩) zs.length cap, .int .i64 i, .int .i64 j] w fun e w' => e = .returned (.slice (some ⟨blk, off, none⟩) (zs.length - (j - i)) cap) ∧ ∃ q, w' = Sort.putRow (Value.int .i64) (Sort.ahead w q) blk off (zs.take i ++ zs.drop j ++ List.replicate (j - i) 0).toArray)
   (args : List AV) (σ : Store) (v : AV) (σ' : Store) (hr : delT args σ = some (v, σ')) : CallOk P f args σ v σ' := by
 unfold delT at hr
 split at hr
 · rename_i id ver i j
   obtain ⟨⟨rz, es⟩, hcur, hr⟩ := bindO_eq hr
   obtain ⟨h1, hr⟩ := iteO_none hr
   obtain ⟨zs, hzs, hr⟩ := bindO_eq hr
   obtain ⟨rfl, rfl⟩ := pair_inj hr
   simp only [Bool.and_eq_true, decide_eq_true_eq] at h1
   obtain ⟨⟨⟨hrz, hfit⟩, hin⟩, hij⟩ := h1
   subst hrz
   have hes := decI_eq hzs
   simp only at hes hcur hin
   subst hes
   obtain ⟨_, hfn⟩ := fits_eq hfit
   rw [List.length_map] at hfn hin
   have hin := of_decide_eq_true hin
   obtain ⟨i', rfl⟩ : ∃ k : Nat, i = (k : Int) := ⟨i.toNat, by omega⟩
   obtain ⟨j', rfl⟩ : ∃ k : Nat, j = (k : Int) := ⟨j.toNat, by omega⟩
   have hc := cur_eq hcur
   simp only at hc
   intro g w vs hI hR
   obtain ⟨v0, _, rfl, h0, v1, _, rfl, h1, v2, _, rfl, h2, h3⟩ := hR
   have h3 : _ = [] := h3
   subst h3
   have h1 : v1 = .int .i64 (i' : Int) := h1
   subst h1
   have h2 : v2 = .int .i64 (j' : Int) := h2
   subst h2
   obtain ⟨hidlt, hs, hwf⟩ := h0
   obtain ⟨a, cap, hh, hrow⟩ := row_ints hI hc
   rw [hs] at hh
   injection hh with hh
   subst hh
   rcases hrow with ⟨rfl, hro⟩ | ⟨b, L, t, rfl, hheap, hL, hc0, hl, htk, hown, hH⟩
   · simp at hin; omega
   · have hsep := hI.sep id _ _ hc hown
     have hjl : j' ≤ zs.length := by have := hin.2.2; simp at this; omega
     refine Yields.of_calls (callFunc_enter hf hb hn _ _) ((hrun b 0 cap i' j' zs w hH hl hc0.2 (by omega) hjl).mono ?_)
     rintro e w' ⟨rfl, n, rfl⟩
     have hdl : (zs.take i' ++ zs.drop j').length = zs.length - (j' - i') := by simp; omega
     rw [Lib.putRow_eq_setCells (Value.int .i64) w b 0 zs.toArray _ n hH (by simp; omega)]
     have hdF : delF zs (i' : Int) (j' : Int) = zs.take i' ++ zs.drop j' := by unfold delF; rw [Int.toNat_natCast, Int.toNat_natCast]
     obtain ⟨L', t', k1, k2, k3, k4, k5⟩ := rowIn_set (q := n) (os := #[]) hheap hL (ys := delF zs (i' : Int) (j' : Int)) (zs := List.replicate (j' - i') 0) (by rw [hdF, List.length_append, hdl, List.length_replicate]; omega)
     rw [Sort.grow_empty] at k1 k4 k5
     rw [hdF] at k1 k3 k4 k5 ⊢
     obtain ⟨g', hm, hh'⟩ := hI.nextRow hc (w' := (w.drewN n).setCells b 0 ((zs.take i' ++ zs.drop j' ++ List.replicate (j' - i') 0).map (Value.int .i64))) (a' := some ⟨b, 0, none⟩) (cap' := cap) (es' := List.map (cI .i64) (zs.take i' ++ zs.drop j'))
       (fun k hk hne => k4 k hk fun e => hne (by rw [e]; exact hown)) k5 (ints_ok _) (row_in_ok hc0 (by rw [hdl]; omega) k1 k2 k3)
       (fun ad had _ => by injection had with had; subst had; exact ⟨.inr hown, Nat.lt_of_lt_of_le hsep.2.1 k5.size⟩)
     exact ⟨_, rfl, g', hm, by simpa using hidlt, by rw [hh', List.length_map, hdl], rfl⟩
 · cases hr
end
end Go.Abs
