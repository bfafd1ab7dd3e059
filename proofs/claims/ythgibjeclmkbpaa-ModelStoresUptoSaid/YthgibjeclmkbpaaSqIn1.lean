import Derived.Test.YthgibjeclmkbpaaInsW
set_option linter.unusedSimpArgs false
set_option linter.unusedVariables false
namespace Go.Proofs
open Go.RowKit Go.Lib Go.Abs
set_option maxHeartbeats 4000000 in
set_option maxRecDepth 100000 in
theorem Try.ins50_shift (b n c i vb vo vc : Nat) (L : Array Value) (t : TypeId) (vs : List Value) (w : World) (hi : i < n) (hroom : n + 1 ≤ c) (hn63 : n + 1 ≤ 140737488355328) (hvb : vb ≠ b)
    (hh : w.heap[b]? = some (.cells L t (0, 0))) (hL : c ≤ L.size) (hvl : vs.length = 1) (hvs : ∀ j v, vs[j]? = some v → w.cell? ⟨vb, vo + j, none⟩ = some v) (h1c : ∀ v ∈ L.toList.take (n), v.oneCell' = true) (h1v : ∀ v ∈ vs, v.oneCell' = true) :
    Calls Try.prog 50 #[.slice (some ⟨b, 0, none⟩) n c, .int .i64 (i : Int), .slice (some ⟨vb, vo, none⟩) 1 vc] w fun e w' =>
      e = .returned (.slice (some ⟨b, 0, none⟩) (n + 1) c) ∧ w' = (w.drew.setCells b ((i + 1)) ((L.toList.take (n)).drop (i))).setCells b (i) vs := by
  obtain ⟨i0, hi0, hs0, hb0⟩ : ∃ i0, Try.prog.info? 2 = some i0 ∧ i0.size = 1 ∧ i0.bytes = 8 := ⟨_, rfl, rfl, rfl⟩
  have t22 := Try.underlying30
  have u22 := run_underlying t22
  have mixed := Go.Abs.Try.follows
  have z24 : ∀ w, (Go.sizeOf 2).run Try.prog w = .ok 1 w := fun w => by rfl
  have hov : ∀ lb cb, (callFunc 65 #[.slice (some ⟨vb, vo, none⟩) 1 vc, .slice (some ⟨b, (i + 1), none⟩) lb cb]).run Try.prog w = .ok (.value (.bool false)) w := fun lb cb => by
    rw [run_callFunc_extern Try.func65 (by kernel_rfl) (by kernel_rfl) (by kernel_rfl) (e := Extern.SlicesOverlaps.overlaps #[30, 30] #[4]) (by kernel_rfl),
      run_overlaps_free w 30 4 2 t22 1 z24 ⟨vb, vo, none⟩ ⟨b, (i + 1), none⟩ 1 vc lb cb hvb _ vo (hvs 0 _ (List.getElem?_eq_getElem (by omega))) L t hh (by omega)]
    rfl
  have hz2 : ¬ ((i : Int) = (n : Int)) := by omega
  have hw1 : IntKind.i64.wrap ((i : Int) + 1) = (i : Int) + 1 := by rw [IntKind.wrap_i64]; omega
  have hb1 : (0 : Int) ≤ (i : Int) + 1 := by omega
  have hin : i ≤ n := by omega
  have htn : ((i : Int) + 1).toNat = i + 1 := by omega
  have hb2 : ¬ (c = i + 1) := by omega
  have hb3 : (i : Int) ≤ (n : Int) + 1 := by omega
  have hb4 : ¬ (c = i) := by omega
  have hrow : ∀ j, j < (n + 1) → w.cell? ⟨b, j, none⟩ = L[j]? := fun j hj => by simp [World.cell?, hh]
  have hsome : ∀ j, j < (n + 1) → (w.cell? ⟨b, j, none⟩).isSome = true := fun j hj => by rw [hrow j hj, Array.getElem?_eq_getElem (by omega)]; rfl
  have hfz : ∀ j, w.frozen? ⟨b, j, none⟩ = false := fun j => by simp [World.frozen?, hh]
  obtain ⟨cs, hcs⟩ : ∃ cs, cs = (L.toList.take (n)).drop (i) := ⟨_, rfl⟩
  have hcl : cs.length = (n - i) := by rw [hcs, List.length_drop, List.length_take, Array.length_toList]; omega
  have hcg : ∀ j v, cs[j]? = some v → w.cell? ⟨b, i + j, none⟩ = some v := fun j v hj => by
    rw [hcs, List.getElem?_drop, List.getElem?_take] at hj
    split at hj
    · rw [hrow _ (by omega)]; simpa using hj
    · cases hj
  have h1s : ∀ v ∈ cs, v.oneCell' = true := fun v hv => h1c v (by rw [hcs] at hv; exact List.mem_of_mem_drop hv)
  rw [← hcs]
  have hcp1 : ∀ ty dl dc sl sc, n - i = Nat.min sl dl → (Builtin.copy_ #[30, 30] ty #[.slice (some ⟨b, (i + 1), none⟩) dl dc, .slice (some ⟨b, i, none⟩) sl sc]).run Try.prog w.drew = .ok (goInt ((n - i : Nat) : Int)) (w.drew.setCells b ((i + 1)) cs) := fun ty dl dc sl sc hm =>
    run_copy_many w.drew _ _ ty 2 i0 b ((i + 1)) dl dc ⟨b, i, none⟩ sl sc (n - i) cs t22 hi0 hm (by rw [hs0]; omega)
      (fun j v hj => by rw [Addr.add_lit]; exact hcg j v hj) (fun j hj => hsome _ (by omega)) (fun j hj => hfz _) h1s
  obtain ⟨W1, hW1⟩ : ∃ W1, W1 = w.drew.setCells b ((i + 1)) cs := ⟨_, rfl⟩
  have hcp2 : ∀ (W : World), (∀ x, W.cell? x = W1.cell? x) → (∀ x, W.frozen? x = W1.frozen? x) → ∀ ty dl dc, 1 = Nat.min 1 dl → (Builtin.copy_ #[30, 30] ty #[.slice (some ⟨b, i, none⟩) dl dc, .slice (some ⟨vb, vo, none⟩) 1 vc]).run Try.prog W = .ok (goInt ((1 : Nat) : Int)) (W.setCells b (i) vs) := fun W hWc hWf ty dl dc hm =>
    run_copy_many W _ _ ty 2 i0 b (i) dl dc ⟨vb, vo, none⟩ 1 vc 1 vs t22 hi0 hm (by rw [hs0]; omega)
      (fun j v hj => by
        rw [Addr.add_lit, hWc, hW1, World.cell?_setCells_out b _ _ _ _ (fun h _ => absurd h hvb)]
        exact hvs j v hj)
      (fun j hj => by
        have h5 := isSome_setCells b cs ((i + 1)) w.drew (fun k hk => hsome ((i + 1) + k) (by omega)) (i + j) (hsome (i + j) (by omega))
        rw [hWc, hW1]
        exact h5)
      (fun j hj => by rw [hWf, hW1, World.frozen?_setCells]; exact hfz _) h1v
  rw [← hW1] at hcp1
  rw [← hW1]
  clear hrow
  subst hW1
  subst hcs
  have hq : ∀ ty, (Builtin.copy_ #[30, 30] ty #[.slice (some ⟨b, i, none⟩) (n + 1 - i) (c - i), .slice (some ⟨vb, vo, none⟩) 1 vc]).run Try.prog (w.drew.setCells b ((i + 1)) ((L.toList.take (n)).drop (i))) = .ok (goInt ((1 : Nat) : Int)) ((w.drew.setCells b ((i + 1)) ((L.toList.take (n)).drop (i))).setCells b (i) vs) := fun ty => hcp2 _ (fun _ => rfl) (fun _ => rfl) ty (n + 1 - i) (c - i) (by simp only [Nat.min_def]; split <;> omega)
  go_enter Try.func50, Try.ntmps50
  go_wp2_with (simp only [hov])
  go_region_law_o (refine step_copy_runI rfl _ _ 30 30 rfl (.slice (some ⟨b, (i + 1), none⟩) (n + 1 - (i + 1)) (c - (i + 1))) (.slice (some ⟨b, i, none⟩) (n + 1 - i) (c - i)) (by simp [Act.eval, Act.put]) (by simp [Act.eval, Act.put]) (hcp1 _ _ _ _ _ (by simp only [Nat.min_def]; split <;> omega)) ?_)
  go_wp2_with (simp only [hq, Result.andThen_ok])
  go_ret
  exact ⟨rfl, rfl⟩
set_option maxHeartbeats 4000000 in
set_option maxRecDepth 100000 in
theorem Try.ins50_end (b n c vb vo vc : Nat) (L : Array Value) (t : TypeId) (vs : List Value) (w : World) (hroom : n + 1 ≤ c) (hn63 : n + 1 ≤ 140737488355328)
    (hh : w.heap[b]? = some (.cells L t (0, 0))) (hL : c ≤ L.size) (hvl : vs.length = 1) (hvs : ∀ j v, vs[j]? = some v → w.cell? ⟨vb, vo + j, none⟩ = some v) (h1v : ∀ v ∈ vs, v.oneCell' = true) :
    Calls Try.prog 50 #[.slice (some ⟨b, 0, none⟩) n c, .int .i64 (n : Int), .slice (some ⟨vb, vo, none⟩) 1 vc] w fun e w' =>
      e = .returned (.slice (some ⟨b, 0, none⟩) (n + 1) c) ∧ w' = w.setCells b (n) vs := by
  obtain ⟨i0, hi0, hs0, hb0⟩ : ∃ i0, Try.prog.info? 2 = some i0 ∧ i0.size = 1 ∧ i0.bytes = 8 := ⟨_, rfl, rfl, rfl⟩
  have t22 := Try.underlying30
  have u22 := run_underlying t22
  have mixed := Go.Abs.Try.follows
  have z24 : ∀ w, (Go.sizeOf 2).run Try.prog w = .ok 1 w := fun w => by rfl
  have hsrc : Src Try.prog i0.size 30 (.slice (some ⟨vb, vo, none⟩) 1 vc) 1 vs w := Src.ofSlice w t22 ⟨vb, vo, none⟩ 1 vc vs (by omega) (fun j u hj => by rw [Addr.add_lit]; exact hvs j u hj) h1v
  have hap : ∀ ty, (Builtin.append_ #[30, 30] ty #[.slice (some ⟨b, 0, none⟩) n c, .slice (some ⟨vb, vo, none⟩) 1 vc]).run Try.prog w = .ok (.slice (some ⟨b, 0, none⟩) (n + 1) c) (w.setCells b (n) vs) := fun ty => by
    have h := run_append_room_src (P := Try.prog) w 30 30 ty 2 i0 t22 hi0 b 0 n c _ 1 vs hsrc hroom
      (fun j hj => by rw [hs0]; simp [World.cell?, hh]; omega) (fun j hj => by simp [World.frozen?, hh])
    rw [hs0, Nat.zero_add, Nat.mul_one] at h
    exact h
  go_enter Try.func50, Try.ntmps50
  go_wp2_with (at_builtin; refine Lib.wpList_append_run _ rfl _ _ _ _ rfl _ _ rfl rfl _ _ (hap _) ?_)
  go_ret
  exact ⟨rfl, rfl⟩
set_option maxHeartbeats 4000000 in
set_option maxRecDepth 100000 in
theorem Try.ins50_egrow (base : Option Addr) (n c vb vo vc : Nat) (cs vs : List Value) (w : World) (hnc : n ≤ c) (hroom : c < n + 1) (hbig : (n + 1) * 8 ≤ 140737488355328) (hn63 : n + 1 ≤ 140737488355328)
    (hcl : cs.length = n) (hvl : vs.length = 1) (hcs : n = 0 ∨ ∃ b, base = some ⟨b, 0, none⟩ ∧ ∀ j v, cs[j]? = some v → w.cell? ⟨b, j, none⟩ = some v)
    (hvs : ∀ j v, vs[j]? = some v → w.cell? ⟨vb, vo + j, none⟩ = some v) (h1v : ∀ v ∈ vs, v.oneCell' = true) (X : List Value) (hX : X = cs.take (n) ++ vs ++ cs.drop (n)) :
    Calls Try.prog 50 #[.slice base n c, .int .i64 (n : Int), .slice (some ⟨vb, vo, none⟩) 1 vc] w (InsNew 1 n X w) := by
  obtain ⟨i0, z, hi0, hs0, hb0, hz0, hz1⟩ : ∃ i0 z, Try.prog.info? 2 = some i0 ∧ i0.size = 1 ∧ i0.bytes = 8 ∧ i0.zero = some z ∧ z.cells.size = 1 := ⟨_, _, rfl, rfl, rfl, rfl, rfl⟩
  have t22 := Try.underlying30
  have u22 := run_underlying t22
  have mixed := Go.Abs.Try.follows
  have z24 : ∀ w, (Go.sizeOf 2).run Try.prog w = .ok 1 w := fun w => by rfl
  have hsrc : Src Try.prog i0.size 30 (.slice (some ⟨vb, vo, none⟩) 1 vc) 1 vs w := Src.ofSlice w t22 ⟨vb, vo, none⟩ 1 vc vs (by omega) (fun j u hj => by rw [Addr.add_lit]; exact hvs j u hj) h1v
  have hold : (Builtin.firstCells i0.size n (.slice base n c)).run Try.prog w.drew = .ok cs.toArray w.drew := by
    rcases hcs with rfl | ⟨b, rfl, h⟩
    · have h0 : cs = [] := List.length_eq_zero_iff.1 (by omega)
      subst h0
      cases base <;> simp [Builtin.firstCells, loadCells, loadCellsFrom]
    · exact run_firstCells_some w.drew i0.size n ⟨b, 0, none⟩ n c cs (by rw [hs0]; omega) (fun j v hj => by rw [Addr.add_lit, Nat.zero_add]; exact h j v hj)
  have hap := fun ty => run_append_grow_src (P := Try.prog) w 30 30 ty 2 i0 z t22 hi0 hz0 base n c cs hold _ 1 vs hsrc hroom (by omega) (by rw [hb0]; exact growslice_fits hroom hbig)
  obtain ⟨zc, hzc⟩ : ∃ zc, zc = z.cells := ⟨_, rfl⟩
  obtain ⟨R, hR⟩ : ∃ R : Array Value, R = (cs ++ vs).toArray ++ Builtin.zeroCells zc (grownCap w (n + 1) c 2 - (n + 1)) := ⟨_, rfl⟩
  rw [← hzc] at hz1 hap
  rw [← hR] at hap
  obtain ⟨G, hG⟩ : ∃ G, G = grownCap w (n + 1) c 2 := ⟨_, rfl⟩
  have hGn : n + 1 ≤ G ∧ G ≤ 9223372036854775807 := by rw [hG]; exact ⟨grownCap_ge w _ _ _, grownCap_le_maxLen w _ _ _ (by have : maxLen = 9223372036854775807 := rfl; omega)⟩
  rw [← hG] at hap hR
  have AR : Aside (R = _) := hR
  have AX : Aside (X = _) := hX
  clear hG hR hX hzc hold hz0
  go_enter Try.func50, Try.ntmps50
  go_wp2_with (at_builtin; refine Lib.wpList_append_run _ rfl _ _ _ _ rfl _ _ rfl rfl _ _ (hap _) ?_)
  go_ret
  rw [AX.out, AR.out]
  have h0 := insNew_end (sz := 1) (n := n) (w := w) (E := 2) hGn hz1 (by omega : cs.length = n * 1) hvl
  simp only [Nat.mul_one] at h0
  exact h0
set_option maxHeartbeats 4000000 in
set_option maxRecDepth 100000 in
theorem Try.ins50_grow (b n c i vb vo vc : Nat) (cs vs : List Value) (w : World) (hi : i < n) (hnc : n ≤ c) (hroom : c < n + 1) (hbig : (n + 1) * 8 ≤ 140737488355328) (hn63 : n + 1 ≤ 140737488355328)
    (hcl : cs.length = n) (hvl : vs.length = 1) (hcs : ∀ j v, cs[j]? = some v → w.cell? ⟨b, j, none⟩ = some v)
    (hvs : ∀ j v, vs[j]? = some v → w.cell? ⟨vb, vo + j, none⟩ = some v) (h1c : ∀ v ∈ cs, v.oneCell' = true) (h1v : ∀ v ∈ vs, v.oneCell' = true) (X : List Value) (hX : X = cs.take (i) ++ vs ++ cs.drop (i)) :
    Calls Try.prog 50 #[.slice (some ⟨b, 0, none⟩) n c, .int .i64 (i : Int), .slice (some ⟨vb, vo, none⟩) 1 vc] w (InsNew 1 n X w) := by
  obtain ⟨i0, z, hi0, hs0, hb0, hz0, hz1⟩ : ∃ i0 z, Try.prog.info? 2 = some i0 ∧ i0.size = 1 ∧ i0.bytes = 8 ∧ i0.zero = some z ∧ z.cells.size = 1 := ⟨_, _, rfl, rfl, rfl, rfl, rfl⟩
  have t22 := Try.underlying30
  have u22 := run_underlying t22
  have t3 : Try.prog.underlying 3 = some (.int .i64) := rfl
  have mixed := Go.Abs.Try.follows
  have z24 : ∀ w, (Go.sizeOf 2).run Try.prog w = .ok 1 w := fun w => by rfl
  have hz2 : ¬ ((i : Int) = (n : Int)) := by omega
  have hz3 : (c : Int) < (n : Int) + 1 := by omega
  have hbw : b < w.heap.size := block_lt_of_cell (hcs 0 _ (List.getElem?_eq_getElem (by omega)))
  have hvw : vb < w.heap.size := block_lt_of_cell (hvs 0 _ (List.getElem?_eq_getElem (by omega)))
  have hkk : (n : Int) + 1 - (i : Int) = ((n + 1 - i : Nat) : Int) := by omega
  have hik : i + (n + 1 - i) = n + 1 := by omega
  have hold : (Builtin.firstCells i0.size i (.slice (some ⟨b, 0, none⟩) i c)).run Try.prog w.drew = .ok (cs.take (i)).toArray w.drew :=
    run_firstCells_some w.drew i0.size i ⟨b, 0, none⟩ i c (cs.take (i)) (by rw [hs0, List.length_take]; omega) (fun j v hj => by
      rw [Addr.add_lit, Nat.zero_add]
      rw [List.getElem?_take] at hj
      split at hj
      · exact hcs j v hj
      · cases hj)
  obtain ⟨G, hG⟩ : ∃ G, G = grownCap w (n + 1) c 2 := ⟨_, rfl⟩
  have hGn : n + 1 ≤ G ∧ G ≤ 9223372036854775807 := by rw [hG]; exact ⟨grownCap_ge w _ _ _, grownCap_le_maxLen w _ _ _ (by have : maxLen = 9223372036854775807 := rfl; omega)⟩
  obtain ⟨zc, hzc⟩ : ∃ zc, zc = z.cells := ⟨_, rfl⟩
  obtain ⟨R, hR⟩ : ∃ R : Array Value, R = (cs.take (i)).toArray ++ Builtin.zeroCells zc (n + 1 - i) ++ Builtin.zeroCells zc (G - (n + 1)) := ⟨_, rfl⟩
  rw [← hzc] at hz1
  have hrz : ∀ ty, (Builtin.append_ #[30, 3] ty #[.slice (some ⟨b, 0, none⟩) i c, .int .i64 ((n : Int) + 1 - (i : Int))]).run Try.prog w = .ok (.slice (some ⟨w.heap.size, 0, none⟩) (n + 1) G) (w.drew.alloc (.cells R 2)) := fun ty => by
    have h := Lib.run_append_grow_zeros w 30 3 ty 2 i0 z .i64 .i64 t22 t3 hi0 hz0 (some ⟨b, 0, none⟩) i c _ hold (n + 1 - i) (by omega) (by omega) (by omega) (by omega) (by rw [hb0]; omega) (by rw [hb0, hik]; exact growslice_fits hroom hbig)
    rw [hik, ← hG, ← hzc, ← hR] at h
    rw [hkk]
    exact h
  have hRl : (n + 1) ≤ R.size := by
    rw [hR]
    simp [Builtin.zeroCells, hz1, hcl, Nat.min_eq_left (Nat.le_of_lt hi)]
    try omega
  have hN : ∀ j, j < (n + 1) → (((w.alloc (.cells R 2)).drew).cell? ⟨w.heap.size, j, none⟩).isSome = true := fun j hj => by
    show ((w.alloc (.cells R 2)).cell? ⟨w.heap.size, j, none⟩).isSome = true
    rw [World.cell?_alloc_at (w := w) R _ w.heap.size j rfl, Array.getElem?_eq_getElem (by omega)]; rfl
  have hNf : ∀ j, ((w.alloc (.cells R 2)).drew).frozen? ⟨w.heap.size, j, none⟩ = false := fun j => World.frozen?_alloc_at (w := w) R _ w.heap.size j rfl
  have hOb : ∀ j v, w.cell? ⟨b, j, none⟩ = some v → ((w.alloc (.cells R 2)).drew).cell? ⟨b, j, none⟩ = some v := fun j v h => (World.cell?_alloc_past (w := w) _ b j hbw).trans h
  have hOv : ∀ j v, w.cell? ⟨vb, j, none⟩ = some v → ((w.alloc (.cells R 2)).drew).cell? ⟨vb, j, none⟩ = some v := fun j v h => (World.cell?_alloc_past (w := w) _ vb j hvw).trans h
  have hcpA : ∀ (ty dc : Nat), (Builtin.copy_ #[30, 30] ty #[.slice (some ⟨w.heap.size, i, none⟩) (n + 1 - i) dc, .slice (some ⟨vb, vo, none⟩) 1 vc]).run Try.prog ((w.alloc (.cells R 2)).drew) = .ok (goInt ((1 : Nat) : Int)) (((w.alloc (.cells R 2)).drew).setCells w.heap.size (i) vs) := fun ty dc =>
    run_copy_many _ _ _ ty 2 i0 w.heap.size (i) (n + 1 - i) dc ⟨vb, vo, none⟩ 1 vc 1 vs t22 hi0 (by simp only [Nat.min_def]; split <;> omega) (by rw [hs0]; omega)
      (fun j v hj => by rw [Addr.add_lit]; exact hOv _ v (hvs j v hj)) (fun j hj => hN _ (by omega)) (fun j hj => hNf _) h1v
  have hdl : (cs.drop (i)).length = (n - i) := by rw [List.length_drop]; omega
  have hcpB : ∀ (W : World), W.heap = (((w.alloc (.cells R 2)).drew).setCells w.heap.size (i) vs).heap → ∀ (ty dl dc sl sc : Nat), n - i = Nat.min sl dl →
      (Builtin.copy_ #[30, 30] ty #[.slice (some ⟨w.heap.size, (i + 1), none⟩) dl dc, .slice (some ⟨b, i, none⟩) sl sc]).run Try.prog W = .ok (goInt ((n - i : Nat) : Int)) (W.setCells w.heap.size ((i + 1)) (cs.drop (i))) := fun W hW ty dl dc sl sc hm =>
    run_copy_many _ _ _ ty 2 i0 w.heap.size ((i + 1)) dl dc ⟨b, i, none⟩ sl sc (n - i) (cs.drop (i)) t22 hi0 hm (by rw [hs0]; omega)
      (fun j v hj => by
        rw [Addr.add_lit, World.cell?_of_block (w := ((w.alloc (.cells R 2)).drew).setCells w.heap.size (i) vs) (w' := W) (a := ⟨b, i + j, none⟩) (by rw [hW]), World.cell?_setCells_out _ _ _ _ _ (fun h _ => absurd h (by simp; omega))]
        exact hOb _ v (hcs (i + j) v (by rwa [List.getElem?_drop] at hj)))
      (fun j hj => by
        rw [World.cell?_of_block (w := ((w.alloc (.cells R 2)).drew).setCells w.heap.size (i) vs) (w' := W) (a := ⟨w.heap.size, (i + 1) + j, none⟩) (by rw [hW])]
        exact isSome_setCells w.heap.size vs (i) _ (fun k hk => hN _ (by omega)) _ (hN _ (by omega)))
      (fun j hj => by
        have : W.frozen? ⟨w.heap.size, (i + 1) + j, none⟩ = (((w.alloc (.cells R 2)).drew).setCells w.heap.size (i) vs).frozen? ⟨w.heap.size, (i + 1) + j, none⟩ := by unfold World.frozen?; rw [hW]
        rw [this, World.frozen?_setCells]; exact hNf _) (fun v hv => h1c v (List.mem_of_mem_drop hv))
  have hw1 : IntKind.i64.wrap ((i : Int) + 1) = (i : Int) + 1 := by rw [IntKind.wrap_i64]; omega
  have hb1 : (0 : Int) ≤ (i : Int) + 1 := by omega
  have hin : i ≤ n := by omega
  have htn : ((i : Int) + 1).toNat = i + 1 := by omega
  have hb3 : (i : Int) ≤ (n : Int) := by omega
  have hGi : ¬ (G = i) := by omega
  have hGim : ¬ (G = i + 1) := by omega
  have hci : ¬ (c = i) := by omega
  have AR : Aside (R = _) := hR
  have AX : Aside (X = _) := hX
  clear hkk hik hold hG hRl hR hX hzc hz0
  go_enter Try.func50, Try.ntmps50
  go_wp2_with (first | (at_builtin; refine Lib.wpList_append_run _ rfl _ _ _ _ rfl _ _ rfl rfl _ _ (hrz _) ?_) | simp only [hcpA, Result.andThen_ok])
  go_region_law_o (refine step_copy_runI rfl _ _ 30 30 rfl (.slice (some ⟨w.heap.size, (i + 1), none⟩) (n + 1 - (i + 1)) (G - (i + 1))) (.slice (some ⟨b, i, none⟩) (n - i) (c - i)) (by simp [Act.eval, Act.put]) (by simp [Act.eval, Act.put]) (hcpB _ (by rfl) _ _ _ _ _ (by simp only [Nat.min_def]; split <;> omega)) ?_)
  go_wp2
  go_ret
  rw [AX.out, AR.out]
  have h0 := insNew_grow (sz := 1) (n := n) (i := i) (w := w) (E := 2) hin hGn hz1 (by omega : cs.length = n * 1) hvl
  simp only [Nat.mul_one] at h0
  exact h0
end Go.Proofs
namespace Go.Abs.Try
theorem ins50 (args : List AV) (σ : Store) (v : AV) (σ' : Store) (hr : insertT 1 8 args σ = some (v, σ')) : CallOk Proofs.Try.prog 50 args σ v σ' :=
 insert_ok Proofs.Try.func50 (c := Proofs.Try.f50.body.get rfl) rfl (by decide) (by decide)
   (fun b n cp i vb vo vc L t vs w hi hroom hn63 hvb hh hL hvl hvs h1c h1v => by
     rw [Nat.mul_one] at h1c
     rcases Nat.lt_or_ge i n with h | h
     · refine (Proofs.Try.ins50_shift b n cp i vb vo vc L t vs w h hroom hn63 hvb hh (by omega) hvl hvs h1c h1v).mono ?_
       rintro e w' ⟨rfl, rfl⟩
       have h0 := insOld_shift (sz := 1) hi hroom hh hL hvl
       simpa only [Nat.mul_one] using h0
     · have h : i = n := Nat.le_antisymm hi h
       subst h
       refine (Proofs.Try.ins50_end b i cp vb vo vc L t vs w hroom hn63 hh (by omega) hvl hvs h1v).mono ?_
       rintro e w' ⟨rfl, rfl⟩
       have h0 := insOld_end (sz := 1) hroom hh hL hvl
       simpa only [Nat.mul_one] using h0)
   (fun base n cp i vb vo vc cs vs w hi hnc hroom hbig hn63 hcl hvl hcs hvs h1c h1v => by
     rw [Nat.mul_one] at hcl
     rcases Nat.lt_or_ge i n with h | h
     · obtain ⟨b, rfl, hcs2⟩ := hcs.resolve_left (by omega)
       exact Proofs.Try.ins50_grow b n cp i vb vo vc cs vs w h hnc hroom hbig hn63 hcl hvl hcs2 hvs h1c h1v _ (by simp only [Nat.mul_one])
     · have h : i = n := Nat.le_antisymm hi h
       subst h
       exact Proofs.Try.ins50_egrow base i cp vb vo vc cs vs w hnc hroom hbig hn63 hcl hvl hcs hvs h1v _ (by simp only [Nat.mul_one]))
   args σ v σ' hr
@[reducible] def F1055 (l : List Int) (i : Int) (v : List Int) : Option (List Int) := insF 8 l i v
def te50 : TE Proofs.Try.prog := ⟨50, insertT 1 8, false, ins50, fun h => by cases h⟩
end Go.Abs.Try
