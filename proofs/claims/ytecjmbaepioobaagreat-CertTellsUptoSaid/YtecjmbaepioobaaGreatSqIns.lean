import Derived.Test.YtecjmbaepioobaaGreatInsW
set_option linter.unusedSimpArgs false
set_option linter.unusedVariables false
namespace Go.Proofs
open Go.RowKit Go.Lib Go.Abs
set_option maxHeartbeats 4000000 in
set_option maxRecDepth 100000 in
theorem Tryz.ins44_shift (b n c i vb vo vc : Nat) (L : Array Value) (t : TypeId) (vs : List Value) (w : World) (hi : i < n) (hroom : n + 1 ≤ c) (hn63 : n + 1 ≤ 140737488355328) (hvb : vb ≠ b)
    (hh : w.heap[b]? = some (.cells L t (0, 0))) (hL : c * 5 ≤ L.size) (hvl : vs.length = 5) (hvs : ∀ j v, vs[j]? = some v → w.cell? ⟨vb, vo + j, none⟩ = some v) (h1c : ∀ v ∈ L.toList.take (n * 5), v.oneCell' = true) (h1v : ∀ v ∈ vs, v.oneCell' = true) :
    Calls Tryz.prog 44 #[.slice (some ⟨b, 0, none⟩) n c, .int .i64 (i : Int), .slice (some ⟨vb, vo, none⟩) 1 vc] w fun e w' =>
      e = .returned (.slice (some ⟨b, 0, none⟩) (n + 1) c) ∧ w' = (w.drew.setCells b ((i + 1) * 5) ((L.toList.take (n * 5)).drop (i * 5))).setCells b (i * 5) vs := by
  obtain ⟨i0, hi0, hs0, hb0⟩ : ∃ i0, Tryz.prog.info? 24 = some i0 ∧ i0.size = 5 ∧ i0.bytes = 64 := ⟨_, rfl, rfl, rfl⟩
  have t22 := Tryz.underlying22
  have u22 := run_underlying t22
  have mixed := Go.Abs.Try.follows
  have z24 : ∀ w, (Go.sizeOf 24).run Tryz.prog w = .ok 5 w := fun w => by rfl
  have hov : ∀ lb cb, (callFunc 71 #[.slice (some ⟨vb, vo, none⟩) 1 vc, .slice (some ⟨b, (i + 1) * 5, none⟩) lb cb]).run Tryz.prog w = .ok (.value (.bool false)) w := fun lb cb => by
    rw [run_callFunc_extern Tryz.func71 (by kernel_rfl) (by kernel_rfl) (by kernel_rfl) (e := Extern.SlicesOverlaps.overlaps #[22, 22] #[4]) (by kernel_rfl),
      run_overlaps_free w 22 4 24 t22 5 z24 ⟨vb, vo, none⟩ ⟨b, (i + 1) * 5, none⟩ 1 vc lb cb hvb _ vo (hvs 0 _ (List.getElem?_eq_getElem (by omega))) L t hh (by omega)]
    rfl
  have hz2 : ¬ ((i : Int) = (n : Int)) := by omega
  have hw1 : IntKind.i64.wrap ((i : Int) + 1) = (i : Int) + 1 := by rw [IntKind.wrap_i64]; omega
  have hb1 : (0 : Int) ≤ (i : Int) + 1 := by omega
  have hin : i ≤ n := by omega
  have htn : ((i : Int) + 1).toNat = i + 1 := by omega
  have hb2 : ¬ (c = i + 1) := by omega
  have hb3 : (i : Int) ≤ (n : Int) + 1 := by omega
  have hb4 : ¬ (c = i) := by omega
  have hrow : ∀ j, j < (n + 1) * 5 → w.cell? ⟨b, j, none⟩ = L[j]? := fun j hj => by simp [World.cell?, hh]
  have hsome : ∀ j, j < (n + 1) * 5 → (w.cell? ⟨b, j, none⟩).isSome = true := fun j hj => by rw [hrow j hj, Array.getElem?_eq_getElem (by omega)]; rfl
  have hfz : ∀ j, w.frozen? ⟨b, j, none⟩ = false := fun j => by simp [World.frozen?, hh]
  obtain ⟨cs, hcs⟩ : ∃ cs, cs = (L.toList.take (n * 5)).drop (i * 5) := ⟨_, rfl⟩
  have hcl : cs.length = (n - i) * 5 := by rw [hcs, List.length_drop, List.length_take, Array.length_toList]; omega
  have hcg : ∀ j v, cs[j]? = some v → w.cell? ⟨b, i * 5 + j, none⟩ = some v := fun j v hj => by
    rw [hcs, List.getElem?_drop, List.getElem?_take] at hj
    split at hj
    · rw [hrow _ (by omega)]; simpa using hj
    · cases hj
  have h1s : ∀ v ∈ cs, v.oneCell' = true := fun v hv => h1c v (by rw [hcs] at hv; exact List.mem_of_mem_drop hv)
  rw [← hcs]
  have hcp1 : ∀ ty dl dc sl sc, n - i = Nat.min sl dl → (Builtin.copy_ #[22, 22] ty #[.slice (some ⟨b, (i + 1) * 5, none⟩) dl dc, .slice (some ⟨b, i * 5, none⟩) sl sc]).run Tryz.prog w.drew = .ok (goInt ((n - i : Nat) : Int)) (w.drew.setCells b ((i + 1) * 5) cs) := fun ty dl dc sl sc hm =>
    run_copy_many w.drew _ _ ty 24 i0 b ((i + 1) * 5) dl dc ⟨b, i * 5, none⟩ sl sc (n - i) cs t22 hi0 hm (by rw [hs0]; exact hcl)
      (fun j v hj => by rw [Addr.add_lit]; exact hcg j v hj) (fun j hj => hsome _ (by omega)) (fun j hj => hfz _) h1s
  obtain ⟨W1, hW1⟩ : ∃ W1, W1 = w.drew.setCells b ((i + 1) * 5) cs := ⟨_, rfl⟩
  have hcp2 : ∀ (W : World), (∀ x, W.cell? x = W1.cell? x) → (∀ x, W.frozen? x = W1.frozen? x) → ∀ ty dl dc, 1 = Nat.min 1 dl → (Builtin.copy_ #[22, 22] ty #[.slice (some ⟨b, i * 5, none⟩) dl dc, .slice (some ⟨vb, vo, none⟩) 1 vc]).run Tryz.prog W = .ok (goInt ((1 : Nat) : Int)) (W.setCells b (i * 5) vs) := fun W hWc hWf ty dl dc hm =>
    run_copy_many W _ _ ty 24 i0 b (i * 5) dl dc ⟨vb, vo, none⟩ 1 vc 1 vs t22 hi0 hm (by rw [hs0]; omega)
      (fun j v hj => by
        rw [Addr.add_lit, hWc, hW1, World.cell?_setCells_out b _ _ _ _ (fun h _ => absurd h hvb)]
        exact hvs j v hj)
      (fun j hj => by
        have h5 := isSome_setCells b cs ((i + 1) * 5) w.drew (fun k hk => hsome ((i + 1) * 5 + k) (by omega)) (i * 5 + j) (hsome (i * 5 + j) (by omega))
        rw [hWc, hW1]
        exact h5)
      (fun j hj => by rw [hWf, hW1, World.frozen?_setCells]; exact hfz _) h1v
  rw [← hW1] at hcp1
  rw [← hW1]
  clear hrow
  subst hW1
  subst hcs
  have hq : ∀ ty, (Builtin.copy_ #[22, 22] ty #[.slice (some ⟨b, i * 5, none⟩) (n + 1 - i) (c - i), .slice (some ⟨vb, vo, none⟩) 1 vc]).run Tryz.prog (w.drew.setCells b ((i + 1) * 5) ((L.toList.take (n * 5)).drop (i * 5))) = .ok (goInt ((1 : Nat) : Int)) ((w.drew.setCells b ((i + 1) * 5) ((L.toList.take (n * 5)).drop (i * 5))).setCells b (i * 5) vs) := fun ty => hcp2 _ (fun _ => rfl) (fun _ => rfl) ty (n + 1 - i) (c - i) (by simp only [Nat.min_def]; split <;> omega)
  go_enter Tryz.func44, Tryz.ntmps44
  go_wp2_with (simp only [hov])
  go_region_law_o (refine step_copy_runI rfl _ _ 22 22 rfl (.slice (some ⟨b, (i + 1) * 5, none⟩) (n + 1 - (i + 1)) (c - (i + 1))) (.slice (some ⟨b, i * 5, none⟩) (n + 1 - i) (c - i)) (by simp [Act.eval, Act.put]) (by simp [Act.eval, Act.put]) (hcp1 _ _ _ _ _ (by simp only [Nat.min_def]; split <;> omega)) ?_)
  go_wp2_with (simp only [hq, Result.andThen_ok])
  go_ret
  exact ⟨rfl, rfl⟩
set_option maxHeartbeats 4000000 in
set_option maxRecDepth 100000 in
theorem Tryz.ins44_end (b n c vb vo vc : Nat) (L : Array Value) (t : TypeId) (vs : List Value) (w : World) (hroom : n + 1 ≤ c) (hn63 : n + 1 ≤ 140737488355328)
    (hh : w.heap[b]? = some (.cells L t (0, 0))) (hL : c * 5 ≤ L.size) (hvl : vs.length = 5) (hvs : ∀ j v, vs[j]? = some v → w.cell? ⟨vb, vo + j, none⟩ = some v) (h1v : ∀ v ∈ vs, v.oneCell' = true) :
    Calls Tryz.prog 44 #[.slice (some ⟨b, 0, none⟩) n c, .int .i64 (n : Int), .slice (some ⟨vb, vo, none⟩) 1 vc] w fun e w' =>
      e = .returned (.slice (some ⟨b, 0, none⟩) (n + 1) c) ∧ w' = w.setCells b (n * 5) vs := by
  obtain ⟨i0, hi0, hs0, hb0⟩ : ∃ i0, Tryz.prog.info? 24 = some i0 ∧ i0.size = 5 ∧ i0.bytes = 64 := ⟨_, rfl, rfl, rfl⟩
  have t22 := Tryz.underlying22
  have u22 := run_underlying t22
  have mixed := Go.Abs.Try.follows
  have z24 : ∀ w, (Go.sizeOf 24).run Tryz.prog w = .ok 5 w := fun w => by rfl
  have hsrc : Src Tryz.prog i0.size 22 (.slice (some ⟨vb, vo, none⟩) 1 vc) 1 vs w := Src.ofSlice w t22 ⟨vb, vo, none⟩ 1 vc vs (by omega) (fun j u hj => by rw [Addr.add_lit]; exact hvs j u hj) h1v
  have hap : ∀ ty, (Builtin.append_ #[22, 22] ty #[.slice (some ⟨b, 0, none⟩) n c, .slice (some ⟨vb, vo, none⟩) 1 vc]).run Tryz.prog w = .ok (.slice (some ⟨b, 0, none⟩) (n + 1) c) (w.setCells b (n * 5) vs) := fun ty => by
    have h := run_append_room_src (P := Tryz.prog) w 22 22 ty 24 i0 t22 hi0 b 0 n c _ 1 vs hsrc hroom
      (fun j hj => by rw [hs0]; simp [World.cell?, hh]; omega) (fun j hj => by simp [World.frozen?, hh])
    rw [hs0, Nat.zero_add] at h
    exact h
  go_enter Tryz.func44, Tryz.ntmps44
  go_wp2_with (at_builtin; refine Lib.wpList_append_run _ rfl _ _ _ _ rfl _ _ rfl rfl _ _ (hap _) ?_)
  go_ret
  exact ⟨rfl, rfl⟩
set_option maxHeartbeats 4000000 in
set_option maxRecDepth 100000 in
theorem Tryz.ins44_egrow (base : Option Addr) (n c vb vo vc : Nat) (cs vs : List Value) (w : World) (hnc : n ≤ c) (hroom : c < n + 1) (hbig : (n + 1) * 64 ≤ 140737488355328) (hn63 : n + 1 ≤ 140737488355328)
    (hcl : cs.length = n * 5) (hvl : vs.length = 5) (hcs : n = 0 ∨ ∃ b, base = some ⟨b, 0, none⟩ ∧ ∀ j v, cs[j]? = some v → w.cell? ⟨b, j, none⟩ = some v)
    (hvs : ∀ j v, vs[j]? = some v → w.cell? ⟨vb, vo + j, none⟩ = some v) (h1v : ∀ v ∈ vs, v.oneCell' = true) (X : List Value) (hX : X = cs.take (n * 5) ++ vs ++ cs.drop (n * 5)) :
    Calls Tryz.prog 44 #[.slice base n c, .int .i64 (n : Int), .slice (some ⟨vb, vo, none⟩) 1 vc] w (InsNew 5 n X w) := by
  obtain ⟨i0, z, hi0, hs0, hb0, hz0, hz1⟩ : ∃ i0 z, Tryz.prog.info? 24 = some i0 ∧ i0.size = 5 ∧ i0.bytes = 64 ∧ i0.zero = some z ∧ z.cells.size = 5 := ⟨_, _, rfl, rfl, rfl, rfl, rfl⟩
  have t22 := Tryz.underlying22
  have u22 := run_underlying t22
  have mixed := Go.Abs.Try.follows
  have z24 : ∀ w, (Go.sizeOf 24).run Tryz.prog w = .ok 5 w := fun w => by rfl
  have hsrc : Src Tryz.prog i0.size 22 (.slice (some ⟨vb, vo, none⟩) 1 vc) 1 vs w := Src.ofSlice w t22 ⟨vb, vo, none⟩ 1 vc vs (by omega) (fun j u hj => by rw [Addr.add_lit]; exact hvs j u hj) h1v
  have hold : (Builtin.firstCells i0.size n (.slice base n c)).run Tryz.prog w.drew = .ok cs.toArray w.drew := by
    rcases hcs with rfl | ⟨b, rfl, h⟩
    · have h0 : cs = [] := List.length_eq_zero_iff.1 (by omega)
      subst h0
      cases base <;> simp [Builtin.firstCells, loadCells, loadCellsFrom]
    · exact run_firstCells_some w.drew i0.size n ⟨b, 0, none⟩ n c cs (by rw [hs0]; exact hcl) (fun j v hj => by rw [Addr.add_lit, Nat.zero_add]; exact h j v hj)
  have hap := fun ty => run_append_grow_src (P := Tryz.prog) w 22 22 ty 24 i0 z t22 hi0 hz0 base n c cs hold _ 1 vs hsrc hroom (by omega) (by rw [hb0]; exact growslice_fits hroom hbig)
  obtain ⟨zc, hzc⟩ : ∃ zc, zc = z.cells := ⟨_, rfl⟩
  obtain ⟨R, hR⟩ : ∃ R : Array Value, R = (cs ++ vs).toArray ++ Builtin.zeroCells zc (grownCap w (n + 1) c 24 - (n + 1)) := ⟨_, rfl⟩
  rw [← hzc] at hz1 hap
  rw [← hR] at hap
  obtain ⟨G, hG⟩ : ∃ G, G = grownCap w (n + 1) c 24 := ⟨_, rfl⟩
  have hGn : n + 1 ≤ G ∧ G ≤ 9223372036854775807 := by rw [hG]; exact ⟨grownCap_ge w _ _ _, grownCap_le_maxLen w _ _ _ (by have : maxLen = 9223372036854775807 := rfl; omega)⟩
  rw [← hG] at hap hR
  have AR : Aside (R = _) := hR
  have AX : Aside (X = _) := hX
  clear hG hR hX hzc hold hz0
  go_enter Tryz.func44, Tryz.ntmps44
  go_wp2_with (at_builtin; refine Lib.wpList_append_run _ rfl _ _ _ _ rfl _ _ rfl rfl _ _ (hap _) ?_)
  go_ret
  rw [AX.out, AR.out]
  exact insNew_end hGn hz1 hcl hvl
set_option maxHeartbeats 4000000 in
set_option maxRecDepth 100000 in
theorem Tryz.ins44_grow (b n c i vb vo vc : Nat) (cs vs : List Value) (w : World) (hi : i < n) (hnc : n ≤ c) (hroom : c < n + 1) (hbig : (n + 1) * 64 ≤ 140737488355328) (hn63 : n + 1 ≤ 140737488355328)
    (hcl : cs.length = n * 5) (hvl : vs.length = 5) (hcs : ∀ j v, cs[j]? = some v → w.cell? ⟨b, j, none⟩ = some v)
    (hvs : ∀ j v, vs[j]? = some v → w.cell? ⟨vb, vo + j, none⟩ = some v) (h1c : ∀ v ∈ cs, v.oneCell' = true) (h1v : ∀ v ∈ vs, v.oneCell' = true) (X : List Value) (hX : X = cs.take (i * 5) ++ vs ++ cs.drop (i * 5)) :
    Calls Tryz.prog 44 #[.slice (some ⟨b, 0, none⟩) n c, .int .i64 (i : Int), .slice (some ⟨vb, vo, none⟩) 1 vc] w (InsNew 5 n X w) := by
  obtain ⟨i0, z, hi0, hs0, hb0, hz0, hz1⟩ : ∃ i0 z, Tryz.prog.info? 24 = some i0 ∧ i0.size = 5 ∧ i0.bytes = 64 ∧ i0.zero = some z ∧ z.cells.size = 5 := ⟨_, _, rfl, rfl, rfl, rfl, rfl⟩
  have t22 := Tryz.underlying22
  have u22 := run_underlying t22
  have t3 : Tryz.prog.underlying 3 = some (.int .i64) := rfl
  have mixed := Go.Abs.Try.follows
  have z24 : ∀ w, (Go.sizeOf 24).run Tryz.prog w = .ok 5 w := fun w => by rfl
  have hz2 : ¬ ((i : Int) = (n : Int)) := by omega
  have hz3 : (c : Int) < (n : Int) + 1 := by omega
  have hbw : b < w.heap.size := block_lt_of_cell (hcs 0 _ (List.getElem?_eq_getElem (by omega)))
  have hvw : vb < w.heap.size := block_lt_of_cell (hvs 0 _ (List.getElem?_eq_getElem (by omega)))
  have hkk : (n : Int) + 1 - (i : Int) = ((n + 1 - i : Nat) : Int) := by omega
  have hik : i + (n + 1 - i) = n + 1 := by omega
  have hold : (Builtin.firstCells i0.size i (.slice (some ⟨b, 0, none⟩) i c)).run Tryz.prog w.drew = .ok (cs.take (i * 5)).toArray w.drew :=
    run_firstCells_some w.drew i0.size i ⟨b, 0, none⟩ i c (cs.take (i * 5)) (by rw [hs0, List.length_take]; omega) (fun j v hj => by
      rw [Addr.add_lit, Nat.zero_add]
      rw [List.getElem?_take] at hj
      split at hj
      · exact hcs j v hj
      · cases hj)
  obtain ⟨G, hG⟩ : ∃ G, G = grownCap w (n + 1) c 24 := ⟨_, rfl⟩
  have hGn : n + 1 ≤ G ∧ G ≤ 9223372036854775807 := by rw [hG]; exact ⟨grownCap_ge w _ _ _, grownCap_le_maxLen w _ _ _ (by have : maxLen = 9223372036854775807 := rfl; omega)⟩
  obtain ⟨zc, hzc⟩ : ∃ zc, zc = z.cells := ⟨_, rfl⟩
  obtain ⟨R, hR⟩ : ∃ R : Array Value, R = (cs.take (i * 5)).toArray ++ Builtin.zeroCells zc (n + 1 - i) ++ Builtin.zeroCells zc (G - (n + 1)) := ⟨_, rfl⟩
  rw [← hzc] at hz1
  have hrz : ∀ ty, (Builtin.append_ #[22, 3] ty #[.slice (some ⟨b, 0, none⟩) i c, .int .i64 ((n : Int) + 1 - (i : Int))]).run Tryz.prog w = .ok (.slice (some ⟨w.heap.size, 0, none⟩) (n + 1) G) (w.drew.alloc (.cells R 24)) := fun ty => by
    have h := Lib.run_append_grow_zeros w 22 3 ty 24 i0 z .i64 .i64 t22 t3 hi0 hz0 (some ⟨b, 0, none⟩) i c _ hold (n + 1 - i) (by omega) (by omega) (by omega) (by omega) (by rw [hb0]; omega) (by rw [hb0, hik]; exact growslice_fits hroom hbig)
    rw [hik, ← hG, ← hzc, ← hR] at h
    rw [hkk]
    exact h
  have hRl : (n + 1) * 5 ≤ R.size := by
    rw [hR]
    simp [Builtin.zeroCells, hz1, hcl, Nat.min_eq_left (Nat.le_of_lt hi)]
    omega
  have hN : ∀ j, j < (n + 1) * 5 → (((w.alloc (.cells R 24)).drew).cell? ⟨w.heap.size, j, none⟩).isSome = true := fun j hj => by
    show ((w.alloc (.cells R 24)).cell? ⟨w.heap.size, j, none⟩).isSome = true
    rw [World.cell?_alloc_at (w := w) R _ w.heap.size j rfl, Array.getElem?_eq_getElem (by omega)]; rfl
  have hNf : ∀ j, ((w.alloc (.cells R 24)).drew).frozen? ⟨w.heap.size, j, none⟩ = false := fun j => World.frozen?_alloc_at (w := w) R _ w.heap.size j rfl
  have hOb : ∀ j v, w.cell? ⟨b, j, none⟩ = some v → ((w.alloc (.cells R 24)).drew).cell? ⟨b, j, none⟩ = some v := fun j v h => (World.cell?_alloc_past (w := w) _ b j hbw).trans h
  have hOv : ∀ j v, w.cell? ⟨vb, j, none⟩ = some v → ((w.alloc (.cells R 24)).drew).cell? ⟨vb, j, none⟩ = some v := fun j v h => (World.cell?_alloc_past (w := w) _ vb j hvw).trans h
  have hcpA : ∀ (ty dc : Nat), (Builtin.copy_ #[22, 22] ty #[.slice (some ⟨w.heap.size, i * 5, none⟩) (n + 1 - i) dc, .slice (some ⟨vb, vo, none⟩) 1 vc]).run Tryz.prog ((w.alloc (.cells R 24)).drew) = .ok (goInt ((1 : Nat) : Int)) (((w.alloc (.cells R 24)).drew).setCells w.heap.size (i * 5) vs) := fun ty dc =>
    run_copy_many _ _ _ ty 24 i0 w.heap.size (i * 5) (n + 1 - i) dc ⟨vb, vo, none⟩ 1 vc 1 vs t22 hi0 (by simp only [Nat.min_def]; split <;> omega) (by rw [hs0]; omega)
      (fun j v hj => by rw [Addr.add_lit]; exact hOv _ v (hvs j v hj)) (fun j hj => hN _ (by omega)) (fun j hj => hNf _) h1v
  have hdl : (cs.drop (i * 5)).length = (n - i) * 5 := by rw [List.length_drop, hcl]; omega
  have hcpB : ∀ (W : World), W.heap = (((w.alloc (.cells R 24)).drew).setCells w.heap.size (i * 5) vs).heap → ∀ (ty dl dc sl sc : Nat), n - i = Nat.min sl dl →
      (Builtin.copy_ #[22, 22] ty #[.slice (some ⟨w.heap.size, (i + 1) * 5, none⟩) dl dc, .slice (some ⟨b, i * 5, none⟩) sl sc]).run Tryz.prog W = .ok (goInt ((n - i : Nat) : Int)) (W.setCells w.heap.size ((i + 1) * 5) (cs.drop (i * 5))) := fun W hW ty dl dc sl sc hm =>
    run_copy_many _ _ _ ty 24 i0 w.heap.size ((i + 1) * 5) dl dc ⟨b, i * 5, none⟩ sl sc (n - i) (cs.drop (i * 5)) t22 hi0 hm (by rw [hs0]; exact hdl)
      (fun j v hj => by
        rw [Addr.add_lit, World.cell?_of_block (w := ((w.alloc (.cells R 24)).drew).setCells w.heap.size (i * 5) vs) (w' := W) (a := ⟨b, i * 5 + j, none⟩) (by rw [hW]), World.cell?_setCells_out _ _ _ _ _ (fun h _ => absurd h (by simp; omega))]
        exact hOb _ v (hcs (i * 5 + j) v (by rwa [List.getElem?_drop] at hj)))
      (fun j hj => by
        rw [World.cell?_of_block (w := ((w.alloc (.cells R 24)).drew).setCells w.heap.size (i * 5) vs) (w' := W) (a := ⟨w.heap.size, (i + 1) * 5 + j, none⟩) (by rw [hW])]
        exact isSome_setCells w.heap.size vs (i * 5) _ (fun k hk => hN _ (by omega)) _ (hN _ (by omega)))
      (fun j hj => by
        have : W.frozen? ⟨w.heap.size, (i + 1) * 5 + j, none⟩ = (((w.alloc (.cells R 24)).drew).setCells w.heap.size (i * 5) vs).frozen? ⟨w.heap.size, (i + 1) * 5 + j, none⟩ := by unfold World.frozen?; rw [hW]
        rw [this, World.frozen?_setCells]; exact hNf _) (fun v hv => h1c v (List.mem_of_mem_drop hv))
  have hw1 : IntKind.i64.wrap ((i : Int) + 1) = (i : Int) + 1 := by rw [IntKind.wrap_i64]; omega
  have hb1 : (0 : Int) ≤ (i : Int) + 1 := by omega
  have hin : i ≤ n := by omega
  have htn : ((i : Int) + 1).toNat = i + 1 := by omega
  have hb3 : (i : Int) ≤ (n : Int) := by omega
  have hGi : ¬ (G = i) := by omega
  have hGim : ¬ (G = i + 1) := by omega
  have hci : ¬ (c = i) := by omega
  have AR : Aside (R = _) := hR
  have AX : Aside (X = _) := hX
  clear hkk hik hold hG hRl hR hX hzc hz0
  go_enter Tryz.func44, Tryz.ntmps44
  go_wp2_with (first | (at_builtin; refine Lib.wpList_append_run _ rfl _ _ _ _ rfl _ _ rfl rfl _ _ (hrz _) ?_) | simp only [hcpA, Result.andThen_ok])
  go_region_law_o (refine step_copy_runI rfl _ _ 22 22 rfl (.slice (some ⟨w.heap.size, (i + 1) * 5, none⟩) (n + 1 - (i + 1)) (G - (i + 1))) (.slice (some ⟨b, i * 5, none⟩) (n - i) (c - i)) (by simp [Act.eval, Act.put]) (by simp [Act.eval, Act.put]) (hcpB _ (by rfl) _ _ _ _ _ (by simp only [Nat.min_def]; split <;> omega)) ?_)
  go_wp2
  go_ret
  rw [AX.out, AR.out]
  exact insNew_grow hin hGn hz1 hcl hvl
end Go.Proofs
namespace Go.Abs.Try
theorem ins44 (args : List AV) (σ : Store) (v : AV) (σ' : Store) (hr : insertT 5 64 args σ = some (v, σ')) : CallOk Proofs.Tryz.prog 44 args σ v σ' :=
 insert_ok Proofs.Tryz.func44 (c := Proofs.Tryz.f44.body.get rfl) rfl (by decide) (by decide)
   (fun b n cp i vb vo vc L t vs w hi hroom hn63 hvb hh hL hvl hvs h1c h1v => by
     rcases Nat.lt_or_ge i n with h | h
     · refine (Proofs.Tryz.ins44_shift b n cp i vb vo vc L t vs w h hroom hn63 hvb hh hL hvl hvs h1c h1v).mono ?_
       rintro e w' ⟨rfl, rfl⟩
       exact insOld_shift hi hroom hh hL hvl
     · have h : i = n := Nat.le_antisymm hi h
       subst h
       refine (Proofs.Tryz.ins44_end b i cp vb vo vc L t vs w hroom hn63 hh hL hvl hvs h1v).mono ?_
       rintro e w' ⟨rfl, rfl⟩
       exact insOld_end hroom hh hL hvl)
   (fun base n cp i vb vo vc cs vs w hi hnc hroom hbig hn63 hcl hvl hcs hvs h1c h1v => by
     rcases Nat.lt_or_ge i n with h | h
     · obtain ⟨b, rfl, hcs2⟩ := hcs.resolve_left (by omega)
       exact Proofs.Tryz.ins44_grow b n cp i vb vo vc cs vs w h hnc hroom hbig hn63 hcl hvl hcs2 hvs h1c h1v _ rfl
     · have h : i = n := Nat.le_antisymm hi h
       subst h
       exact Proofs.Tryz.ins44_egrow base i cp vb vo vc cs vs w hnc hroom hbig hn63 hcl hvl hcs hvs h1v _ rfl)
   args σ v σ' hr
@[reducible] def F142 (l : List Node) (i : Int) (v : List Node) : Option (List Node) := insF 64 l i v
def te44 : TE Proofs.Tryz.prog := ⟨44, insertT 5 64, false, ins44, fun h => by cases h⟩
end Go.Abs.Try
namespace Go.Proofs
open Go.RowKit Go.Lib Go.Abs
end Go.Proofs
namespace Go.Abs.Try
end Go.Abs.Try
