import Derived.Test.YthgibjeclmkbpaaValR
set_option linter.unusedSimpArgs false
set_option linter.unusedVariables false
namespace Go.Proofs
open Go.RowKit Go.WideMaps Go.Maps Go.ChangeShapes
set_option maxRecDepth 100000 in
theorem Try.valid_none (a : Option Addr) (cap : Nat) (w : World) :
    Calls Try.prog 16 #[.slice a 0 cap] w fun e w' => e = .returned (.bool true) ∧ Below w.heap.size w w' := by
  have hmm := @run_makeMap Try.prog
  go_enter Try.func16, Try.ntmps16
  go_wp2
  refine wp_loop_rounds 1 ?_
  rw [rounds_succ]
  go_wp2
  go_ret
  exact ⟨rfl, (Below.refl _ _).alloc (Nat.le_refl _) _⟩
set_option maxHeartbeats 4000000 in
set_option maxRecDepth 100000 in
theorem Try.valid_walk (b off len cap : Nat) (X : Nat → ECells) (ent : Nat → Option Bool) (al : Nat → Nat → Option Bool) (Q : Bool → Prop) (w : World) (hlen : len ≤ 2000) (hb : b < w.heap.size)
    (hc : ∀ j, j < len → (X j).At w b (off + j * 7)) (hsz : ∀ j, j < len → ent j = some true → (X j).nm.size ≤ maxLen)
    (hE : ∀ j r, j < len → ent j = some r → ∀ wr, Below w.heap.size w wr → Calls Try.prog 24 #[(X j).val] wr fun e w' => e = .returned (.bool r) ∧ Below wr.heap.size wr w')
    (hA : ∀ i j r, i < j → j < len → al i j = some r → ∀ wr, Below w.heap.size w wr → Calls Try.prog 25 #[(X i).val, (X j).val] wr fun e w' => e = .returned (.bool r) ∧ Below wr.heap.size wr w')
    (D1 : ∀ j, j < len → okTo ent al X j → ∃ r, ent j = some r ∧ (r = false → Q false))
    (D2 : ∀ j i, j < len → okTo ent al X j → ent j = some true → i < j → (X i).nm = (X j).nm → (∀ i', i' < i → (X i').nm = (X j).nm → al i' j = some false) → ∃ c, al i j = some c ∧ (c = true → Q false))
    (D3 : okTo ent al X len → Q true) :
    Calls Try.prog 16 #[.slice (some ⟨b, off, none⟩) len cap] w fun e w' => ∃ r, e = .returned (.bool r) ∧ Q r ∧ Below w.heap.size w w' := by
  have hmm := @run_makeMap Try.prog
  have hl : ¬ ((2000 : Int) < (len : Int)) := by omega
  obtain ⟨i0, hi, hz0, hz1, hz2⟩ := info_parts Try.info3v
  go_enter Try.func16, Try.ntmps16
  go_wp2
  go_loopw [14] (fun i wr => ∃ k : Nat, k ≤ len ∧ i = .int .i64 k ∧ wr.ownsGroups Try.prog 9 (w.heap.size + 1) 3 .i64 w.heap.size k (GN (H := Unit) (fun j => (X j).nm) k) ∧ Below w.heap.size w wr ∧ w.heap.size + 1 ≤ wr.heap.size ∧ okTo ent al X k)
    (fun i _ => len - (intOf i).toNat)
  case atStart => exact ⟨0, Nat.zero_le _, rfl, World.ownsGroups_made _ _ _ _ _, (Below.refl _ _).alloc (Nat.le_refl _) _, by simp, fun j hj => absurd hj (Nat.not_lt_zero _)⟩
  case round =>
    obtain ⟨k, hk, rfl, hown, hnx, hws, hok⟩ := hrel
    rcases Nat.lt_or_ge k len with hlt | hge
    · obtain ⟨r, hr, hrf⟩ := D1 k hlt hok
      obtain ⟨c0, c1, c2, c3, c4, c5, c6⟩ := (hc k hlt).below hnx hb
      go_wp2_with (first
        | (go_at_call 24; refine (hE k r hlt hr _ (hnx.alloc (by omega) _)).mono ?_; rintro e w1 ⟨rfl, hB1⟩; have dA := ((X k).at_new wr 40).below hB1 (by simp); obtain ⟨d0, d1, d2, d3, d4, d5, d6⟩ := id dA; have hbx := (hB1.block wr.heap.size (by simp)).trans (MapKept.heap_alloc wr _).1; have hB01 : Below w.heap.size w w1 := (hnx.alloc (by omega) _).trans (hB1.mono (by simp; omega)); have hown1 := hown.kept ((World.grownBy_alloc wr _ none).trans ⟨hB1.os, hB1.tape, hB1.output, hB1.size, fun i hi _ => hB1.block i hi⟩) (by simp) (fun es clock _ x _ => by cases x.val.ownBlock <;> simp); have hs1 := hB1.size; simp at hs1)
        | (at_lookup; refine wpList_lookup_groups _ rfl _ _ 55 rfl 9 56 3 .i64 Try.law9 Try.underlying55 (Try.zero69 _) (w.heap.size + 1) w.heap.size k _ rfl hown1 (by unfold maxLen; omega) _ _ rfl (keyN_ok (hsz k hlt (by rw [hr]; exact congrArg some (not_f ‹_›)))) ?_; intro v zs hat hoi hzl hback; obtain ⟨av, cv, rfl, hsh⟩ := ints_shape hoi))
      · go_ret
        exact ⟨_, rfl, hrf (not_t ‹_›), hB01⟩
      · have hrt : r = true := not_f ‹_›
        subst hrt
        have hzs : Kp (zs = idxN (fun j => (X j).nm) k (X k).nm) := ⟨group_is (fun j => (X j).nm) k (X k).nm hoi hat⟩
        go_loopw [27] (fun i wr2 => ∃ t : Nat, t ≤ zs.length ∧ i = .int .i64 t ∧ Below w1.heap.size w1 wr2 ∧ ∀ y ∈ zs.take t, al y.toNat k = some false)
          (fun i _ => zs.length - (intOf i).toNat)
        case atStart => exact ⟨0, Nat.zero_le _, rfl, Below.refl _ _, fun y hy => by simp at hy⟩
        case round =>
          obtain ⟨t, ht, rfl, hB2, hfl⟩ := hrel
          rcases Nat.lt_or_ge t zs.length with htl | htg
          · have htl2 : t < (idxN (fun j => (X j).nm) k (X k).nm).length := by rw [← hzs.out]; exact htl
            obtain ⟨i, hie, hik, hin⟩ := idxN_mem htl2
            have hzt : zs[t] = (i : Int) := (List.getElem_of_eq hzs.out htl).trans hie
            obtain ⟨g, rfl, hgb, hgl, hgc⟩ := hsh t htl
            have hgc2 := (hB2.cell hgl).trans hgc
            rw [hzt] at hgc2
            obtain ⟨cc, hcal, hcQ⟩ := D2 k i hlt hok hr hik hin (fun i' hi' hn => by
              have := hfl (i' : Int) (mem_take_of (by rw [hzs.out]; exact idxN_pw _ _ _) htl (by rw [hzs.out]; exact idxN_all (by omega) hn) (by rw [hzt]; omega))
              simpa using this)
            clear hin
            have hB4 := hB01.trans (hB2.mono (by omega))
            obtain ⟨e0, e1, e2, e3, e4, e5, e6⟩ := dA.below hB2 (by omega)
            obtain ⟨x0, x1, x2, x3, x4, x5, x6⟩ := (hc i (by omega)).below hB4 hb
            have hil : i < len := by omega
            go_wp2
            go_still_tail 5, (by kernel_rfl)
            change wpList _ _ _ _ _ wr.drew
            go_wp2_with (go_at_call 25; refine (hA i k cc hik hlt hcal _ hB4.drew).mono ?_; rintro e w3 ⟨rfl, hB3⟩)
            · go_ret
              exact ⟨_, rfl, hcQ ‹_›, hB4.drew.trans (hB3.mono hB4.size)⟩
            · have hs3 := hB3.size
              go_roundw
              case rel =>
                refine ⟨t + 1, by omega, by go_num, hB2.drew.trans (hB3.mono hB2.size), fun y hy => ?_⟩
                rw [List.take_succ_eq_append_getElem htl, List.mem_append] at hy
                rcases hy with hy | hy
                · exact hfl y hy
                · rw [List.mem_singleton] at hy
                  rw [hy, hzt]
                  have hcf : cc = false := by assumption
                  rw [← hcf]
                  exact hcal
              case measure => simp [intOf]; omega
          · have hte : t = zs.length := by omega
            subst hte
            go_wp2
            have hB5 := hB01.trans (hB2.mono (by omega))
            have hown2 := hown1.kept (w' := wr) (row := none) ⟨hB2.os, hB2.tape, hB2.output, hB2.size, fun i hi _ => hB2.block i hi⟩ (by simp) (fun es clock _ x _ => by cases x.val.ownBlock <;> simp)
            have hs2 := hB2.size
            refine Try.region15 _ w wr _ k (fun j => (X j).nm) _ _ rfl (by omega) rfl rfl rfl (fun c a d v w h => h) ((hB2.cell (by simp; omega)).trans d0) ((hB2.block _ (by omega)).trans hbx) (by omega) (hsz k hlt hr) hown2 hB5 ?_
            intro v44 v46 v47 w2 hw2 hB6 hs6
            go_wp2
            go_roundw
            case rel =>
              refine ⟨k + 1, by omega, by go_num, hw2, hB6, by omega, fun j hj => ?_⟩
              rcases Nat.lt_or_ge j k with hjk | hjk
              · exact hok j hjk
              · have hje : j = k := by omega
                rw [hje]
                refine ⟨hr, fun i' hi' hn => ?_⟩
                have := hfl (i' : Int) (by rw [List.take_length, hzs.out]; exact idxN_all hi' hn)
                simpa using this
            case measure => simp [intOf]; omega
    · have hke : k = len := by omega
      subst hke
      go_wp2
      go_ret
      exact ⟨_, rfl, D3 hok, hnx⟩
end Go.Proofs
