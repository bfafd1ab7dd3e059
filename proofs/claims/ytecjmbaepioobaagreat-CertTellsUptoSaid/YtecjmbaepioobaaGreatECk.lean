import Derived.Test.YtecjmbaepioobaaGreatEKCk
import Derived.Test.YtecjmbaepioobaaGreatCkF
set_option linter.unusedSimpArgs false
set_option linter.unusedVariables false
namespace Go.Abs.Try
open Go.RowKit Go.Proofs
set_option maxRecDepth 100000
theorem leaf_calls {P : Program} {f : Nat} {fn : Func} {c : Code} (hf : P.funcs[f]? = some fn) (hb : fn.body = some c) (hn : fn.name ≠ "runtime.NumGoroutine") {args : List AV} {v : AV} {u : Value} (hvu : ∀ g n x, Rep g v n x → x = u) (h : Pure P f args v) {C : Nat → Nat → Option Value} {w : World} (hC : ∀ b o v, C b o = some v → w.cell? ⟨b, o, none⟩ = some v)
   {vs : List Value} (hr : Reps (ghost0 P C w) args 0 vs) : Calls P f vs.toArray w fun e w' => e = .returned u ∧ Below w.heap.size w w' := by
 refine ((h [] (ghost0 P C w) w vs (inv0 hC) hr).calls (callFunc_enter hf hb hn _ _)).mono ?_
 rintro e W' ⟨val, rfl, g', hm, hv⟩
 have hv := hvu _ _ _ hv
 subst hv
 refine ⟨rfl, ?_, ?_, ?_, ?_, fun k hk => ?_⟩
 · exact (hm.ext.tie.str.trans hm.inv.str).os
 · exact (hm.ext.tie.str.trans hm.inv.str).tape
 · exact (hm.ext.tie.str.trans hm.inv.str).output
 · exact (hm.ext.tie.str.trans hm.inv.str).size
 · exact (hm.inv.below k (hm.ext.tie.fix k hk)).trans (hm.ext.tie.same k hk)
def goalN (k : Int) : Node := ⟨k, 0, ⟨#[]⟩, 0, []⟩
def certN : Cert := ⟨3, ⟨0, 0, ⟨#[]⟩, 0, []⟩, ⟨[], false, ⟨[], 0⟩, []⟩, []⟩
theorem ckB_is {k : Int} {n : Node} {c : Cert} (h : ckB k n c = true) : n = goalN k ∧ c = certN := by
 obtain ⟨a0, a1, a2, a3, a4⟩ := n
 obtain ⟨c0, ⟨b0, b1, b2, b3, b4⟩, ⟨d0, d1, ⟨f0, f1⟩, d3⟩, c3⟩ := c
 simp only [ckB, Bool.and_eq_true, beq_iff_eq, List.isEmpty_iff, Bool.not_eq_true'] at h
 obtain ⟨rfl, rfl, h2, rfl, rfl, rfl, rfl, rfl, h8, rfl, rfl, rfl, rfl, rfl, rfl, rfl, rfl⟩ := h
 have e : ∀ s : ByteArray, s.size = 0 → s = ⟨#[]⟩ := fun s hs => by
   obtain ⟨⟨l⟩⟩ := s
   have : l.length = 0 := hs
   have : l = [] := List.eq_nil_of_length_eq_zero this
   subst this; rfl
 rw [e _ h2, e _ h8]
 exact ⟨rfl, rfl⟩
theorem sl_any {g g' : Ghost} {n n' : Nat} {sz : Nat} {v : Value} (h : Rep g (.sl false sz []) n v) : Rep g' (.sl false sz []) n' v := by
 obtain ⟨a, cap, e, h1, h2, _⟩ := h
 exact ⟨a, cap, e, h1, h2, .inl rfl⟩
theorem check_calls (k : Int) (z : Int) (w : World) (x4 y5 y6 y8 y10 y11 : Value) (h14 : TOk Proofs.Tryz.prog 14 (t14 100)) (h12 : TOk Proofs.Tryz.prog 12 (t12 100)) (h22 : TOk Proofs.Tryz.prog 22 t22) (h23 : TOk Proofs.Tryz.prog 23 (t23 100)) (h24 : TOk Proofs.Tryz.prog 24 (t24 100)) (h49 : TOk Proofs.Tryz.prog 49 (t49 100))
   (f12 : F14 100 (goalN k) 2 = some 0) (f22 : F42 (goalN k) = some false) (f14 : F1411 100 ⟨32, 0, ⟨#[]⟩, 0, [goalN k]⟩ [] [] = some z)
   (e4 : ∀ g n, Rep g (.sl false 5 []) n x4) (e5 : ∀ g n, Rep g (.sl false 5 []) n y5) (e6 : ∀ g n, Rep g (.sl false 1 []) n y6) (e8 : ∀ g n, Rep g (.sl false 6 []) n y8) (e10 : ∀ g n, Rep g (.sl false 5 []) n y10) (e11 : ∀ g n, Rep g (.sl false 12 []) n y11) :
   Calls Proofs.Tryz.prog 11 #[.agg #[.int .i64 k, .int .i64 0, .string ⟨#[]⟩, .int .i64 0, x4], .agg #[.int .i64 3, .int .i64 0, .int .i64 0, .string ⟨#[]⟩, .int .i64 0, y5, y6, .bool false, y8, .int .i64 0, y10, y11]] w fun e w' => e = .returned (.tuple #[.bool (z == 0), .int .i64 0]) ∧ Below w.heap.size w w' := by
 have rg : ∀ g n, Rep g (.agg (Node.cells (goalN k))) n (.agg #[.int .i64 k, .int .i64 0, .string ⟨#[]⟩, .int .i64 0, x4]) := fun g n => ⟨[_, _, _, _, _], rfl, _, _, rfl, rfl, _, _, rfl, rfl, _, _, rfl, rfl, _, _, rfl, rfl, _, _, rfl, e4 g n, rfl⟩
 have rc : ∀ g n, Rep g (.agg (Cert.cells certN)) n (.agg #[.int .i64 3, .int .i64 0, .int .i64 0, .string ⟨#[]⟩, .int .i64 0, y5, y6, .bool false, y8, .int .i64 0, y10, y11]) := fun g n => ⟨[_, _, _, _, _, _, _, _, _, _, _, _], rfl, _, _, rfl, rfl, _, _, rfl, rfl, _, _, rfl, rfl, _, _, rfl, rfl, _, _, rfl, rfl, _, _, rfl, e5 g n, _, _, rfl, e6 g n, _, _, rfl, rfl, _, _, rfl, e8 g n, _, _, rfl, rfl, _, _, rfl, e10 g n, _, _, rfl, e11 g n, rfl⟩
 have hi : ∀ i : Int, ∀ g n x, Rep g (.int .i64 i) n x → x = .int .i64 i := fun _ _ _ _ h => h
 have hb : ∀ b : Bool, ∀ g n x, Rep g (.bool b) n x → x = .bool b := fun _ _ _ _ h => h
 have hC0 : ∀ (wr : World) b o (v : Value), (fun (_ _ : Nat) => (none : Option Value)) b o = some v → wr.cell? ⟨b, o, none⟩ = some v := fun _ _ _ _ h => by cases h
 have q12 := h12 (ar12.e (goalN k, 2)) (.int .i64 0) (by rw [t12, TL_hit ar12.inj (goalN k, 2) rfl]; show bindO (F14 100 (goalN k) 2) _ = _; rw [f12]; rfl)
 have q22 := h22 (ar22.e (goalN k)) (.bool false) (by rw [t22, TL_hit ar22.inj (goalN k) rfl]; show bindO (F42 (goalN k)) _ = _; rw [f22]; rfl)
 have q23 := h23 (ar23.e certN) (.int .i64 1) (by rw [t23, TL_hit ar23.inj certN rfl]; rfl)
 have q24 := h24 (ar24.e certN) (.int .i64 1) (by rw [t24, TL_hit ar24.inj certN rfl]; rfl)
 have q49 := h49 (ar49.e (certN, 0, false, false)) (.bool true) (by rw [t49, TL_hit ar49.inj (certN, 0, false, false) rfl]; rfl)
 have q14 := h14 (ar14.e (⟨32, 0, ⟨#[]⟩, 0, [goalN k]⟩, [], [])) (.int .i64 z) (by rw [t14, TL_hit ar14.inj (⟨32, 0, ⟨#[]⟩, 0, [goalN k]⟩, [], []) rfl]; show bindO (F1411 100 ⟨32, 0, ⟨#[]⟩, 0, [goalN k]⟩ [] []) _ = _; rw [f14]; rfl)
 refine Tryz.check_at w _ _ _ _ _ _ _ _ _ _ _ _ _ _ _ _ z ?_ ?_ ?_ ?_ ?_ ?_
 · exact fun wr _ => leaf_calls Proofs.Tryz.func12 (c := Proofs.Tryz.f12.body.get rfl) rfl (by decide) (hi 0) q12 (C := fun _ _ => none) (hC0 wr) (vs := [_, _]) ⟨_, _, rfl, rg _ _, _, _, rfl, rfl, rfl⟩
 · exact fun wr _ => leaf_calls Proofs.Tryz.func22 (c := Proofs.Tryz.f22.body.get rfl) rfl (by decide) (hb false) q22 (C := fun _ _ => none) (hC0 wr) (vs := [_]) ⟨_, _, rfl, rg _ _, rfl⟩
 · exact fun wr _ => leaf_calls Proofs.Tryz.func23 (c := Proofs.Tryz.f23.body.get rfl) rfl (by decide) (hi 1) q23 (C := fun _ _ => none) (hC0 wr) (vs := [_]) ⟨_, _, rfl, rc _ _, rfl⟩
 · exact fun wr _ => leaf_calls Proofs.Tryz.func24 (c := Proofs.Tryz.f24.body.get rfl) rfl (by decide) (hi 1) q24 (C := fun _ _ => none) (hC0 wr) (vs := [_]) ⟨_, _, rfl, rc _ _, rfl⟩
 · exact fun wr _ => leaf_calls Proofs.Tryz.func49 (c := Proofs.Tryz.f49.body.get rfl) rfl (by decide) (hb true) q49 (C := fun _ _ => none) (hC0 wr) (vs := [_, _, _, _]) ⟨_, _, rfl, rc _ _, _, _, rfl, rfl, _, _, rfl, rfl, _, _, rfl, rfl, rfl⟩
 · intro wr g _ _ g0 g1 g2 g3 g4
   have hC : ∀ b o (v : Value), (fun (b o : Nat) => if b = g then [.int .i64 k, .int .i64 0, .string ⟨#[]⟩, .int .i64 0, x4][o]? else none) b o = some v → wr.cell? ⟨b, o, none⟩ = some v := fun b o v h => by
     by_cases hbg : b = g
     · subst hbg
       simp only [if_pos] at h
       match o, h with
       | 0, h => injection h with h; subst h; exact g0
       | 1, h => injection h with h; subst h; exact g1
       | 2, h => injection h with h; subst h; exact g2
       | 3, h => injection h with h; subst h; exact g3
       | 4, h => injection h with h; subst h; exact g4
       | n + 5, h => cases h
     · simp only [if_neg hbg] at h; cases h
   refine leaf_calls Proofs.Tryz.func14 (c := Proofs.Tryz.f14.body.get rfl) rfl (by decide) (hi z) q14 hC (vs := [_, _, _]) ⟨_, _, rfl, ⟨[_, _, _, _, _], rfl, _, _, rfl, rfl, _, _, rfl, rfl, _, _, rfl, rfl, _, _, rfl, rfl, _, _, rfl, ⟨_, _, rfl, Nat.le_refl _, (fun h => by cases h), .inr ⟨g, 0, rfl, ?_, ⟨rfl, rfl⟩, trivial⟩⟩, rfl⟩, _, _, rfl, ⟨none, 0, rfl, Nat.le_refl _, (fun h => by cases h), .inl rfl⟩, _, _, rfl, ⟨none, 0, rfl, Nat.le_refl _, (fun h => by cases h), .inl rfl⟩, rfl⟩
   exact ⟨⟨.int .i64 k, (if_pos rfl).trans rfl, rfl⟩, ⟨.int .i64 0, (if_pos rfl).trans rfl, rfl⟩, ⟨.string ⟨#[]⟩, (if_pos rfl).trans rfl, rfl⟩, ⟨.int .i64 0, (if_pos rfl).trans rfl, rfl⟩, ⟨x4, (if_pos rfl).trans rfl, e4 _ _⟩, trivial⟩
theorem k11 (N : Nat) (hN : N ≤ 4611686018427387904) : TOk Proofs.Tryz.prog 11 (t11 N) := TL_ok ar11.wk fun m v h => by
 obtain ⟨n, c⟩ := m
 obtain ⟨b, hb, hv⟩ := bindO_eq h
 injection hv with hv
 subst hv
 have hb : F1409 N n c = some b := hb
 have key : ∃ k z : Int, n = goalN k ∧ c = certN ∧ b = (z == 0, 0) ∧ F14 100 (goalN k) 2 = some 0 ∧ F42 (goalN k) = some false ∧ F1411 100 ⟨32, 0, ⟨#[]⟩, 0, [goalN k]⟩ [] [] = some z := by
   unfold F1409 at hb
   cases h30 : ckB 30 n c with
   | true =>
     rw [h30, iteO_true] at hb
     injection hb with hb
     obtain ⟨e1, e2⟩ := ckB_is h30
     exact ⟨30, 0, e1, e2, hb.symm, by kernel_rfl, by kernel_rfl, by kernel_rfl⟩
   | false =>
     rw [h30, iteO_false] at hb
     cases h31 : ckB 31 n c with
     | true =>
       rw [h31, iteO_true] at hb
       injection hb with hb
       obtain ⟨e1, e2⟩ := ckB_is h31
       exact ⟨31, 1, e1, e2, hb.symm, by kernel_rfl, by kernel_rfl, by kernel_rfl⟩
     | false => rw [h31, iteO_false] at hb; cases hb
 obtain ⟨k, z, rfl, rfl, rfl, f12, f22, f14⟩ := key
 intro σ g w vs hI hr
 obtain ⟨v1, vs1, rfl, ⟨us, rfl, hu⟩, v2, vs2, rfl, ⟨us2, rfl, hu2⟩, hr3⟩ := hr
 have hr3 : vs2 = [] := hr3
 subst hr3
 obtain ⟨_, _, rfl, a0, _, _, rfl, a1, _, _, rfl, a2, _, _, rfl, a3, x4, _, rfl, a4, a5⟩ := hu
 have a5 : _ = [] := a5
 subst a5
 have a0 : _ = Value.int .i64 k := a0
 have a1 : _ = Value.int .i64 0 := a1
 have a2 : _ = Value.string ⟨#[]⟩ := a2
 have a3 : _ = Value.int .i64 0 := a3
 subst a0 a1 a2 a3
 obtain ⟨_, _, rfl, b0, _, _, rfl, b1, _, _, rfl, b2, _, _, rfl, b3, _, _, rfl, b4, y5, _, rfl, b5, y6, _, rfl, b6, _, _, rfl, b7, y8, _, rfl, b8, _, _, rfl, b9, y10, _, rfl, b10, y11, _, rfl, b11, b12⟩ := hu2
 have b12 : _ = [] := b12
 subst b12
 have b0 : _ = Value.int .i64 3 := b0
 have b1 : _ = Value.int .i64 0 := b1
 have b2 : _ = Value.int .i64 0 := b2
 have b3 : _ = Value.string ⟨#[]⟩ := b3
 have b4 : _ = Value.int .i64 0 := b4
 have b7 : _ = Value.bool false := b7
 have b9 : _ = Value.int .i64 0 := b9
 subst b0 b1 b2 b3 b4 b7 b9
 have hK : (100 : Nat) ≤ 4611686018427387904 := by decide
 refine Yields.of_calls (callFunc_enter Proofs.Tryz.func11 (c := Proofs.Tryz.f11.body.get rfl) rfl (by decide) _ _) ((check_calls k z w x4 y5 y6 y8 y10 y11 (k14 100 hK) (k12 100 hK) k22 (k23 100 hK) (k24 100 hK) (k49 100 hK) f12 f22 f14 (fun _ _ => sl_any a4) (fun _ _ => sl_any b5) (fun _ _ => sl_any b6) (fun _ _ => sl_any b8) (fun _ _ => sl_any b10) (fun _ _ => sl_any b11)).mono ?_)
 rintro e w' ⟨rfl, hB⟩
 exact ⟨_, rfl, g, ⟨Ext.refl _ _, same_inv hI hB, Nat.le_refl _⟩, _, rfl, _, _, rfl, rfl, _, _, rfl, rfl, rfl⟩
end Go.Abs.Try
