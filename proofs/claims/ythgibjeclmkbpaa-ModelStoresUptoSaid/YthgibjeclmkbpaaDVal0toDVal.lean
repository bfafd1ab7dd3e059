import Derived.Test.YthgibjeclmkbpaaDD
import Derived.Test.YthgibjeclmkbpaaValW
import Derived.Test.YthgibjeclmkbpaaDKVal
set_option linter.unusedSimpArgs false
set_option linter.unusedVariables false
namespace Go.Abs.Try
open Go.RowKit Go.Proofs
theorem bool_calls {P : Program} {f : Nat} {fn : Func} {c : Code} (hf : P.funcs[f]? = some fn) (hb : fn.body = some c) (hn : fn.name ≠ "runtime.NumGoroutine") {args : List AV} {b : Bool} (h : Pure P f args (.bool b)) {C : Nat → Nat → Option Value} {w : World} (hC : ∀ b o v, C b o = some v → w.cell? ⟨b, o, none⟩ = some v)
   {vs : List Value} (hr : Reps (ghost0 P C w) args 0 vs) : Calls P f vs.toArray w fun e w' => e = .returned (.bool b) ∧ Below w.heap.size w w' := by
 refine ((h [] (ghost0 P C w) w vs (inv0 hC) hr).calls (callFunc_enter hf hb hn _ _)).mono ?_
 rintro e W' ⟨val, rfl, g', hm, hv⟩
 have hv : val = .bool b := hv
 subst hv
 refine ⟨rfl, ?_, ?_, ?_, ?_, fun k hk => ?_⟩
 · exact (hm.ext.tie.str.trans hm.inv.str).os
 · exact (hm.ext.tie.str.trans hm.inv.str).tape
 · exact (hm.ext.tie.str.trans hm.inv.str).output
 · exact (hm.ext.tie.str.trans hm.inv.str).size
 · exact (hm.inv.below k (hm.ext.tie.fix k hk)).trans (hm.ext.tie.same k hk)
theorem vba_loop (s : ByteArray) : ∀ (m i : Nat) (r : List UInt8), s.size - i = m → ByteArray.toList.loop s i r = r.reverse ++ s.data.toList.drop i
 | 0, i, r, h => by
   have hl : s.data.toList.length = s.size := Array.length_toList
   rw [ByteArray.toList.loop.eq_1, if_neg (by omega), List.drop_eq_nil_iff.2 (by omega), List.append_nil]
 | m + 1, i, r, h => by
   have hl : s.data.toList.length = s.size := Array.length_toList
   have hi : i < s.data.toList.length := by omega
   rw [ByteArray.toList.loop.eq_1, if_pos (by omega), vba_loop s m (i + 1) _ (by omega), List.drop_eq_getElem_cons hi]
   have hi2 : i < s.data.size := by simpa using hi
   have : s.get! i = s.data.toList[i] := by
     cases s with | mk d => simp only [ByteArray.get!]; simp at hi2; simp [hi2]
   simp [this]
theorem vba_toList (s : ByteArray) : s.toList = s.data.toList := by
 rw [ByteArray.toList, vba_loop s s.size 0 [] (by omega)]; simp
theorem vba_inj {a b : ByteArray} (h : a.toList = b.toList) : a = b := by
 rw [vba_toList, vba_toList] at h
 cases a; cases b
 simp only [ByteArray.mk.injEq]
 exact Array.toList_inj.1 h
theorem atO_m {α : Type} {l : List α} {i : Nat} (h : i < l.length) : atO l (i : Int) = some l[i] := by
 simp only [atO, inB_lt h, iteO_true, Int.toNat_natCast, List.getElem?_eq_getElem h]
theorem alike_name {N : Nat} {a b : Entry} (h : a.entryName ≠ b.entryName) : F1037 N a b = some false := by
 have e : (a.entryName.toList == b.entryName.toList) = false := by
   cases hh : (a.entryName.toList == b.entryName.toList) with
   | false => rfl
   | true => exact absurd (by have := eq_of_beq hh; exact vba_inj this) h
 simp only [F1037, e, iteO_false]
theorem entry_size {N : Nat} {e : Entry} (h : F1036 N e = some true) : e.entryName.size ≤ maxLen := by
 cases hh : decide ((e.entryName.size : Int) > 24) with
 | false =>
   have := of_decide_eq_false hh
   unfold maxLen
   omega
 | true =>
   have h1 : F16 N e.entryName = some false := by
     simp only [F16, hh, iteO_true]
     cases decide ((e.entryName.size : Int) < 1) <;> rfl
   simp only [F1036, h1, bindO_some, iteO_false] at h
   cases h
theorem inner_at {N : Nat} {m : List Entry} {j : Nat} {x : Entry} (hj : j < m.length) (hj2 : j < 9223372036854775807) : ∀ (M i : Nat) (r : Sum Unit Bool), i ≤ j → whileN (S := Int) (F1033_s2 N j m x) M (i : Int) = some r →
   ∀ i', i ≤ i' → (h : i' < j) → (∀ i'', i ≤ i'' → (h2 : i'' < i') → F1037 N (m[i'']'(by omega)) x = some false) → ∃ c, F1037 N (m[i']'(by omega)) x = some c ∧ (c = true → r = .inr false)
 | 0, i, r, _, h => by cases h
 | M + 1, i, r, hi, h => fun i' h1 h2 h3 => by
   have hd : decide ((i : Int) < (j : Int)) = true := decide_eq_true (by omega)
   simp only [whileN, F1033_s2, hd, iteO_true, atO_m (show i < m.length by omega), bindO_some] at h
   cases hc : F1037 N (m[i]'(by omega)) x with
   | none => rw [hc] at h; cases h
   | some c =>
     rw [hc] at h
     simp only [bindO_some] at h
     rcases Nat.lt_or_ge i i' with hlt | hge
     · have hcf := h3 i (Nat.le_refl _) hlt
       rw [hc] at hcf
       injection hcf with hcf
       subst hcf
       simp only [iteO_false, bindO_some] at h
       have hw : IntKind.i64.wrap ((i : Int) + 1) = ((i + 1 : Nat) : Int) := by rw [wrap_id (by omega)]; simp
       rw [hw] at h
       exact inner_at hj hj2 M (i + 1) r (by omega) h i' hlt h2 (fun i'' g1 g2 => h3 i'' (by omega) g2)
     · have : i' = i := by omega
       subst this
       refine ⟨c, hc, fun e => ?_⟩
       subst e
       simp only [iteO_true, bindO_some] at h
       injection h with h
       exact h.symm
theorem inner_pass {N : Nat} {m : List Entry} {j : Nat} {x : Entry} (hj : j < m.length) (hj2 : j < 9223372036854775807) : ∀ (M i : Nat) (r : Sum Unit Bool), i ≤ j → whileN (S := Int) (F1033_s2 N j m x) M (i : Int) = some r →
   (∀ i', i ≤ i' → (h2 : i' < j) → F1037 N (m[i']'(by omega)) x = some false) → r = .inl ()
 | 0, i, r, _, h => by cases h
 | M + 1, i, r, hi, h => fun h3 => by
   rcases Nat.lt_or_ge i j with hlt | hge
   · have hd : decide ((i : Int) < (j : Int)) = true := decide_eq_true (by omega)
     simp only [whileN, F1033_s2, hd, iteO_true, atO_m (show i < m.length by omega), bindO_some, h3 i (Nat.le_refl _) hlt, iteO_false] at h
     have hw : IntKind.i64.wrap ((i : Int) + 1) = ((i + 1 : Nat) : Int) := by rw [wrap_id (by omega)]; simp
     rw [hw] at h
     exact inner_pass hj hj2 M (i + 1) r (by omega) h (fun i' g1 g2 => h3 i' (by omega) g2)
   · have hd : decide ((i : Int) < (j : Int)) = false := decide_eq_false (by omega)
     simp only [whileN, F1033_s2, hd, iteO_false, bindO_some] at h
     injection h with h
     exact h.symm
theorem outer_step {N : Nat} {m : List Entry} {b : Bool} {J M : Nat} (h : foldN (F1033_s1 N m) F1033_f1 M (m.drop J) J () = some b) (hJ : J < m.length) :
   ∃ e, F1036 N m[J] = some e ∧ (e = false → b = false) ∧ (e = true → ∃ r, whileN (S := Int) (F1033_s2 N J m m[J]) N 0 = some r ∧ (∀ y, r = .inr y → y = b) ∧ (r = .inl () → ∃ M', foldN (F1033_s1 N m) F1033_f1 M' (m.drop (J + 1)) (J + 1) () = some b)) := by
 cases M with
 | zero => cases h
 | succ M =>
   rw [List.drop_eq_getElem_cons hJ] at h
   simp only [foldN, F1033_s1] at h
   cases he : F1036 N m[J] with
   | none => rw [he] at h; cases h
   | some e =>
     rw [he] at h
     simp only [bindO_some] at h
     refine ⟨e, rfl, fun e1 => ?_, fun e1 => ?_⟩
     · subst e1
       simp only [iteO_false, bindO_some] at h
       injection h with h
       exact h.symm
     · subst e1
       simp only [iteO_true] at h
       cases hw : whileN (S := Int) (F1033_s2 N J m m[J]) N 0 with
       | none => rw [hw] at h; cases h
       | some r =>
         rw [hw] at h
         simp only [bindO_some] at h
         refine ⟨r, rfl, fun y hy => ?_, fun hy => ?_⟩
         · subst hy
           injection h
         · subst hy
           exact ⟨M, h⟩
theorem outer_at {N : Nat} {m : List Entry} {b : Bool} (hm : m.length ≤ 2000) (h : foldN (F1033_s1 N m) F1033_f1 N m 0 () = some b) :
   ∀ J, J ≤ m.length → (∀ j, j < J → (hj : j < m.length) → F1036 N m[j] = some true ∧ ∀ i, (hi : i < j) → F1037 N (m[i]'(by omega)) m[j] = some false) → ∃ M, foldN (F1033_s1 N m) F1033_f1 M (m.drop J) J () = some b
 | 0, _, _ => ⟨N, h⟩
 | J + 1, hJ, hok => by
   obtain ⟨M, hM⟩ := outer_at hm h J (by omega) (fun j hj => hok j (by omega))
   obtain ⟨e, he, _, h2⟩ := outer_step hM (by omega)
   obtain ⟨h3, h4⟩ := hok J (by omega) (by omega)
   rw [he] at h3
   injection h3 with h3
   obtain ⟨r, hw, _, h5⟩ := h2 h3
   exact h5 (inner_pass (by omega) (by omega) N 0 r (by omega) hw (fun i' _ h6 => h4 i' h6))
theorem ents_at {g : Ghost} : ∀ (m : List Entry) (b o : Nat), RepE g (m.map Entry.cells) 7 b o → ∀ j, (hj : j < m.length) → RepC g (Entry.cells m[j]) b (o + j * 7)
 | [], _, _, _, j, hj => by simp at hj
 | x :: xs, b, o, h, 0, hj => by
   have h := h.1
   simpa using h
 | x :: xs, b, o, h, j + 1, hj => by
   have := ents_at xs b (o + 7) h.2.2 j (by simpa using hj)
   rw [show o + (j + 1) * 7 = o + 7 + j * 7 by omega]
   simpa using this
theorem ent_cells {g : Ghost} {w : World} (hC : ∀ b o v, g.C b o = some v → w.cell? ⟨b, o, none⟩ = some v) (e : Entry) (b o : Nat) (h : RepC g (Entry.cells e) b o) :
   ∃ x : ECells, x.At w b o ∧ x.nm = e.entryName ∧ Reps g [.agg (Entry.cells e)] 0 [x.val] ∧ b < w.heap.size := by
 obtain ⟨⟨v0, c0, h0⟩, ⟨v1, c1, h1⟩, ⟨v2, c2, h2⟩, ⟨v3, c3, h3⟩, ⟨v4, c4, h4⟩, ⟨v5, c5, h5⟩, ⟨v6, c6, h6⟩, _⟩ := h
 have r1 := h1
 have r4 := h4
 have r5 := h5
 have r6 := h6
 obtain ⟨a1, k1, e1, _⟩ := h1
 obtain ⟨a4, k4, e4, _⟩ := h4
 obtain ⟨a5, k5, e5, _⟩ := h5
 obtain ⟨a6, k6, e6, _⟩ := h6
 have e0 : v0 = .string e.entryName := h0
 have e2 : v2 = .int .i64 e.entryVal.valSort := h2
 have e3 : v3 = .int .i64 e.entryVal.valNum := h3
 subst e0 e1 e2 e3 e4 e5 e6
 refine ⟨⟨e.entryName, (a1, _, k1), e.entryVal.valSort, e.entryVal.valNum, (a4, _, k4), (a5, _, k5), (a6, _, k6)⟩, ⟨hC _ _ _ c0, hC _ _ _ c1, hC _ _ _ c2, hC _ _ _ c3, hC _ _ _ c4, hC _ _ _ c5, hC _ _ _ c6⟩, rfl, ⟨_, [], rfl, ⟨_, rfl, _, _, rfl, h0, _, _, rfl, r1, _, _, rfl, h2, _, _, rfl, h3, _, _, rfl, r4, _, _, rfl, r5, _, _, rfl, r6, rfl⟩, rfl⟩, ?_⟩
 have := hC _ _ _ c0
 unfold World.cell? at this
 rcases Nat.lt_or_ge b w.heap.size with hb | hb
 · exact hb
 · rw [Array.getElem?_eq_none hb] at this
   cases this
theorem k16of (N : Nat) (h38 : TOk Proofs.Try.prog 24 (t24 N)) (h41 : TOk Proofs.Try.prog 25 (t25 N)) : TOk Proofs.Try.prog 16 (t16 N) := TL_ok ar16.wk fun m v h => by
 obtain ⟨b, hb, hv⟩ := bindO_eq h
 injection hv with hv
 subst hv
 intro σ g w vs hI hr
 obtain ⟨v1, vs', e, hr1, hr2⟩ := hr
 have hr2 : vs' = [] := hr2
 subst hr2
 subst e
 have key : Calls Proofs.Try.prog 16 #[v1] w fun e w' => e = .returned (.bool b) ∧ Below w.heap.size w w' := by
   obtain ⟨a, cap, e, hcap, _, hcells⟩ := hr1
   rw [List.length_map] at e hcap
   subst e
   by_cases hm : m = []
   · subst hm
     have hbt : b = true := by
       have : F1033 N [] = some b := hb
       simp only [F1033] at this
       cases N with
       | zero => cases this
       | succ M =>
         have hd : decide ((([] : List Entry).length : Int) > 2000) = false := rfl
         simp only [hd, iteO_false, foldN, F1033_f1] at this
         injection this with this
         exact this.symm
     subst hbt
     exact Try.valid_none a cap w
   · obtain ⟨bb, o, ea, hE⟩ := hcells.resolve_left (by simpa using hm)
     subst ea
     by_cases hlen : m.length ≤ 2000
     · have hf : foldN (F1033_s1 N m) F1033_f1 N m 0 () = some b := by
         have hd : decide ((m.length : Int) > 2000) = false := decide_eq_false (by omega)
         have : F1033 N m = some b := hb
         simpa only [F1033, hd, iteO_false] using this
       have hX := fun (j : Nat) (hj : j < m.length) => ent_cells hI.comm m[j] bb (o + j * 7) (ents_at m bb o hE j hj)
       have hX2 : ∃ X : Nat → ECells, ∀ j, (hj : j < m.length) → (X j).At w bb (o + j * 7) ∧ (X j).nm = m[j].entryName ∧ Reps g [.agg (Entry.cells m[j])] 0 [(X j).val] ∧ bb < w.heap.size := by
         refine ⟨fun j => if hj : j < m.length then Classical.choose (hX j hj) else ⟨⟨#[]⟩, (none, 0, 0), 0, 0, (none, 0, 0), (none, 0, 0), (none, 0, 0)⟩, fun j hj => ?_⟩
         simp only [dif_pos hj]
         exact Classical.choose_spec (hX j hj)
       obtain ⟨X, hX⟩ := hX2
       have hm0 : 0 < m.length := List.length_pos_iff.2 hm
       have hal : ∀ (wr : World), Below w.heap.size w wr → ∀ b o v, g.C b o = some v → wr.cell? ⟨b, o, none⟩ = some v := fun wr hB b o v hc => by
         have hcw := hI.comm b o v hc
         refine (hB.cell (p := ⟨b, o, none⟩) ?_).trans hcw
         rcases Nat.lt_or_ge b w.heap.size with hb | hb
         · exact hb
         · unfold World.cell? at hcw
           rw [Array.getElem?_eq_none hb] at hcw
           cases hcw
       have okc : ∀ J, J ≤ m.length → okTo (fun j => if hj : j < m.length then F1036 N m[j] else none) (fun i j => if hj : i < m.length ∧ j < m.length then F1037 N (m[i]'hj.1) (m[j]'hj.2) else none) X J →
           ∀ j, j < J → (hj : j < m.length) → F1036 N m[j] = some true ∧ ∀ i, (hi : i < j) → F1037 N (m[i]'(by omega)) m[j] = some false := fun J hJ hok j hj hj2 => by
         obtain ⟨h1, h2⟩ := hok j hj
         simp only [dif_pos hj2] at h1
         refine ⟨h1, fun i hi => ?_⟩
         by_cases hn : (X i).nm = (X j).nm
         · have := h2 i hi hn
           simp only [dif_pos (show i < m.length ∧ j < m.length from ⟨by omega, hj2⟩)] at this
           exact this
         · rw [(hX i (by omega)).2.1, (hX j hj2).2.1] at hn
           exact alike_name hn
       refine (Try.valid_walk bb o m.length cap X (fun j => if hj : j < m.length then F1036 N m[j] else none) (fun i j => if hj : i < m.length ∧ j < m.length then F1037 N (m[i]'hj.1) (m[j]'hj.2) else none) (fun r => r = b) w hlen (hX 0 hm0).2.2.2 (fun j hj => (hX j hj).1) ?_ ?_ ?_ ?_ ?_ ?_).mono ?_
       · intro j hj he
         simp only [dif_pos hj] at he
         rw [(hX j hj).2.1]
         exact entry_size he
       · intro j r hj he wr hB
         simp only [dif_pos hj] at he
         refine bool_calls Proofs.Try.func24 (c := Proofs.Try.f24.body.get rfl) rfl (by decide) (args := [.agg (Entry.cells m[j])]) (h38 _ _ ?_) (hal wr hB) (Reps.data (g := g) (g' := ghost0 Proofs.Try.prog g.C wr) (fun _ _ _ h => h) _ _ _ (hX j hj).2.2.1)
         have := TL_hit (res := fun x => bindO (F1036 N x) fun r => some (v24 r)) ar24.inj m[j] (show _ = nzs [.agg (Entry.cells m[j])] from rfl)
         rw [he] at this
         exact this
       · intro i j r hij hj he wr hB
         simp only [dif_pos (show i < m.length ∧ j < m.length from ⟨by omega, hj⟩)] at he
         have hri := (hX i (by omega)).2.2.1
         have hrj := (hX j hj).2.2.1
         obtain ⟨vi, vi', ei, hri1, hri2⟩ := hri
         have hri2 : vi' = [] := hri2
         subst hri2
         injection ei with ei _
         subst ei
         have hrij : Reps g [.agg (Entry.cells (m[i]'(by omega))), .agg (Entry.cells m[j])] 0 [(X i).val, (X j).val] := ⟨_, _, rfl, hri1, hrj⟩
         refine bool_calls Proofs.Try.func25 (c := Proofs.Try.f25.body.get rfl) rfl (by decide) (args := [.agg (Entry.cells (m[i]'(by omega))), .agg (Entry.cells m[j])]) (vs := [(X i).val, (X j).val]) (h41 _ _ ?_) (hal wr hB) (Reps.data (g := g) (g' := ghost0 Proofs.Try.prog g.C wr) (fun _ _ _ h => h) _ _ _ hrij)
         have := TL_hit (res := fun x => bindO (F1037 N x.1 x.2) fun r => some (v25 r)) ar25.inj (m[i]'(by omega), m[j]) (show _ = nzs [.agg (Entry.cells (m[i]'(by omega))), .agg (Entry.cells m[j])] from rfl)
         simp only [he] at this
         exact this
       · intro j hj hok
         obtain ⟨M, hM⟩ := outer_at hlen hf j (by omega) (okc j (by omega) hok)
         obtain ⟨e, he, h1, _⟩ := outer_step hM hj
         exact ⟨e, by simp only [dif_pos hj]; exact he, fun e1 => (h1 e1).symm⟩
       · intro j i hj hok he hij hn hall
         obtain ⟨M, hM⟩ := outer_at hlen hf j (by omega) (okc j (by omega) hok)
         obtain ⟨e, he2, _, h2⟩ := outer_step hM hj
         simp only [dif_pos hj] at he
         rw [he] at he2
         injection he2 with he2
         obtain ⟨r, hw, hr, _⟩ := h2 he2.symm
         obtain ⟨c, hc, hcr⟩ := inner_at hj (by omega) N 0 r (by omega) hw i (Nat.zero_le _) hij (fun i'' _ h3 => by
           by_cases hn2 : (X i'').nm = (X j).nm
           · have := hall i'' h3 hn2
             simp only [dif_pos (show i'' < m.length ∧ j < m.length from ⟨by omega, hj⟩)] at this
             exact this
           · rw [(hX i'' (by omega)).2.1, (hX j hj).2.1] at hn2
             exact alike_name hn2)
         refine ⟨c, ?_, fun e1 => hr false (hcr e1)⟩
         simp only [dif_pos (show i < m.length ∧ j < m.length from ⟨by omega, hj⟩)]
         exact hc
       · intro hok
         obtain ⟨M, hM⟩ := outer_at hlen hf m.length (Nat.le_refl _) (okc m.length (Nat.le_refl _) hok)
         rw [List.drop_length] at hM
         cases M with
         | zero => cases hM
         | succ M =>
           injection hM
       · rintro e w' ⟨r, rfl, rfl, hB⟩
         exact ⟨rfl, hB⟩
     · have hbf : b = false := by
         have hd : decide ((m.length : Int) > 2000) = true := decide_eq_true (by omega)
         have : F1033 N m = some b := hb
         simp only [F1033, hd, iteO_true] at this
         injection this with this
         exact this.symm
       subst hbf
       have hl : ((2000 : Int) < (m.length : Int)) := by omega
       go_enter Try.func16, Try.ntmps16
       go_wp2
       go_ret
       exact ⟨rfl, Below.refl _ _⟩
 refine Yields.of_calls (callFunc_enter Proofs.Try.func16 (c := Proofs.Try.f16.body.get rfl) rfl (by decide) _ _) (key.mono ?_)
 rintro e w' ⟨rfl, hB⟩
 exact ⟨_, rfl, g, ⟨Ext.refl _ _, same_inv hI hB, Nat.le_refl _⟩, rfl⟩
end Go.Abs.Try
namespace Go.Abs.Try
theorem k16 (N : Nat) (hN : N ≤ 4611686018427387904) : TOk Proofs.Try.prog 16 (t16 N) := k16of N (k24 N hN) (k25 N hN)
end Go.Abs.Try
