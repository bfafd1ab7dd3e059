import Derived.Test.YtecjmbaepioobaaGreatAbs17toAbs19e
set_option linter.unusedSimpArgs false
set_option linter.unusedVariables false
namespace Go.Abs
open Go.RowKit
variable {E : Env} {g : Ghost} {σ : Store} {w : World}
theorem nilSl_eq {v : AV} (h : nilSl v = some ()) : ∃ sz, v = .sl true sz [] := by
 cases v with
 | sl f sz es => cases f <;> cases es <;> first | exact ⟨_, rfl⟩ | cases h
 | _ => cases h
theorem Reps.setAt {g : Ghost} {n : Nat} {c : AV} {v : Value} (hc : Rep g c n v) : ∀ {cs : List AV} {vs : List Value} {i : Nat}, Reps g cs n vs → vs[i]? = some v → Reps g (cs.set i c) n vs
 | [], _, _, h, _ => h
 | _ :: _, _, 0, ⟨v', vs', e, _, h2⟩, hi => by
   subst e
   simp at hi; subst hi
   exact ⟨v', vs', rfl, hc, h2⟩
 | _ :: cs, _, i + 1, ⟨v', vs', e, h1, h2⟩, hi => by
   subst e
   exact ⟨v', vs', rfl, h1, Reps.setAt hc h2 (by simpa using hi)⟩
theorem rename_cell (hI : Inv g σ w) {id off : Nat} {cs : List AV} (hid : σ[id]? = some (.var cs)) {c : AV} (hc : ∀ vs t, w.heap[g.blk id]? = some (.cells vs t (0, 0)) → Reps g cs σ.length vs.toList → ∀ v, vs.toList[off]? = some v → Rep g c σ.length v) (hoff : off < cs.length) :
   Moved g g σ (σ.set id (.var (cs.set off c))) w := by
 refine ⟨Ext.refl g _, ?_, by simp⟩
 refine hI.change id (Ext.refl g _) (by simp) (fun j hj => set_other j hj) (fun _ _ => rfl) (fun _ _ _ => rfl) (Below.refl _ _) (Nat.le_refl _) (fun _ _ _ h => .inl h) (fun o ho => ?_)
 rw [set_same hid] at ho
 injection ho with ho
 subst ho
 obtain ⟨vs, t, h1, h2⟩ := hI.objs id _ hid
 have hl := Reps.length h2
 have hlt : off < vs.toList.length := by omega
 refine ⟨⟨vs, t, h1, ?_⟩, fun b hb => ?_⟩
 · rw [List.length_set]
   exact Reps.setAt (hc vs t h1 h2 _ (List.getElem?_eq_getElem hlt)) h2 (List.getElem?_eq_getElem hlt)
 · have hold : owned g id (.var cs) = some b := hb
   obtain ⟨h3, h4, h5⟩ := hI.sep id _ b hid hold
   exact ⟨.inr ⟨_, hid, hold⟩, h4, h5⟩
theorem getD_lt {cs : List AV} {i : Nat} {c : AV} (h : cs.getD i .top = c) (hc : c ≠ .top) : cs[i]? = some c ∧ i < cs.length := by
 rw [List.getD_eq_getElem?_getD] at h
 cases hx : cs[i]? with
 | none => rw [hx] at h; exact absurd h.symm hc
 | some d =>
   rw [hx] at h
   exact ⟨by rw [← h]; rfl, (List.getElem?_eq_some_iff.1 hx).1⟩
theorem FrOk.setAt {n : Nat} {fr : Fr} {tmps : Array Value} (h : FrOk g n fr tmps) {t : Nat} {c : AV} (hc : Rep g c n (tmps.getD t undef)) : FrOk g n (fr.set t c) tmps := by
 obtain ⟨h1, h2⟩ := h
 refine ⟨by simpa using h1, fun i d hi => ?_⟩
 by_cases hit : i = t
 · subst hit
   rcases Nat.lt_or_ge i fr.length with hl | hl
   · rw [List.getElem?_set_self hl] at hi
     injection hi with hi
     subst hi; exact hc
   · rw [List.getElem?_eq_none (by simpa using hl)] at hi; cases hi
 · rw [List.getElem?_set_ne (by omega)] at hi
   exact h2 i d hi
theorem aFix1_sound (hI : Inv g σ w) {fr : Fr} {tmps : Array Value} (hf : FrOk g σ.length fr tmps) {x : Fix} {p : Fr × Store} (h : aFix1 fr σ x = some p) : ∃ g', Moved g g' σ p.2 w ∧ FrOk g' p.2.length p.1 tmps := by
 cases x with
 | own t sz =>
   obtain ⟨_, hn, h1⟩ := bindO_eq h
   injection h1 with h1
   subst h1
   obtain ⟨s0, hs⟩ := nilSl_eq hn
   have hr := hf.getD t
   rw [hs] at hr
   obtain ⟨a, cap, e, _, hc, _⟩ := hr
   have hc0 : cap = 0 := hc rfl
   subst hc0
   obtain ⟨g', hm, hh⟩ := hI.pushRow (sz := sz) (es := []) (a := a) (cap := 0) (fun _ _ => rfl) (Below.refl _ _) (Nat.le_refl _) (fun _ h => by simp at h) (.inl ⟨rfl, rfl⟩) (fun _ _ h => by omega)
   refine ⟨g', hm, (hf.mono hm.ext hm.len).setAt ⟨by simp, ?_, ?_⟩⟩
   · rw [e]; exact hh
   · rw [e]; rfl
 | ownS id off sz =>
   obtain ⟨cs, hcs, h1⟩ := bindO_eq h
   obtain ⟨_, hn, h1⟩ := bindO_eq h1
   injection h1 with h1
   subst h1
   have hid := objVar_eq hcs
   obtain ⟨s0, hs⟩ := nilSl_eq hn
   obtain ⟨hget, hoff⟩ := getD_lt hs (by simp)
   obtain ⟨vs, t, hb, hr⟩ := hI.objs id _ hid
   obtain ⟨v, hv, hrv⟩ := Reps.get hr hget
   obtain ⟨a, cap, e, _, hc, _⟩ := hrv
   have hc0 : cap = 0 := hc rfl
   subst hc0
   obtain ⟨g', hm, hh⟩ := hI.pushRow (sz := sz) (es := []) (a := a) (cap := 0) (fun _ _ => rfl) (Below.refl _ _) (Nat.le_refl _) (fun _ h => by simp at h) (.inl ⟨rfl, rfl⟩) (fun _ _ h => by omega)
   have hlt : id < σ.length := (List.getElem?_eq_some_iff.1 hid).1
   have hid' : (σ ++ [AObj.row sz 0 []])[id]? = some (.var cs) := by rw [List.getElem?_append_left hlt]; exact hid
   have hblk : g'.blk id = g.blk id := hm.ext.blk id hlt
   have hm2 := rename_cell hm.inv hid' (off := off) (c := .rs σ.length 0) (fun vs' t' hb' _ v' hv' => by
     rw [hblk, hb] at hb'
     injection hb' with hb'
     injection hb' with hb' _
     subst hb'
     rw [hv] at hv'
     injection hv' with hv'
     subst hv'
     exact ⟨by simp, by rw [e]; exact hh, by rw [e]; rfl⟩) hoff
   have hset : (σ ++ [AObj.row sz 0 []]).set id (.var (cs.set off (.rs σ.length 0))) = σ.set id (.var (cs.set off (.rs σ.length 0))) ++ [AObj.row sz 0 []] := by
     rw [List.set_append_left _ _ hlt]
   rw [hset] at hm2
   refine ⟨g', ⟨hm.ext, hm2.inv, by simp⟩, ?_⟩
   have := hf.mono hm.ext hm.len
   simpa using this
 | frz t =>
   obtain ⟨q, hq, h1⟩ := bindO_eq h
   injection h1 with h1
   subst h1
   obtain ⟨g', hfz, hr⟩ := freeze_sound hI (Nat.le_refl _) (v' := q.1) (σ' := q.2) hq (hf.getD t)
   refine ⟨g', ⟨hfz.ext, hfz.inv, Nat.le_of_eq hfz.len.symm⟩, ?_⟩
   have h2 := hf.mono hfz.ext (Nat.le_refl _)
   show FrOk g' q.2.length _ _
   rw [hfz.len]
   exact h2.setAt (Rep.mono (Ext.refl g' 0) q.1 0 _ _ (Nat.le_refl _) (Nat.zero_le _) hr)
 | frzS id off =>
   obtain ⟨cs, hcs, h1⟩ := bindO_eq h
   obtain ⟨q, hq, h1⟩ := bindO_eq h1
   obtain ⟨cs2, hcs2, h1⟩ := bindO_eq h1
   injection h1 with h1
   subst h1
   have hid := objVar_eq hcs
   have hid2 := objVar_eq hcs2
   obtain ⟨vs, t, hb, hr⟩ := hI.objs id _ hid
   by_cases hoff : off < cs2.length
   · have hlen1 : vs.toList.length = cs.length := Reps.length hr
     have hcase : cs.getD off .top ≠ .top := fun e => by rw [e] at hq; cases hq
     obtain ⟨hget, hoff1⟩ := getD_lt rfl hcase
     obtain ⟨v, hv, hrv⟩ := Reps.get hr hget
     obtain ⟨g', hfz, hr'⟩ := freezeL_sound hI (v' := q.1) (σ' := q.2) hq hrv
     have hm2 := rename_cell hfz.inv hid2 (off := off) (c := q.1) (fun vs' t' hb' _ v' hv' => by
       rw [hfz.blk, hb] at hb'
       injection hb' with hb'
       injection hb' with hb' _
       subst hb'
       rw [hv] at hv'
       injection hv' with hv'
       subst hv'
       exact Rep.mono (Ext.refl g' 0) q.1 0 _ _ (Nat.le_refl _) (Nat.zero_le _) hr') hoff
     refine ⟨g', ⟨hfz.ext, hm2.inv, by simp [hfz.len]⟩, ?_⟩
     have := hf.mono hfz.ext (Nat.le_refl _)
     simpa [hfz.len] using this
   · have hcase : cs.getD off .top ≠ .top := fun e => by rw [e] at hq; cases hq
     obtain ⟨hget, hoff1⟩ := getD_lt rfl hcase
     obtain ⟨v, hv, hrv⟩ := Reps.get hr hget
     obtain ⟨g', hfz, hr'⟩ := freezeL_sound hI (v' := q.1) (σ' := q.2) hq hrv
     obtain ⟨vs2, t2, hb2, hr2⟩ := hfz.inv.objs id _ hid2
     rw [hfz.blk, hb] at hb2
     injection hb2 with hb2
     injection hb2 with hb2 _
     subst hb2
     have := Reps.length hr2
     have := Reps.length hr
     omega
 | app t sz =>
   obtain ⟨q, hq, h1⟩ := bindO_eq h
   injection h1 with h1
   subst h1
   obtain ⟨g', hm, hr, _⟩ := toApp_sound hI (Nat.le_refl _) (v' := q.1) (σ' := q.2) hq (hf.getD t)
   exact ⟨g', hm, (hf.mono hm.ext hm.len).setAt hr⟩
 | appS id off sz =>
   obtain ⟨cs, hcs, h1⟩ := bindO_eq h
   obtain ⟨q, hq, h1⟩ := bindO_eq h1
   obtain ⟨cs2, hcs2, h1⟩ := bindO_eq h1
   injection h1 with h1
   subst h1
   have hid := objVar_eq hcs
   have hid2 := objVar_eq hcs2
   obtain ⟨vs, t, hb, hr⟩ := hI.objs id _ hid
   have hcase : cs.getD off .top ≠ .top := fun e => by rw [e] at hq; cases hq
   obtain ⟨hget, hoff1⟩ := getD_lt rfl hcase
   obtain ⟨v, hv, hrv⟩ := Reps.get hr hget
   obtain ⟨g', hm, hr', hblk⟩ := toApp_sound hI (Nat.le_refl _) (v' := q.1) (σ' := q.2) hq hrv
   have hlen : cs2.length = cs.length := by
     obtain ⟨vs2, t2, hb2, hr2⟩ := hm.inv.objs id _ hid2
     rw [hblk, hb] at hb2
     injection hb2 with hb2
     injection hb2 with hb2 _
     subst hb2
     have := Reps.length hr2
     have := Reps.length hr
     omega
   have hm2 := rename_cell hm.inv hid2 (off := off) (c := q.1) (fun vs' t' hb' _ v' hv' => by
     rw [hblk, hb] at hb'
     injection hb' with hb'
     injection hb' with hb' _
     subst hb'
     rw [hv] at hv'
     injection hv' with hv'
     subst hv'
     exact hr') (by omega)
   refine ⟨g', ⟨hm.ext, hm2.inv, by simpa using hm.len⟩, ?_⟩
   have := hf.mono hm.ext hm.len
   simpa using this
theorem aFix_sound : ∀ (l : List Fix) {g : Ghost} {σ : Store} {w : World} {fr : Fr} {tmps : Array Value} {p : Fr × Store}, Inv g σ w → FrOk g σ.length fr tmps → aFix l fr σ = some p → ∃ g', Moved g g' σ p.2 w ∧ FrOk g' p.2.length p.1 tmps
 | [], g, σ, w, fr, tmps, p, hI, hf, h => by
   injection h with h
   subst h
   exact ⟨g, Moved.stay hI, hf⟩
 | x :: l, g, σ, w, fr, tmps, p, hI, hf, h => by
   obtain ⟨q, hq, h1⟩ := bindO_eq h
   obtain ⟨g1, hm, hf1⟩ := aFix1_sound hI hf hq
   obtain ⟨g2, hm2, hf2⟩ := aFix_sound l hm.inv hf1 h1
   exact ⟨g2, ⟨hm.ext.trans hm2.ext hm.len, hm2.inv, Nat.le_trans hm.len hm2.len⟩, hf2⟩
end Go.Abs
namespace Go.Abs
open Go.RowKit
variable {E : Env} {g : Ghost} {σ : Store} {w : World}
def DrawSound (E : Env) (l : List (Nat × Nat)) (ops : Array Oper) : Prop :=
 ∀ (g : Ghost) (σ : Store) (w : World) (fr : Fr) (a : Act) (res : ARes) (n : Nat) (r : Option Nat) (id : Nat) (Q : Exit → Act → World → Prop), Inv g σ w → FrOk g σ.length fr a.tmps →
   aRegS E l ops fr σ (slotsOf l) = some res → (∀ g' a' w', Moved g g' σ res.σ w' → FrOk g' res.σ.length res.fr a'.tmps → a'.defers = a.defers → Q .normal a' w') →
   (Code.region id ops true).wpIn (wideR r) n E.P Q a w
theorem aliB_some {l : List (Nat × Nat)} {x : Option ARes} {r : ARes} (h : aliB l x = some r) : x = some r ∧ aliF l r.fr = true := by
 obtain ⟨r0, h0, h1⟩ := bindO_eq h
 obtain ⟨h2, h3⟩ := iteO_none h1
 injection h3 with h3
 subst h3
 exact ⟨h0, h2⟩
theorem aOps_normal {ops : Array Oper} {fr : Fr} {r : ARes} (h : aOps E ops ops.toList fr σ = some r) : r.e = .normal := (aOps_runI (E := E) ops ops.toList 0 fr σ r (fun j => by simp) h).1
theorem aRegS_normal {l : List (Nat × Nat)} {ops : Array Oper} {fr : Fr} {D : List Nat} {r : ARes} (h : aRegS E l ops fr σ D = some r) : r.e = .normal := by
 cases D with
 | nil => exact aOps_normal (aliB_some h).1
 | cons d D =>
   obtain ⟨q, _, h1⟩ := bindO_eq (aliB_some h).1
   obtain ⟨os, _, h2⟩ := bindO_eq h1
   injection h2 with h2
   subst h2; rfl
theorem moved_ends {a a' : Act} {g' : Ghost} {w' : World} {res : ARes} (hl : E.n0 ≤ σ.length) (hm : Moved g g' σ res.σ w') (hf : FrOk g' res.σ.length res.fr a'.tmps) (hd : a'.defers = a.defers) : Ends E σ.length g a res g' a' w' :=
 ⟨hm.ext.le hl, hm.inv, hm.len, hf, .of_eq hd, hm.ext.blk⟩
theorem Sound.fixed {n : Nat} {rr : Option Nat} {c : Code} {f : Fr → Store → Option ARes} {l : List Fix} (h : Sound E n rr c f) : Sound E n rr c (fun fr σ => bindO (aFix l fr σ) fun q => f q.1 q.2) := by
 intro g σ w fr a r Q hI hl hfr hr hQ
 obtain ⟨q, hq, hr⟩ := bindO_eq hr
 obtain ⟨g1, hm1, hf1⟩ := aFix_sound _ hI hfr hq
 exact h g1 q.2 w q.1 a r Q hm1.inv (Nat.le_trans hl hm1.len) hf1 hr fun g' a' w' hE' => hQ g' a' w' ((moved_ends (res := ⟨.normal, q.1, q.2⟩) hl hm1 hf1 rfl).trans hE' hm1.len)
theorem aev_sound (hE : EnvOk E) (hS : SeqEnv E) {chk : Nat → Array Oper → Bool} (hchk : ∀ id ops, chk id ops = true → DrawSound E (E.ali id) ops) (H : Nat → Hint) (N : Nat) :
   ∀ (c : Code) (n : Nat) (rr : Option Nat) (k : Nat), drawsOk chk c = true → (rr = none ∨ noRange c = true) → Sound E n rr c (aev E H N k c)
 | .skip, n, rr, k, _, _ => fun g σ w fr a r Q hI hl hfr hr hQ => by
   injection hr with hr
   subst hr
   exact wpIn_skip (hQ g a w ⟨Ext.refl g _, hI, Nat.le_refl _, hfr, .of_eq rfl, fun _ _ => rfl⟩)
 | .exit id, n, rr, k, _, _ => fun g σ w fr a r Q hI hl hfr hr hQ => by
   injection hr with hr
   subst hr
   exact wpIn_exit (hQ g a w ⟨Ext.refl g _, hI, Nat.le_refl _, hfr, .of_eq rfl, fun _ _ => rfl⟩)
 | .ret, n, rr, k, _, _ => fun g σ w fr a r Q hI hl hfr hr hQ => by
   injection hr with hr
   subst hr
   exact wpIn_ret (hQ g a w ⟨Ext.refl g _, hI, Nat.le_refl _, hfr, .of_eq rfl, fun _ _ => rfl⟩)
 | .region id ops d, n, rr, k, hd, _ => fun g σ w fr a r Q hI hl hfr hr hQ => by
   have hn : r.e = .normal := by
     cases d with
     | false => exact aOps_normal (aliB_some hr).1
     | true => exact aRegS_normal hr
   have hQ' : ∀ g' a' w', Moved g g' σ r.σ w' → FrOk g' r.σ.length r.fr a'.tmps → a'.defers = a.defers → Q .normal a' w' := fun g' a' w' h1 h2 h3 => by
     have := hQ g' a' w' (moved_ends hl h1 h2 h3)
     rw [hn] at this
     exact this
   cases d with
   | false => exact region_wp hE hI hfr (aliB_some hr).1 hQ'
   | true => exact hchk id ops hd g σ w fr a r n rr id Q hI hfr hr hQ'
 | .seq x y, n, rr, k, hd, hn => fun g σ w fr a r Q hI hl hfr hr hQ => by
   simp only [drawsOk, noRange, Bool.and_eq_true] at hd hn
   obtain ⟨r1, hr1, h1⟩ := bindO_eq hr
   refine wpIn_seq (aev_sound hE hS hchk H N x n rr k hd.1 (hn.imp id And.left) g σ w fr a r1 _ hI hl hfr hr1 fun g' a' w' hE' => ?_)
   obtain ⟨e, fr1, σ1⟩ := r1
   cases e with
   | normal =>
     refine aev_sound hE hS hchk H N y n rr k hd.2 (hn.imp id And.right) g' σ1 w' fr1 a' r Q hE'.inv (Nat.le_trans hl hE'.len) hE'.fr h1 fun g'' a'' w'' hE'' => ?_
     exact hQ g'' a'' w'' (hE'.trans hE'' hE'.len)
   | exit id =>
     injection h1 with h1
     subst h1
     exact hQ g' a' w' hE'
   | ret =>
     injection h1 with h1
     subst h1
     exact hQ g' a' w' hE'
 | .cond x y z, n, rr, k, hd, hn => fun g σ w fr a r Q hI hl hfr hr hQ => by
   simp only [drawsOk, noRange, Bool.and_eq_true] at hd hn
   obtain ⟨t, ht, h1⟩ := bindO_eq hr
   have hx := evalO_rep hfr x
   rw [asB_eq ht] at hx
   refine wpIn_cond (t := t) hx ?_
   rcases iteO_eq h1 with ⟨rfl, h2⟩ | ⟨rfl, h2⟩
   · exact aev_sound hE hS hchk H N y n rr k hd.1 (hn.imp id And.left) g σ w fr a r Q hI hl hfr h2 hQ
   · exact aev_sound hE hS hchk H N z n rr k hd.2 (hn.imp id And.right) g σ w fr a r Q hI hl hfr h2 hQ
 | .block id b, n, rr, k, hd, hn => fun g σ w fr a r Q hI hl hfr hr hQ => by
   obtain ⟨r1, hr1, h1⟩ := bindO_eq hr
   refine wpIn_block (aev_sound hE hS hchk H N b n rr id hd hn g σ w fr a r1 _ hI hl hfr hr1 fun g' a' w' hE' => ?_)
   obtain ⟨e, fr1, σ1⟩ := r1
   cases e with
   | normal =>
     injection h1 with h1
     subst h1
     exact hQ g' a' w' ⟨hE'.ext, hE'.inv, hE'.len, dropFr_ok hE'.fr, hE'.defers, hE'.blk⟩
   | exit j =>
     show if j = id then Q .normal a' w' else Q (.exit j) a' w'
     rcases iteO_eq h1 with ⟨hj, h2⟩ | ⟨hj, h2⟩
     · rw [if_pos (of_decide_eq_true hj)]
       injection h2 with h2
       subst h2
       exact hQ g' a' w' ⟨hE'.ext, hE'.inv, hE'.len, dropFr_ok hE'.fr, hE'.defers, hE'.blk⟩
     · rw [if_neg (of_decide_eq_false hj)]
       injection h2 with h2
       subst h2
       exact hQ g' a' w' hE'
   | ret =>
     injection h1 with h1
     subst h1
     exact hQ g' a' w' hE'
 | .loop b, n, rr, k, hd, hn => fun g σ w fr a r Q hI hl hfr hr hQ => by
   obtain ⟨q, hq, hr⟩ := bindO_eq hr
   obtain ⟨g1, hm1, hf1⟩ := aFix_sound _ hI hfr hq
   obtain ⟨fr1, σ1⟩ := q
   simp only at hr hm1 hf1
   have hl1 : E.n0 ≤ σ1.length := Nat.le_trans hl hm1.len
   refine wpIn_loop_rounds N ?_
   have hlen := keepSl_length (n0 := E.n0) (ks := (H k).head) hm1.inv (Nat.le_refl _)
   refine loop_rounds (aev_sound hE hS hchk H N b n rr k hd hn) (H k).head σ1.length hl1 N (g1.keep E.n0 σ1) _ w _ a r Q (keepSl_inv hm1.inv (Nat.le_refl _)) hlen ?_ hr fun g' a' w' hE' => ?_
   · rw [hlen]; exact keepFr_ok hf1
   · have h0 : Ends E σ.length g a ⟨.normal, fr1, σ1⟩ g1 a w := moved_ends hl hm1 hf1 rfl
     have h1 : Ends E σ1.length g1 a r g' a' w' := ⟨(g1.keep_ext E.n0 σ1).trans hE'.ext (Nat.le_refl _), hE'.inv, hE'.len, hE'.fr, hE'.defers, hE'.blk⟩
     exact hQ g' a' w' (h0.trans h1 hm1.len)
 | .rangeFunc f ps asg body, n, rr, k, hd, hn => by
   simp only [drawsOk, Bool.and_eq_true] at hd
   have hrr : rr = none := hn.resolve_right (by simp [noRange])
   subst hrr
   exact Sound.fixed (range_sound hS (fun n l => aev_sound hE hS hchk H N asg n (some l) k hd.1.1.1 (.inr hd.1.2)) (fun n l => aev_sound hE hS hchk H N body n (some l) k hd.1.1.2 (.inr hd.2)))
 | .label _, _, _, _, _, _ => fun _ _ _ _ _ _ _ _ _ _ hr _ => by cases hr
 | .goto _, _, _, _, _, _ => fun _ _ _ _ _ _ _ _ _ _ hr _ => by cases hr
 | .scope _, _, _, _, _, _ => fun _ _ _ _ _ _ _ _ _ _ hr _ => by cases hr
 | .refuse _, _, _, _, _, _ => fun _ _ _ _ _ _ _ _ _ _ hr _ => by cases hr
end Go.Abs
namespace Go.Abs
open Go.RowKit
variable {E : Env} {g : Ghost} {σ : Store} {w : World}
theorem result_run {P : Program} {t : Nat} {val u : Value} (h : (Instr.loadAt t val).run P w = .ok u w) : (do loadVar t (← asAddr val) : Sem Value).run P w = .ok u w := by
 cases val with
 | pointer a =>
   cases a with
   | some a => exact h
   | none => simp [Instr.loadAt, Instr.sureAddr] at h
 | _ => simp [Instr.loadAt, Instr.sureAddr] at h
theorem results_sound (hE : EnvOk E) (hI : Inv g σ w) {fr : Fr} {tmps : Array Value} (hfr : FrOk g σ.length fr tmps) : ∀ (rs : List ResultVar) (vs : List AV), aResults E fr σ rs = some vs →
   ∃ us : List Value, (rs.mapM (fun | .tmp t => pure (tmps.getD t undef) | .cell a t => do loadVar t (← asAddr (tmps.getD a undef)) : ResultVar → Sem Value)).run E.P w = .ok us w ∧ Reps g vs σ.length us
 | [], vs, h => by
   injection h with h
   subst h
   exact ⟨[], rfl, rfl⟩
 | r :: rs, vs, h => by
   obtain ⟨v, hv, h1⟩ := bindO_eq h
   obtain ⟨vs', hvs, h2⟩ := bindO_eq h1
   injection h2 with h2
   subst h2
   obtain ⟨us, hus, hr⟩ := results_sound hE hI hfr rs vs' hvs
   rw [List.mapM_cons]
   cases r with
   | tmp t =>
     injection hv with hv
     subst hv
     refine ⟨tmps.getD t undef :: us, ?_, _, _, rfl, hfr.getD t, hr⟩
     simp only [Sem.run_bind, Sem.run_pure, Result.andThen, hus]
   | cell a t =>
     obtain ⟨u, hu, hru⟩ := load_sound hE.ty hI hv (hfr.getD a)
     refine ⟨u :: us, ?_, _, _, rfl, hru, hr⟩
     have := result_run hu
     rw [Sem.run_bind, this]
     simp only [Result.andThen, Sem.run_bind, hus, Sem.run_pure]
theorem packed_rep {n : Nat} : ∀ {vs : List AV} {us : List Value}, Reps g vs n us → Rep g (packed vs) n (if h : us.toArray.size = 1 then us.toArray[0] else .tuple us.toArray)
 | [], us, h => by
   have := Reps.length h
   have : us = [] := List.length_eq_zero_iff.1 this
   subst this
   exact ⟨[], rfl, rfl⟩
 | [v], us, h => by
   obtain ⟨u, us', e, h1, h2⟩ := h
   have h2 : us' = [] := h2
   subst h2; subst e
   exact h1
 | v :: v' :: vs, us, h => by
   have := Reps.length h
   rw [dif_neg (by simp [this])]
   exact ⟨us, rfl, h⟩
theorem results_run (hE : EnvOk E) (hI : Inv g σ w) {fn : Func} {fr : Fr} {tmps : Array Value} (hfr : FrOk g σ.length fr tmps) {vs : List AV} (h : aResults E fr σ fn.results.toList = some vs) :
   ∃ u, (results fn tmps).run E.P w = .ok u w ∧ Rep g (packed vs) σ.length u := by
 obtain ⟨us, hus, hr⟩ := results_sound hE hI hfr _ _ h
 refine ⟨_, ?_, packed_rep hr⟩
 unfold results
 rw [Array.mapM_eq_mapM_toList, Sem.run_bind]
 simp only [map_eq_pure_bind, Sem.run_bind]
 exact (congrArg (fun z => Result.andThen (Result.andThen z fun a w' => Sem.run E.P (pure a.toArray) w') fun (a : Array Value) w' => Sem.run E.P (pure (if h : a.size = 1 then a[0] else Value.tuple a)) w') hus).trans rfl
theorem callFunc_enter {P : Program} {f : Nat} {fn : Func} {c : Code} (hf : P.funcs[f]? = some fn) (hb : fn.body = some c) (hn : fn.name ≠ "runtime.NumGoroutine") (args : Array Value) (w : World) :
   (callFunc f args).run P w = .ok (.enter f args) w := by
 unfold callFunc
 simp [hf, hb, hn]
theorem start_fr {fn : Func} {args : List AV} {vs : List Value} {n : Nat} (h : Reps g args n vs) :
   FrOk g n (args ++ List.replicate (fn.ntmps - args.length) AV.top) (vs.toArray ++ Array.replicate (fn.ntmps - vs.toArray.size) undef) := by
 have hl := Reps.length h
 refine ⟨by simp [hl], fun i c hi => ?_⟩
 rcases Nat.lt_or_ge i args.length with h1 | h1
 · rw [List.getElem?_append_left h1] at hi
   obtain ⟨v, hv, hr⟩ := Reps.get h hi
   have : (vs.toArray ++ Array.replicate (fn.ntmps - vs.toArray.size) undef)[i]? = some v := by
     rw [Array.getElem?_append_left (by simp [hl, h1])]
     simpa using hv
   rw [Array.getD_eq_getD_getElem?, this]
   exact hr
 · rw [List.getElem?_append_right h1] at hi
   rw [List.getElem?_replicate] at hi
   split at hi
   · injection hi with hi
     subst hi
     trivial
   · cases hi
theorem Yields.of_calls {P : Program} {f : Nat} {args : Array Value} {w : World} {R : Value → World → Prop} (he : (callFunc f args).run P w = .ok (.enter f args) w)
   (h : Calls P f args w fun e w' => ∃ v, e = .returned v ∧ R v w') : Yields P (callFunc f args) w R := .inr (.inr (.inl ⟨f, args, w, he, h⟩))
def Gone (n0 len : Nat) (g : Ghost) (rs : List AV) (σ' : Store) (e : Ending) (w' : World) : Prop :=
 ∃ v, e = .returned v ∧ ∃ g', Ext g g' n0 ∧ Inv g' σ' w' ∧ len ≤ σ'.length ∧ Rep g' (packed rs) σ'.length v ∧ ∀ id, id < len → g'.blk id = g.blk id
theorem leaves_marks (hE : EnvOk E) {fn : Func} {n : Nat} {gs : Ghost} {fr : Fr} {tmps : Array Value} {rs : List AV} {len : Nat} (hlen : len ≤ σ.length) (hres : aResults E fr σ fn.results.toList = some rs) :
   ∀ (ms : List Nat) (g : Ghost) (w : World), Inv g σ w → FrOk g σ.length fr tmps → Ext gs g E.n0 → (∀ id, id < len → g.blk id = gs.blk id) → ms.Nodup → (∀ D ∈ ms, g.fixed D ∧ ¬ gs.fixed D ∧ w.heap[D]? = some (.deferred (some []))) →
   LeavesInM (wideR none) n E.P fn tmps (Gone E.n0 len gs rs σ) (ms.map mark) .returning w
 | [], g, w, hI, hfr, he, hbk, _, _ => by
   obtain ⟨u, hu, hru⟩ := results_run hE hI hfr hres
   exact ⟨u, hu, u, rfl, g, he, hI, hlen, hru, hbk⟩
 | D :: ms, g, w, hI, hfr, he, hbk, hnd, hms => by
   obtain ⟨hD1, hD2, hD3⟩ := hms D (by simp)
   rw [List.nodup_cons] at hnd
   refine ⟨by simp, .inl ⟨D, _, rfl, run_takeDeferred hD3, ?_⟩⟩
   have hno : ∀ b o v, g.C b o = some v → b ≠ D := fun b o v hv e => by
     have := hI.comm b o v hv
     subst e
     simp [World.cell?, hD3] at this
   have hget : ∀ k, k ≠ D → (w.putObj D (.deferred none)).heap[k]? = w.heap[k]? := fun k hk => World.putObj_heap_other hk
   have hinv := hI.foreign (B := w.putObj D (.deferred none)) (C2 := g.C) g.fixed (fun _ _ _ h => h)
     (fun b o v hv => by rw [← hI.comm b o v hv]; exact World.cell?_of_block (w := w) (a := ⟨b, o, none⟩) (hget b (hno b o v hv)))
     (fun _ _ _ hv => .inl hv) (fun k _ hnf => hget k fun e => hnf (e ▸ hD1)) (putObj_below _ _ _) (fun k hk => .inl hk) (fun k hk => by rw [World.putObj_size]; exact hI.base k hk)
   refine leaves_marks hE hlen hres ms _ _ hinv (hfr.up ⟨fun _ _ _ h => h, fun _ _ => rfl, fun _ _ _ _ h => h, rfl⟩) ⟨he.C, he.blk, he.hd, he.tie.fix, fun k hk => ?_, (he.tie.str.trans hI.str).trans (putObj_below _ _ _), fun b o v hv hf => ?_, he.tie.G⟩ hbk hnd.2 fun D' hD' => ?_
   · show (w.putObj D (.deferred none)).heap[k]? = _
     rw [hget k fun e => hD2 (e ▸ hk), hI.below k (he.tie.fix k hk), he.tie.same k hk]
   · exact he.tie.low b o v (hI.low b o v hv (he.tie.fix b hf)) hf
   · obtain ⟨h1, h2, h3⟩ := hms D' (by simp [hD'])
     exact ⟨h1, h2, by rw [hget D' fun e => hnd.1 (e ▸ hD')]; exact h3⟩
theorem fn_calls (hE : EnvOk E) (hS : SeqEnv E) {chk : Nat → Array Oper → Bool} (hchk : ∀ id ops, chk id ops = true → DrawSound E (E.ali id) ops) {f : Nat} {fn : Func} {c : Code} (hf : E.P.funcs[f]? = some fn) (hb : fn.body = some c) (hd : drawsOk chk c = true)
   {H : Nat → Hint} {N : Nat} {args : List AV} {σ' : Store} {rs : List AV} (h : aFn E fn H N args σ = some (rs, σ')) (hn0 : E.n0 ≤ σ.length) (hI : Inv g σ w) {vs : List Value} (hr : Reps g args σ.length vs) :
   Calls E.P f vs.toArray w (Gone E.n0 σ.length g rs σ') := by
 obtain ⟨c', hc', h1⟩ := bindO_eq h
 rw [hb] at hc'
 injection hc' with hc'
 subst hc'
 obtain ⟨r, hr1, h2⟩ := bindO_eq h1
 have hw : CallsIn (wideR none) 0 E.P f vs.toArray w (Gone E.n0 σ.length g rs σ') := by
   refine callsIn_of_wp_marks hf hb trivial ?_
   refine aev_sound hE hS hchk H N c 0 none 0 hd (.inl rfl) g σ w _ _ r _ hI hn0 (start_fr hr) hr1 fun g' a' w' hEnd => ?_
   have key : aResults E r.fr r.σ fn.results.toList = some rs → r.σ = σ' → LeavesInM (wideR none) 0 E.P fn a'.tmps (Gone E.n0 σ.length g rs σ') a'.defers .returning w' := fun hvs hσ => by
     subst hσ
     obtain ⟨ms, hms, hnd, hD⟩ := hEnd.defers
     rw [hms, List.append_nil]
     refine leaves_marks hE hEnd.len hvs ms g' w' hEnd.inv hEnd.fr hEnd.ext hEnd.blk hnd fun D hDm => ?_
     obtain ⟨h3, h4, h5⟩ := hD D hDm
     exact ⟨h3, h4, (hEnd.inv.below D h3).trans h5⟩
   obtain ⟨e, fr1, σ1⟩ := r
   cases e with
   | exit id => cases h2
   | normal =>
     obtain ⟨vs', hvs, h3⟩ := bindO_eq h2
     obtain ⟨h4, h5⟩ := pair_inj h3
     subst h4
     exact key hvs h5
   | ret =>
     obtain ⟨vs', hvs, h3⟩ := bindO_eq h2
     obtain ⟨h4, h5⟩ := pair_inj h3
     subst h4
     exact key hvs h5
 exact callsIn_wide.1 hw
end Go.Abs
namespace Go.Abs
open Go.RowKit
variable {E : Env} {g : Ghost} {σ : Store} {w : World}
def ghost0 (P : Program) (C : Nat → Nat → Option Value) (w : World) : Ghost := ⟨C, fun _ => 0, fun _ _ => none, fun b => b < w.heap.size, ⟨w, C, Guest.dummy P⟩⟩
theorem inv0 {P : Program} {C : Nat → Nat → Option Value} (hC : ∀ b o v, C b o = some v → w.cell? ⟨b, o, none⟩ = some v) : Inv (ghost0 P C w) [] w :=
 ⟨hC, fun _ _ h => by simp at h, fun _ _ _ h => by simp at h, fun _ _ _ _ _ h => by simp at h, fun _ _ => rfl, Below.refl _ _, fun _ h => h, fun _ _ _ h _ => h, fun _ _ h => by simp at h⟩
structure Left (C : Nat → Nat → Option Value) (w w' : World) (C' : Nat → Nat → Option Value) : Prop where
 below : Below w.heap.size w w'
 up : ∀ b o v, C b o = some v → C' b o = some v
 low : ∀ b o v, C' b o = some v → b < w.heap.size → C b o = some v
 comm : ∀ b o v, C' b o = some v → w'.cell? ⟨b, o, none⟩ = some v
theorem pure_core (hE : EnvOk E) (hS : SeqEnv E) (h0 : E.n0 = 0) {chk : Nat → Array Oper → Bool} (hchk : ∀ id ops, chk id ops = true → DrawSound E (E.ali id) ops) {f : Nat} {fn : Func} {c : Code} (hf : E.P.funcs[f]? = some fn) (hb : fn.body = some c) (hd : drawsOk chk c = true)
   {H : Nat → Hint} {N : Nat} {args : List AV} {v : AV} (h : aPure E fn H N args = some v) {C : Nat → Nat → Option Value} (hC : ∀ b o v, C b o = some v → w.cell? ⟨b, o, none⟩ = some v) {vs : List Value} (hr : Reps (ghost0 E.P C w) args 0 vs) :
   Calls E.P f vs.toArray w fun e w' => ∃ val, e = .returned val ∧ ∃ g', Rep g' v 0 val ∧ Left C w w' g'.C := by
 obtain ⟨q, hq, h1⟩ := bindO_eq h
 obtain ⟨p, hp, h2⟩ := bindO_eq h1
 injection h2 with h2
 subst h2
 refine (fn_calls hE hS hchk hf hb hd (rs := q.1) (σ' := q.2) hq (by rw [h0]; exact Nat.zero_le _) (inv0 hC) hr).mono ?_
 rintro e w' ⟨val, rfl, g', he, hI, hl, hrep, _⟩
 refine ⟨val, rfl, ?_⟩
 -- freeze what is returned
 have key : ∃ g'', Frozen g' g'' q.2 p.2 w' ∧ Rep g'' (packed p.1) 0 val := by
   obtain ⟨rs, σ1⟩ := q
   simp only at hp hrep hI
   cases rs with
   | nil =>
     injection hp with hp
     subst hp
     obtain ⟨us, e, hus⟩ := hrep
     exact ⟨g', Frozen.refl hI, us, e, hus⟩
   | cons r rs' =>
     cases rs' with
     | nil =>
       obtain ⟨p1, hp1, h3⟩ := bindO_eq hp
       obtain ⟨p2, hp2, h4⟩ := bindO_eq h3
       injection hp2 with hp2
       subst hp2
       injection h4 with h4
       subst h4
       exact sealV_sound hI (Nat.le_refl _) (v' := p1.1) (σ' := p1.2) hp1 hrep
     | cons r' rs'' =>
       obtain ⟨us, e, hus⟩ := hrep
       obtain ⟨g'', hf, hr'⟩ := sealVs_sound hI (Nat.le_refl _) (cs' := p.1) (σ' := p.2) hp hus
       refine ⟨g'', hf, ?_⟩
       have hlen : us.length = p.1.length := Reps.length hr'
       have hlen' : us.length = rs''.length + 1 + 1 := Reps.length hus
       obtain ⟨p1, p2⟩ := p
       cases p1 with
       | nil => rw [hlen'] at hlen; simp at hlen
       | cons x xs =>
         cases xs with
         | nil => rw [hlen'] at hlen; simp at hlen
         | cons y ys => exact ⟨us, e, hr'⟩
 obtain ⟨g'', hfr, hrep'⟩ := key
 have hext := he.trans (hfr.ext.le (Nat.zero_le _)) (Nat.le_of_eq (by rw [h0]))
 refine ⟨g'', hrep', ⟨?_, ?_, ?_, ?_, fun k hk => ?_⟩, fun b o v hv => hext.C b o v hv, fun b o v hv hb => ?_, hfr.inv.comm⟩
 · exact (hext.tie.str.trans hfr.inv.str).os
 · exact (hext.tie.str.trans hfr.inv.str).tape
 · exact (hext.tie.str.trans hfr.inv.str).output
 · exact (hext.tie.str.trans hfr.inv.str).size
 · exact (hfr.inv.below k (hext.tie.fix k hk)).trans (hext.tie.same k hk)
 · exact hext.tie.low b o v (hfr.inv.low b o v hv (hext.tie.fix b hb)) hb
theorem back_inv (hI : Inv g σ w) {w' : World} {C' : Nat → Nat → Option Value} (hl : Left g.C w w' C') : Inv { g with C := C' } σ w' ∧ Ext g { g with C := C' } σ.length := by
 have he : Ext g { g with C := C' } σ.length := ⟨hl.up, fun _ _ => rfl, fun _ _ _ _ h => h, Tie.refl _ _⟩
 refine ⟨?_, he⟩
 refine hI.change σ.length he (Nat.le_refl _) (fun _ _ => rfl) (fun _ _ => rfl) (fun k hk _ => hl.below.block k hk) (hl.below.mono (Nat.zero_le _)) hl.below.size (fun b o v hv => ?_) (fun o ho => by simp at ho)
 rcases Nat.lt_or_ge b w.heap.size with hb | hb
 · exact .inl (hl.low b o v hv hb)
 · exact .inr ⟨hl.comm b o v hv, .inl hb⟩
theorem same_inv (hI : Inv g σ w) {w' : World} (hl : Below w.heap.size w w') : Inv g σ w' :=
 hI.change σ.length (Ext.refl g _) (Nat.le_refl _) (fun _ _ => rfl) (fun _ _ => rfl) (fun k hk _ => hl.block k hk) (hl.mono (Nat.zero_le _)) hl.size (fun _ _ _ hv => .inl hv) (fun o ho => by simp at ho)
theorem pure_callOk (hE : EnvOk E) (hS : SeqEnv E) (h0 : E.n0 = 0) {chk : Nat → Array Oper → Bool} (hchk : ∀ id ops, chk id ops = true → DrawSound E (E.ali id) ops) {f : Nat} {fn : Func} {c : Code} (hf : E.P.funcs[f]? = some fn) (hb : fn.body = some c) (hn : fn.name ≠ "runtime.NumGoroutine")
   (hd : drawsOk chk c = true) {H : Nat → Hint} {N : Nat} {args : List AV} {v : AV} (h : aPure E fn H N args = some v) (hI : Inv g σ w) {vs : List Value} (hr : Reps g args 0 vs) :
   Yields E.P (callFunc f vs.toArray) w fun val w' => ∃ g', Moved g g' σ σ w' ∧ Rep g' v 0 val := by
 refine Yields.of_calls (callFunc_enter hf hb hn _ _) ((pure_core hE hS h0 hchk hf hb hd h hI.comm (Reps.data (g := g) (g' := ghost0 E.P g.C w) (fun _ _ _ h => h) args 0 vs hr)).mono ?_)
 rintro e w' ⟨val, rfl, g', hrep, hl⟩
 obtain ⟨h1, h2⟩ := back_inv hI hl
 exact ⟨val, rfl, _, ⟨h2, h1, Nat.le_refl _⟩, Rep.data (g := g') (g' := { g with C := g'.C }) (fun _ _ _ h => h) v 0 val hrep⟩
end Go.Abs
namespace Go.Abs
open Go.RowKit
variable {E : Env} {g : Ghost} {σ : Store} {w : World}
def Same (fr fr' : Fr) (x : Operand) : Prop := ∀ t, x = .tmp t → fr.getD t .top = fr'.getD t .top
theorem evalO_same {fr fr' : Fr} {x : Operand} (h : Same fr fr' x) : evalO fr x = evalO fr' x := by
 cases x with
 | tmp t => exact h t rfl
 | _ => rfl
theorem evalOs_same {fr fr' : Fr} : ∀ {xs : List Operand}, (∀ x ∈ xs, Same fr fr' x) → evalOs fr xs = evalOs fr' xs
 | [], _ => rfl
 | x :: xs, h => by
   simp only [evalOs]
   rw [evalO_same (h x (by simp)), evalOs_same (fun y hy => h y (by simp [hy]))]
theorem evalPs_same {fr fr' : Fr} : ∀ {xs : List (Nat × Operand)}, (∀ x ∈ xs, Same fr fr' x.2) → evalPs fr xs = evalPs fr' xs
 | [], _ => rfl
 | (i, x) :: xs, h => by
   simp only [evalPs]
   rw [evalO_same (h (i, x) (by simp)), evalPs_same (fun y hy => h y (by simp [hy]))]
theorem optI_same {fr fr' : Fr} {x : Option Operand} (h : ∀ y, x = some y → Same fr fr' y) : optI fr x = optI fr' x := by
 cases x with
 | none => rfl
 | some o => simp only [optI]; rw [evalO_same (h o rfl)]
theorem aOp_same {fr fr' : Fr} {ty : Nat} {op : Op} (h : ∀ x ∈ op.operands, Same fr fr' x) : aOp E fr σ ty op = aOp E fr' σ ty op := by
 cases op <;> try rfl
 case makeMap t r => cases r <;> rfl
 case move x => simp only [aOp]; rw [evalO_same (h x (by simp [Op.operands]))]
 case assign x => simp only [aOp, aAssign]; rw [evalO_same (h x (by simp [Op.operands]))]
 case pick c a b => simp only [aOp]; rw [evalO_same (h c (by simp [Op.operands])), evalO_same (h a (by simp [Op.operands])), evalO_same (h b (by simp [Op.operands]))]
 case box t x => simp only [aOp]; rw [evalO_same (h x (by simp [Op.operands]))]
 case build t ps =>
   simp only [aOp]
   rw [evalPs_same (fun x hx => h x.2 (by simp only [Op.operands, List.mem_toArray, List.mem_map]; exact ⟨x, hx, rfl⟩))]
 case buildSlice t n ps =>
   simp only [aOp, aBuildSlice]
   rw [evalPs_same (fun x hx => h x.2 (by simp only [Op.operands, List.mem_toArray, List.mem_map]; exact ⟨x, hx, rfl⟩))]
 case load t x => simp only [aOp]; rw [evalO_same (h x (by simp [Op.operands]))]
 case store t a x => simp only [aOp]; rw [evalO_same (h a (by simp [Op.operands])), evalO_same (h x (by simp [Op.operands]))]
 case nilCheck x => simp only [aOp]; rw [evalO_same (h x (by simp [Op.operands]))]
 case binOp op t x y z => simp only [aOp]; rw [evalO_same (h x (by simp [Op.operands])), evalO_same (h y (by simp [Op.operands]))]
 case unOp op t x => simp only [aOp]; rw [evalO_same (h x (by simp [Op.operands]))]
 case convert s d x => simp only [aOp]; rw [evalO_same (h x (by simp [Op.operands]))]
 case makeFunc f first cap => simp only [aOp]; rw [evalOs_same (fun x hx => h x (by simp only [Op.operands, Array.mem_append]; exact .inr (by simpa using hx)))]
 case makeSlice t l c => simp only [aOp, aMakeSlice]; rw [evalO_same (h l (by simp [Op.operands])), evalO_same (h c (by simp [Op.operands]))]
 case slice t x lo hi mx =>
   simp only [aOp]
   rw [evalO_same (h x (by simp [Op.operands])), optI_same (x := lo) (fun y e => h y (by simp [Op.operands, e])), optI_same (x := hi) (fun y e => h y (by simp [Op.operands, e])),
     optI_same (x := mx) (fun y e => h y (by simp [Op.operands, e]))]
 case fieldAddr s x f => simp only [aOp]; rw [evalO_same (h x (by simp [Op.operands]))]
 case field s x f => simp only [aOp]; rw [evalO_same (h x (by simp [Op.operands]))]
 case indexAddr t x i => simp only [aOp]; rw [evalO_same (h x (by simp [Op.operands])), evalO_same (h i (by simp [Op.operands]))]
 case index t x i => simp only [aOp]; rw [evalO_same (h x (by simp [Op.operands])), evalO_same (h i (by simp [Op.operands]))]
 case lookup t m k ok => simp only [aOp]; rw [evalO_same (h m (by simp [Op.operands])), evalO_same (h k (by simp [Op.operands]))]
 case mapUpdate t m k v => simp only [aOp]; rw [evalO_same (h m (by simp [Op.operands])), evalO_same (h k (by simp [Op.operands])), evalO_same (h v (by simp [Op.operands]))]
 case extract x i => simp only [aOp]; rw [evalO_same (h x (by simp [Op.operands]))]
 case call c =>
   have ha : evalOs fr c.args.toList = evalOs fr' c.args.toList := evalOs_same fun x hx => h x (by
     simp only [Op.operands, Call.operands, Array.mem_append]; exact .inr (by simpa using hx))
   simp only [aOp]
   cases hc : c.callee with
   | builtin b => simp only [aCallee]; rw [ha]
   | value f =>
     simp only [aCallee]
     rw [ha, evalO_same (h f (by simp [Op.operands, Call.operands, hc]))]
   | invoke r m => rfl
noncomputable def eff (E : Env) (ops : Array Oper) (o : Oper) (fr : Fr) (σ : Store) : Option (AV × Store) :=
 bindO (wants ops fr o.guard) fun b => iteO b (aOp E fr σ o.type o.op) (some (.tuple [], σ))
theorem stepI_eff {ops : Array Oper} {i : Nat} {o : Oper} (ho : ops[i]? = some o) (fr : Fr) (σ : Store) : stepI E ops i (fr, σ) = bindO (eff E ops o fr σ) fun p => some (setT fr o.dst p.1, p.2) := by
 simp only [stepI, ho, eff]
 cases wants ops fr o.guard with
 | none => rfl
 | some b => cases b <;> rfl
theorem getD_set {fr : Fr} {d : Option Nat} {v : AV} {t : Nat} (h : d ≠ some t) : (setT fr d v).getD t .top = fr.getD t .top := by
 cases d with
 | none => rfl
 | some d =>
   have : d ≠ t := fun e => h (by rw [e])
   simp only [setT, List.getD_eq_getElem?_getD]
   rw [List.getElem?_set_ne this]
theorem eff_same {ops : Array Oper} {o : Oper} {fr fr' : Fr} (h : ∀ t ∈ o.looksAt ops, fr.getD t .top = fr'.getD t .top) : eff E ops o fr σ = eff E ops o fr' σ := by
 have h1 : wants ops fr o.guard = wants ops fr' o.guard := by
   cases hg : o.guard with
   | none => rfl
   | some q =>
     simp only [wants]
     cases hd : (ops[q.1]?).bind (·.dst) with
     | none => rfl
     | some t =>
       simp only [bindO_some]
       rw [h t (by simp [Oper.looksAt, hg, hd])]
 have h2 : aOp E fr σ o.type o.op = aOp E fr' σ o.type o.op := aOp_same fun x hx t e => h t (by
   subst e
   simp only [Oper.looksAt, List.mem_append, List.mem_filterMap]
   exact .inl ⟨.tmp t, by simpa using hx, rfl⟩)
 simp only [eff, h1, h2]
theorem set_comm {fr : Fr} {d d' : Option Nat} {v v' : AV} (h : ∀ t, d = some t → d' ≠ some t) : setT (setT fr d v) d' v' = setT (setT fr d' v') d v := by
 cases d with
 | none => rfl
 | some d =>
   cases d' with
   | none => rfl
   | some d' =>
     have : d ≠ d' := fun e => h d rfl (by rw [e])
     simp only [setT]
     exact List.set_comm _ _ this
def isP (pf : Nat → Bool) : Op → Bool
 | .move _ | .pick .. | .build .. | .nilCheck _ | .binOp .. | .unOp .. | .convert .. | .makeFunc .. | .fieldAddr .. | .field .. | .index .. | .extract .. => true
 | .assign x => !isNilSlice x
 | .call c => match c.callee with
   | .value (.func f) => pf f
   | _ => false
 | _ => false
def isR (pf : Nat → Bool) : Op → Bool
 | .load .. | .indexAddr .. | .lookup .. => true
 | .call c => match c.callee with
   | .value (.func f) => pf f
   | .builtin .len => true
   | .builtin .min => true
   | .builtin .max => true
   | _ => false
 | o => isP pf o
def PureTab (E : Env) (pf : Nat → Bool) : Prop := ∀ f, pf f = true → ∀ args σ v σ', E.tab f args σ = some (v, σ') → σ' = σ ∧ ∀ σ2, E.tab f args σ2 = some (v, σ2)
theorem keepS_P {x : Option AV} {p : AV × Store} (h : keepS σ x = some p) : p.2 = σ ∧ ∀ σ2, keepS σ2 x = some (p.1, σ2) := by
 obtain ⟨u, hu, h⟩ := bindO_eq h
 injection h with h
 subst h
 exact ⟨rfl, fun σ2 => by rw [hu]; rfl⟩
theorem aOp_P {pf : Nat → Bool} (hp : PureTab E pf) {fr : Fr} {ty : Nat} {op : Op} (hop : isP pf op = true) {p : AV × Store} (h : aOp E fr σ ty op = some p) :
   p.2 = σ ∧ ∀ σ2, aOp E fr σ2 ty op = some (p.1, σ2) := by
 cases op <;> try (cases hop; done)
 case move x => injection h with h; subst h; exact ⟨rfl, fun _ => rfl⟩
 case assign x =>
   have hx : isNilSlice x = false := by simpa [isP] using hop
   simp only [aOp, aAssign, hx] at h ⊢
   injection h with h; subst h; exact ⟨rfl, fun _ => rfl⟩
 case pick c a b =>
   simp only [aOp] at h ⊢
   obtain ⟨t, ht, h⟩ := bindO_eq h
   rcases iteO_eq h with ⟨rfl, h⟩ | ⟨rfl, h⟩ <;> (injection h with h; subst h; exact ⟨rfl, fun _ => by rw [ht]; rfl⟩)
 case build t ps =>
   simp only [aOp] at h ⊢
   obtain ⟨ti, h1, h⟩ := bindO_eq h
   obtain ⟨k, h2, h⟩ := bindO_eq h
   obtain ⟨cs, h3, h⟩ := bindO_eq h
   injection h with h; subst h
   exact ⟨rfl, fun _ => by rw [h1, bindO_some, h2, bindO_some, h3]; rfl⟩
 case nilCheck x => exact keepS_P h
 case binOp => exact keepS_P h
 case unOp => exact keepS_P h
 case convert => exact keepS_P h
 case makeFunc f first cap =>
   simp only [aOp] at h ⊢
   obtain ⟨f', h1, h⟩ := bindO_eq h
   injection h with h; subst h
   exact ⟨rfl, fun _ => by rw [h1]; rfl⟩
 case fieldAddr => exact keepS_P h
 case field => exact keepS_P h
 case index => exact keepS_P h
 case extract x i =>
   simp only [aOp] at h ⊢
   obtain ⟨vs, h1, h⟩ := bindO_eq h
   obtain ⟨v, h2, h⟩ := bindO_eq h
   injection h with h; subst h
   exact ⟨rfl, fun _ => by rw [h1, bindO_some, h2]; rfl⟩
 case call c =>
   simp only [aOp, isP] at h hop ⊢
   cases hc : c.callee with
   | builtin b => rw [hc] at hop; cases hop
   | invoke r m => rw [hc] at hop; cases hop
   | value f =>
     rw [hc] at hop h
     cases f with
     | func f =>
       exact hp f hop _ σ p.1 p.2 h
     | _ => cases hop
theorem len_R {ts : Array TypeId} {p : AV × Store} : ∀ (xs : List AV), aBuiltin E σ ts .len xs = some p → p.2 = σ
 | [_], h => (keepS_P h).1
 | [], h => by cases h
 | _ :: _ :: _, h => by cases h
theorem min_R {ts : Array TypeId} {p : AV × Store} : ∀ (xs : List AV), aBuiltin E σ ts .min xs = some p → p.2 = σ
 | [_, _], h => (keepS_P h).1
 | [], h => by cases h
 | [_], h => by cases h
 | _ :: _ :: _ :: _, h => by cases h
theorem max_R {ts : Array TypeId} {p : AV × Store} : ∀ (xs : List AV), aBuiltin E σ ts .max xs = some p → p.2 = σ
 | [_, _], h => (keepS_P h).1
 | [], h => by cases h
 | [_], h => by cases h
 | _ :: _ :: _ :: _, h => by cases h
theorem aOp_R {pf : Nat → Bool} (hp : PureTab E pf) {fr : Fr} {ty : Nat} {op : Op} (hop : isR pf op = true) {p : AV × Store} (h : aOp E fr σ ty op = some p) : p.2 = σ := by
 by_cases hP : isP pf op = true
 · exact (aOp_P hp hP h).1
 cases op <;> try (exact absurd hop hP)
 case load => exact (keepS_P h).1
 case indexAddr => exact (keepS_P h).1
 case lookup => exact (keepS_P h).1
 case call c =>
   simp only [aOp, isR] at h hop
   cases hc : c.callee with
   | invoke r m => rw [hc] at hop; cases hop
   | value f =>
     rw [hc] at hop
     simp only [isP, hc] at hP
     cases f with
     | func f => exact absurd hop hP
     | _ => cases hop
   | builtin b =>
     rw [hc] at hop h
     simp only [aCallee] at h
     cases b <;> try (cases hop; done)
     · exact len_R _ h
     · exact max_R _ h
     · exact min_R _ h
theorem eff_P {pf : Nat → Bool} (hp : PureTab E pf) {ops : Array Oper} {o : Oper} {fr : Fr} (hop : isP pf o.op = true) {p : AV × Store} (h : eff E ops o fr σ = some p) : p.2 = σ ∧ ∀ σ2, eff E ops o fr σ2 = some (p.1, σ2) := by
 obtain ⟨b, hb, h1⟩ := bindO_eq h
 simp only [eff, hb, bindO_some]
 rcases iteO_eq h1 with ⟨rfl, h2⟩ | ⟨rfl, h2⟩
 · exact aOp_P hp hop h2
 · injection h2 with h2; subst h2; exact ⟨rfl, fun _ => rfl⟩
theorem eff_R {pf : Nat → Bool} (hp : PureTab E pf) {ops : Array Oper} {o : Oper} {fr : Fr} (hop : isR pf o.op = true) {p : AV × Store} (h : eff E ops o fr σ = some p) : p.2 = σ := by
 obtain ⟨b, hb, h1⟩ := bindO_eq h
 rcases iteO_eq h1 with ⟨rfl, h2⟩ | ⟨rfl, h2⟩
 · exact aOp_R hp hop h2
 · injection h2 with h2; subst h2; rfl
def KeepsL (σ σ2 : Store) : Prop := ∀ id : Nat, (∀ cs, objVar σ[id]? = some cs → objVar σ2[id]? = some cs) ∧ ∀ ver p, curR σ id ver = some p → curR σ2 id ver = some p
theorem KeepsL.refl (σ : Store) : KeepsL σ σ := fun _ => ⟨fun _ h => h, fun _ _ h => h⟩
theorem KeepsL.trans {a b c : Store} (h : KeepsL a b) (h2 : KeepsL b c) : KeepsL a c := fun id => ⟨fun cs e => (h2 id).1 cs ((h id).1 cs e), fun v p e => (h2 id).2 v p ((h id).2 v p e)⟩
theorem KeepsL.push (σ : Store) (o : AObj) : KeepsL σ (σ ++ [o]) := fun id => by
 unfold curR
 by_cases h : id < σ.length
 · rw [List.getElem?_append_left h]; exact ⟨fun _ h => h, fun _ _ h => h⟩
 · rw [List.getElem?_eq_none (by omega)]
   exact ⟨fun _ h => by simp [objVar] at h, fun _ _ h => by simp [objRowR] at h⟩
theorem KeepsL.frz (σ : Store) (id sz v : Nat) (es : List (List AV)) (h : σ[id]? = some (.row sz v es)) : KeepsL σ (σ.set id (.frz sz v es)) := fun j => by
 unfold curR
 by_cases hj : id = j
 · subst hj
   rw [h, List.getElem?_set_self (List.getElem?_eq_some_iff.1 h).1]
   exact ⟨fun _ h => by simp [objVar] at h, fun _ _ h => by simpa [objRowR] using h⟩
 · rw [List.getElem?_set_ne hj]; exact ⟨fun _ h => h, fun _ _ h => h⟩
theorem KeepsL.frzA (σ : Store) (id sz v : Nat) (es : List (List AV)) (h : σ[id]? = some (.app sz v es)) : KeepsL σ (σ.set id (.frz sz v es)) := fun j => by
 unfold curR
 by_cases hj : id = j
 · subst hj
   rw [h, List.getElem?_set_self (List.getElem?_eq_some_iff.1 h).1]
   exact ⟨fun _ h => by simp [objVar] at h, fun _ _ h => by simpa [objRowR] using h⟩
 · rw [List.getElem?_set_ne hj]; exact ⟨fun _ h => h, fun _ _ h => h⟩
theorem load_keeps {σ2 : Store} (hk : KeepsL σ σ2) {t : Nat} {a v : AV} (h : aLoad E σ t a = some v) : aLoad E σ2 t a = some v := by
 obtain ⟨ti, ht, h⟩ := bindO_eq h
 simp only [aLoad, ht, bindO_some]
 cases a with
 | ptr id off =>
   obtain ⟨cs, h1, h2⟩ := bindO_eq h
   simp only [aLoadV, (hk id).1 cs h1]; exact h2
 | rptr id ver sz i off =>
   obtain ⟨p, h1, h2⟩ := bindO_eq h
   simp only [aLoadV, (hk id).2 ver p h1]; exact h2
 | cref cs => exact h
 | _ => simp [aLoadV] at h
theorem freezeL_keeps {c : AV} {p : AV × Store} (h : freezeL σ c = some p) : KeepsL σ p.2 := by
 cases c <;> simp only [freezeL] at h <;> try (first | (injection h with h; subst h; exact KeepsL.refl _) | cases h)
 case rs id ver =>
   unfold objFrz at h
   split at h
   · rename_i sz v es heq
     obtain ⟨_, h1⟩ := iteO_none h
     injection h1 with h1
     subst h1
     exact KeepsL.frz σ id sz v es heq
   · obtain ⟨_, h1⟩ := iteO_none h
     injection h1 with h1
     subst h1
     exact KeepsL.refl _
   · rename_i sz v es heq
     obtain ⟨_, h1⟩ := iteO_none h
     injection h1 with h1
     subst h1
     exact KeepsL.frzA σ id sz v es heq
   · cases h
theorem freezeLs_keeps : ∀ {cs : List AV} {σ : Store} {p : List AV × Store}, freezeLs σ cs = some p → KeepsL σ p.2
 | [], σ, p, h => by injection h with h; subst h; exact KeepsL.refl _
 | c :: cs, σ, p, h => by
   obtain ⟨q, h1, h2⟩ := bindO_eq h
   obtain ⟨r, h3, h4⟩ := bindO_eq h2
   injection h4 with h4
   subst h4
   show KeepsL σ r.2
   exact (freezeL_keeps h1).trans (freezeLs_keeps h3)
theorem freeze_keeps {c : AV} {p : AV × Store} (h : freeze σ c = some p) : KeepsL σ p.2 := by
 cases c <;> simp only [freeze] at h <;> try (first | (injection h with h; subst h; exact KeepsL.refl _) | cases h)
 case rs id ver => exact freezeL_keeps h
 case agg cs =>
   obtain ⟨q, h1, h2⟩ := bindO_eq h
   injection h2 with h2
   subst h2
   exact freezeLs_keeps h1
theorem elems_keeps {sz : Nat} : ∀ {ps : List (Nat × AV)} {σ : Store} {es : List (List AV)} {p : List (List AV) × Store}, aBuildElems σ sz ps es = some p → KeepsL σ p.2
 | [], σ, es, p, h => by injection h with h; subst h; exact KeepsL.refl _
 | (i, v) :: ps, σ, es, p, h => by
   obtain ⟨q, h1, h2⟩ := bindO_eq h
   obtain ⟨us, _, h3⟩ := bindO_eq h2
   obtain ⟨_, h4⟩ := iteO_none h3
   exact (freeze_keeps h1).trans (elems_keeps h4)
def isLd : Op → Bool
 | .load .. => true
 | _ => false
def isFz : Op → Bool
 | .alloc .. | .buildSlice .. => true
 | _ => false
theorem aOp_Ld {fr : Fr} {ty : Nat} {op : Op} (hop : isLd op = true) {p : AV × Store} (h : aOp E fr σ ty op = some p) : p.2 = σ ∧ ∀ σ2, KeepsL σ σ2 → aOp E fr σ2 ty op = some (p.1, σ2) := by
 cases op <;> try (cases hop; done)
 case load t a =>
   obtain ⟨u, hu, h⟩ := bindO_eq h
   injection h with h
   subst h
   exact ⟨rfl, fun σ2 hk => by simp only [aOp, keepS, load_keeps hk hu, bindO_some]⟩
theorem aOp_Fz {fr : Fr} {ty : Nat} {op : Op} (hop : isFz op = true) {p : AV × Store} (h : aOp E fr σ ty op = some p) : KeepsL σ p.2 := by
 cases op <;> try (cases hop; done)
 case alloc t =>
   obtain ⟨ti, _, h⟩ := bindO_eq h
   injection h with h
   subst h
   exact KeepsL.push _ _
 case buildSlice t n ps =>
   simp only [aOp, aBuildSlice] at h
   obtain ⟨_, _, h⟩ := bindO_eq h
   obtain ⟨_, _, h⟩ := bindO_eq h
   obtain ⟨_, _, h⟩ := bindO_eq h
   obtain ⟨_, h⟩ := iteO_none h
   obtain ⟨q, hq, h⟩ := bindO_eq h
   injection h with h
   subst h
   exact elems_keeps hq
theorem eff_Ld {ops : Array Oper} {o : Oper} {fr : Fr} (hop : isLd o.op = true) {p : AV × Store} (h : eff E ops o fr σ = some p) : p.2 = σ ∧ ∀ σ2, KeepsL σ σ2 → eff E ops o fr σ2 = some (p.1, σ2) := by
 obtain ⟨b, hb, h1⟩ := bindO_eq h
 simp only [eff, hb, bindO_some]
 rcases iteO_eq h1 with ⟨rfl, h2⟩ | ⟨rfl, h2⟩
 · exact aOp_Ld hop h2
 · injection h2 with h2; subst h2; exact ⟨rfl, fun _ _ => rfl⟩
theorem eff_Fz {ops : Array Oper} {o : Oper} {fr : Fr} (hop : isFz o.op = true) {p : AV × Store} (h : eff E ops o fr σ = some p) : KeepsL σ p.2 := by
 obtain ⟨b, hb, h1⟩ := bindO_eq h
 rcases iteO_eq h1 with ⟨rfl, h2⟩ | ⟨rfl, h2⟩
 · exact aOp_Fz hop h2
 · injection h2 with h2; subst h2; exact KeepsL.refl _
def isIx : Op → Bool
 | .indexAddr .. => true
 | .lookup .. => true
 | _ => false
def isAl : Op → Bool
 | .alloc .. => true
 | _ => false
theorem cur_push {id ver : Nat} {p : Nat × List (List AV)} (o : AObj) (h : curA σ id ver = some p) : curA (σ ++ [o]) id ver = some p := by
 have h1 : id < σ.length := by rcases curA_eq h with h1 | h1 <;> exact (List.getElem?_eq_some_iff.1 h1).1
 unfold curA at h ⊢
 rw [List.getElem?_append_left h1]; exact h
theorem indexAddr_push {t : Nat} {x i v : AV} (o : AObj) (h : aIndexAddr E σ t x i = some v) : aIndexAddr E (σ ++ [o]) t x i = some v := by
 obtain ⟨ti, ht, h⟩ := bindO_eq h
 obtain ⟨n, hn, h⟩ := bindO_eq h
 simp only [aIndexAddr, ht, hn, bindO_some]
 cases hk1 : ti.k with
 | slice e =>
   rw [hk1] at h
   obtain ⟨ei, he, h⟩ := bindO_eq h
   simp only [aIndexAddrK, he, bindO_some]
   cases x with
   | rs id ver =>
     obtain ⟨p, h1, h2⟩ := bindO_eq h
     simp only [aAtSlice, cur_push o h1]; exact h2
   | _ => exact h
 | array m e =>
   rw [hk1] at h
   exact h
 | _ => rw [hk1] at h; cases h
theorem mapOf_push {m : AV} {f : TK × (MKey → Option AV)} (o : AObj) (h : mapOf σ m = some f) : mapOf (σ ++ [o]) m = some f := by
 cases m <;> try exact h
 rename_i id
 have h : objMap σ[id]? = some f := h
 show objMap (σ ++ [o])[id]? = some f
 cases ho : σ[id]? with
 | none => rw [ho] at h; cases h
 | some b => rw [List.getElem?_append_left (List.getElem?_eq_some_iff.1 ho).1, ho, ← ho]; exact h
theorem lookup_push {t : Nat} {m k : AV} {ok : Bool} {v : AV} (o : AObj) (h : aLookup E σ t m k ok = some v) : aLookup E (σ ++ [o]) t m k ok = some v := by
 obtain ⟨ti, ht, h⟩ := bindO_eq h
 obtain ⟨ke, hk, h⟩ := bindO_eq h
 obtain ⟨ki, h1, h⟩ := bindO_eq h
 obtain ⟨ei, h2, h⟩ := bindO_eq h
 obtain ⟨f, h3, h⟩ := bindO_eq h
 simp only [aLookup, ht, hk, h1, h2, mapOf_push o h3, bindO_some]
 exact h
theorem aOp_Ix {fr : Fr} {ty : Nat} {op : Op} (hop : isIx op = true) {p : AV × Store} (h : aOp E fr σ ty op = some p) : p.2 = σ ∧ ∀ b : AObj, aOp E fr (σ ++ [b]) ty op = some (p.1, σ ++ [b]) := by
 cases op <;> try (cases hop; done)
 case indexAddr t a x =>
   obtain ⟨u, hu, h⟩ := bindO_eq h
   injection h with h
   subst h
   exact ⟨rfl, fun b => by simp only [aOp, keepS, indexAddr_push b hu, bindO_some]⟩
 case lookup t m k ok =>
   obtain ⟨u, hu, h⟩ := bindO_eq h
   injection h with h
   subst h
   exact ⟨rfl, fun b => by simp only [aOp, keepS, lookup_push b hu, bindO_some]⟩
theorem aOp_Al {fr : Fr} {ty : Nat} {op : Op} (hop : isAl op = true) {p : AV × Store} (h : aOp E fr σ ty op = some p) : ∃ b : AObj, p.2 = σ ++ [b] := by
 cases op <;> try (cases hop; done)
 case alloc t =>
   obtain ⟨ti, _, h⟩ := bindO_eq h
   injection h with h
   subst h
   exact ⟨_, rfl⟩
theorem eff_Ix {ops : Array Oper} {o : Oper} {fr : Fr} (hop : isIx o.op = true) {p : AV × Store} (h : eff E ops o fr σ = some p) : p.2 = σ ∧ ∀ b : AObj, eff E ops o fr (σ ++ [b]) = some (p.1, σ ++ [b]) := by
 obtain ⟨b, hb, h1⟩ := bindO_eq h
 simp only [eff, hb, bindO_some]
 rcases iteO_eq h1 with ⟨rfl, h2⟩ | ⟨rfl, h2⟩
 · exact aOp_Ix hop h2
 · injection h2 with h2; subst h2; exact ⟨rfl, fun _ => rfl⟩
theorem eff_Al {ops : Array Oper} {o : Oper} {fr : Fr} (hop : isAl o.op = true) {p : AV × Store} (h : eff E ops o fr σ = some p) : p.2 = σ ∨ ∃ b : AObj, p.2 = σ ++ [b] := by
 obtain ⟨b, hb, h1⟩ := bindO_eq h
 rcases iteO_eq h1 with ⟨rfl, h2⟩ | ⟨rfl, h2⟩
 · exact .inr (aOp_Al hop h2)
 · injection h2 with h2; subst h2; exact .inl rfl
def pairOk (pf : Nat → Bool) (ops : Array Oper) (a i : Nat) : Bool :=
 match ops[a]?, ops[i]? with
 | some x, some y => x.apart ops y && (isP pf x.op || isP pf y.op || (isR pf x.op && isR pf y.op) || (isLd x.op && isFz y.op) || (isIx x.op && isAl y.op))
 | _, _ => false
theorem comm_step {pf : Nat → Bool} (hp : PureTab E pf) {ops : Array Oper} {a i : Nat} (h : pairOk pf ops a i = true) {s s1 s2 : Fr × Store} (h1 : stepI E ops a s = some s1) (h2 : stepI E ops i s1 = some s2) :
   ∃ s1', stepI E ops i s = some s1' ∧ stepI E ops a s1' = some s2 := by
 obtain ⟨fr, σ⟩ := s
 unfold pairOk at h
 cases hx : ops[a]? with
 | none => rw [hx] at h; cases h
 | some x =>
   cases hy : ops[i]? with
   | none => rw [hx, hy] at h; cases h
   | some y =>
     rw [hx, hy] at h
     simp only [Bool.and_eq_true] at h
     obtain ⟨hap, hk⟩ := h
     obtain ⟨ha1, ha2, ha3⟩ := Oper.apart_spec hap
     rw [stepI_eff hx] at h1
     obtain ⟨p, hpe, h3⟩ := bindO_eq h1
     injection h3 with h3
     subst h3
     rw [stepI_eff hy] at h2
     obtain ⟨q, hqe, h4⟩ := bindO_eq h2
     injection h4 with h4
     subst h4
     have e1 : eff E ops y (setT fr x.dst p.1) p.2 = eff E ops y fr p.2 := eff_same fun t ht => getD_set fun e => ha1 t e ht
     rw [e1] at hqe
     have e2 : ∀ σ2, eff E ops x (setT fr y.dst q.1) σ2 = eff E ops x fr σ2 := fun σ2 => eff_same fun t ht => getD_set fun e => ha3 t e ht
     have hset : setT (setT fr x.dst p.1) y.dst q.1 = setT (setT fr y.dst q.1) x.dst p.1 := set_comm fun t ht => ha2 t ht
     rw [stepI_eff hy]
     suffices hs : ∃ σ1, eff E ops y fr σ = some (q.1, σ1) ∧ eff E ops x fr σ1 = some (p.1, q.2) by
       obtain ⟨σ1, hs1, hs2⟩ := hs
       refine ⟨(setT fr y.dst q.1, σ1), by rw [hs1]; rfl, ?_⟩
       rw [stepI_eff hx, e2, hs2, hset]
       rfl
     simp only [Bool.or_eq_true, Bool.and_eq_true] at hk
     rcases hk with (((hk | hk) | hk) | hk) | hk
     · obtain ⟨hs, hall⟩ := eff_P hp hk hpe
       rw [hs] at hqe
       exact ⟨q.2, hqe, hall _⟩
     · obtain ⟨hs, hall⟩ := eff_P hp hk hqe
       exact ⟨σ, hall σ, by rw [hs]; exact hpe⟩
     · have r1 := eff_R hp hk.1 hpe
       have r2 := eff_R hp hk.2 hqe
       rw [r1] at hqe r2
       refine ⟨σ, ?_, ?_⟩
       · rw [hqe]; rw [show σ = q.2 from r2.symm]
       · rw [hpe]; rw [r2, ← r1]
     · obtain ⟨hs, hall⟩ := eff_Ld hk.1 hpe
       rw [hs] at hqe
       exact ⟨q.2, hqe, hall _ (eff_Fz hk.2 hqe)⟩
     · obtain ⟨hs, hall⟩ := eff_Ix hk.1 hpe
       rw [hs] at hqe
       rcases eff_Al hk.2 hqe with h | ⟨b, h⟩
       · exact ⟨q.2, hqe, by rw [h, hpe, ← hs]⟩
       · exact ⟨q.2, hqe, by rw [h]; exact hall b⟩
theorem bubble {pf : Nat → Bool} (hp : PureTab E pf) {ops : Array Oper} {i : Nat} {post : List Nat} : ∀ (pre : List Nat) (s s' : Fr × Store), (∀ a ∈ pre, pairOk pf ops a i = true) → runI E ops (pre ++ i :: post) s = some s' →
   ∃ s1, stepI E ops i s = some s1 ∧ runI E ops (pre ++ post) s1 = some s'
 | [], s, s', _, h => by
   obtain ⟨s1, h1, h2⟩ := bindO_eq h
   exact ⟨s1, h1, h2⟩
 | a :: pre, s, s', hc, h => by
   obtain ⟨s1, h1, h2⟩ := bindO_eq h
   obtain ⟨s2, h3, h4⟩ := bubble hp pre s1 s' (fun b hb => hc b (by simp [hb])) h2
   obtain ⟨s3, h5, h6⟩ := comm_step hp (hc a (by simp)) h1 h3
   exact ⟨s3, h5, by simp only [List.cons_append, runI, h6, bindO_some]; exact h4⟩
end Go.Abs
namespace Go.Abs
open Go.RowKit
variable {E : Env} {g : Ghost} {σ : Store} {w : World}
def bindsB (e : Edge) : Bool := Region.binds .any e
def depsL : List Edge → List Nat
 | [] => []
 | e :: es => match bindsB e with
   | true => e.on :: depsL es
   | false => depsL es
def deps (ops : Array Oper) (i : Nat) : List Nat :=
 match ops[i]? with
 | some o => depsL o.after.toList
 | none => []
def upL (ops : Array Oper) : Nat → List Nat → List Nat
 | 0, S => S
 | j + 1, S => match S.contains j with
   | true => upL ops j (deps ops j ++ S)
   | false => upL ops j S
def beforeOk (pf : Nat → Bool) (ops : Array Oper) (A : List Nat) (i : Nat) : Nat → Bool
 | 0 => true
 | a + 1 => (A.contains a || pairOk pf ops a i) && beforeOk pf ops A i a
def regionOk (pf : Nat → Bool) (ops : Array Oper) : Nat → Bool
 | 0 => true
 | i + 1 => (deps ops i).all (fun d => decide (d < i)) && beforeOk pf ops (upL ops i (deps ops i)) i i && regionOk pf ops i
theorem mem_depsL : ∀ {es : List Edge} {d : Nat}, d ∈ depsL es ↔ ∃ e ∈ es, bindsB e = true ∧ e.on = d
 | [], d => by simp [depsL]
 | e :: es, d => by
   simp only [depsL]
   cases hb : bindsB e with
   | true =>
     rw [List.mem_cons, mem_depsL]
     constructor
     · rintro (rfl | ⟨e', he, hb', rfl⟩)
       · exact ⟨e, List.mem_cons_self, hb, rfl⟩
       · exact ⟨e', List.mem_cons_of_mem _ he, hb', rfl⟩
     · rintro ⟨e', he, hb', rfl⟩
       rcases List.mem_cons.1 he with rfl | he
       · exact .inl rfl
       · exact .inr ⟨e', he, hb', rfl⟩
   | false =>
     rw [mem_depsL]
     constructor
     · rintro ⟨e', he, hb', rfl⟩
       exact ⟨e', List.mem_cons_of_mem _ he, hb', rfl⟩
     · rintro ⟨e', he, hb', rfl⟩
       rcases List.mem_cons.1 he with rfl | he
       · rw [hb] at hb'; cases hb'
       · exact ⟨e', he, hb', rfl⟩
theorem beforeOk_spec {pf : Nat → Bool} {ops : Array Oper} {A : List Nat} {i : Nat} : ∀ {n : Nat}, beforeOk pf ops A i n = true → ∀ a, a < n → a ∈ A ∨ pairOk pf ops a i = true
 | 0, _, a, h => absurd h (Nat.not_lt_zero _)
 | n + 1, h, a, ha => by
   simp only [beforeOk, Bool.and_eq_true, Bool.or_eq_true, List.contains_iff_mem] at h
   rcases Nat.lt_or_eq_of_le (Nat.le_of_lt_succ ha) with h1 | h1
   · exact beforeOk_spec h.2 a h1
   · subst h1; exact h.1
theorem regionOk_spec {pf : Nat → Bool} {ops : Array Oper} : ∀ {n : Nat}, regionOk pf ops n = true → ∀ i, i < n → (∀ d ∈ deps ops i, d < i) ∧ ∀ a, a < i → a ∈ upL ops i (deps ops i) ∨ pairOk pf ops a i = true
 | 0, _, i, h => absurd h (Nat.not_lt_zero _)
 | n + 1, h, i, hi => by
   simp only [regionOk, Bool.and_eq_true, List.all_eq_true, decide_eq_true_eq] at h
   rcases Nat.lt_or_eq_of_le (Nat.le_of_lt_succ hi) with h1 | h1
   · exact regionOk_spec h.2 i h1
   · subst h1; exact ⟨h.1.1, fun a ha => beforeOk_spec h.1.2 a ha⟩
def Listed (l : Array Bool) (j : Nat) : Prop := l.getD j false = true
def Closed (ops : Array Oper) (l : Array Bool) : Prop := ∀ j, Listed l j → ∀ d ∈ deps ops j, Listed l d
theorem upL_listed {ops : Array Oper} {l : Array Bool} (hc : Closed ops l) : ∀ (n : Nat) (S : List Nat), (∀ d ∈ S, Listed l d) → ∀ d ∈ upL ops n S, Listed l d
 | 0, S, h, d, hd => h d hd
 | n + 1, S, h, d, hd => by
   simp only [upL] at hd
   cases hs : S.contains n with
   | false => rw [hs] at hd; exact upL_listed hc n S h d hd
   | true =>
     rw [hs] at hd
     refine upL_listed hc n _ (fun x hx => ?_) d hd
     rcases List.mem_append.1 hx with h1 | h1
     · exact hc n (h n (List.contains_iff_mem.1 hs)) x h1
     · exact h x h1
theorem mem_ready {ops : Array Oper} {l : Array Bool} {i : Nat} : i ∈ Region.ready .any ops l ↔ i < ops.size ∧ l.getD i true = false ∧ ∀ d ∈ deps ops i, Listed l d := by
 simp only [Region.ready, List.mem_filter, List.mem_range, Bool.and_eq_true, Bool.not_eq_true', Listed]
 refine and_congr_right fun hi => and_congr Iff.rfl ?_
 unfold deps
 cases ho : ops[i]? with
 | none => rw [Array.getElem?_eq_none_iff] at ho; omega
 | some o =>
   simp only [Option.map_some, Option.getD_some, Array.all_eq_true_iff_forall_mem, mem_depsL, Bool.or_eq_true, Bool.not_eq_true']
   constructor
   · rintro h d ⟨e, he, hb, rfl⟩
     rcases h e (by simpa using he) with h1 | h1
     · rw [show bindsB e = Region.binds .any e from rfl, h1] at hb; cases hb
     · exact h1
   · intro h e he
     cases hb : Region.binds .any e with
     | false => exact .inl rfl
     | true => exact .inr (h e.on ⟨e, by simpa using he, hb, rfl⟩)
structure Rest (ops : Array Oper) (l : Array Bool) (T : List Nat) : Prop where
 size : l.size = ops.size
 mem : ∀ i, i ∈ T ↔ i < ops.size ∧ l.getD i false = false
 sorted : T.Pairwise (· < ·)
 closed : Closed ops l
theorem getD_in {l : Array Bool} {i : Nat} (h : i < l.size) (b b' : Bool) : l.getD i b = l.getD i b' := by
 rw [Array.getD_eq_getD_getElem?, Array.getD_eq_getD_getElem?, Array.getElem?_eq_getElem h]; rfl
theorem Rest.listed {ops : Array Oper} {l : Array Bool} {T : List Nat} (h : Rest ops l T) {i : Nat} (hi : i < ops.size) (hn : i ∉ T) : Listed l i := by
 unfold Listed
 cases hb : l.getD i false with
 | true => rfl
 | false => exact absurd ((h.mem i).2 ⟨hi, hb⟩) hn
theorem Rest.next {ops : Array Oper} {l : Array Bool} {pre post : List Nat} {i : Nat} (h : Rest ops l (pre ++ i :: post)) (hd : ∀ d ∈ deps ops i, Listed l d) : Rest ops (l.setIfInBounds i true) (pre ++ post) := by
 have hi := (h.mem i).1 (by simp)
 have hnd : (pre ++ i :: post).Nodup := h.sorted.imp fun hab => Nat.ne_of_lt hab
 have hget : ∀ j, (l.setIfInBounds i true).getD j false = if j = i then true else l.getD j false := fun j => by
   rw [Array.getD_eq_getD_getElem?, Array.getD_eq_getD_getElem?, Array.getElem?_setIfInBounds]
   by_cases hj : i = j
   · subst hj; simp [h.size, hi.1]
   · rw [if_neg hj, if_neg (Ne.symm hj)]
 have hup : ∀ j, Listed l j → Listed (l.setIfInBounds i true) j := fun j hj => by
   unfold Listed at hj ⊢
   rw [hget]; split
   · rfl
   · exact hj
 refine ⟨by simpa using h.size, fun j => ?_, ?_, fun j hj d hdj => ?_⟩
 · have hm := h.mem j
   simp only [List.mem_append, List.mem_cons] at hm ⊢
   have hnm : i ∉ pre ∧ i ∉ post := by
     rw [List.nodup_append] at hnd
     obtain ⟨_, h2, h3⟩ := hnd
     rw [List.nodup_cons] at h2
     exact ⟨fun hp => h3 i hp i (by simp) rfl, h2.1⟩
   rw [hget]
   by_cases hj : j = i
   · subst hj
     simp [hnm.1, hnm.2]
   · rw [if_neg hj, ← hm]
     simp [hj]
 · exact h.sorted.sublist (List.Sublist.append_left (List.sublist_cons_self _ _) _)
 · by_cases hji : j = i
   · subst hji; exact hup d (hd d hdj)
   · refine hup d (h.closed j ?_ d hdj)
     unfold Listed at hj ⊢
     rw [hget, if_neg hji] at hj
     exact hj
theorem any_wp (hE : EnvOk E) {pf : Nat → Bool} (hp : PureTab E pf) {ops : Array Oper} (hok : regionOk pf ops ops.size = true) {n : Nat} {r : Option Nat} {Q : Exit → Act → World → Prop} : ∀ (fuel : Nat) (T : List Nat) (l : Array Bool) (g : Ghost) (σ σ' : Store) (w : World) (fr fr' : Fr) (a : Act),
   T.length ≤ fuel → Rest ops l T → Inv g σ w → FrOk g σ.length fr a.tmps → runI E ops T (fr, σ) = some (fr', σ') →
   (∀ g' a' w', Moved g g' σ σ' w' → FrOk g' σ'.length fr' a'.tmps → a'.defers = a.defers → Q .normal a' w') → wpAnyIn (wideR r) n E.P .any ops Q fuel l a w := by
 have hnil : ∀ (T : List Nat) (l : Array Bool), Rest ops l T → Region.ready .any ops l = [] → T = [] := fun T l hR hr => by
   cases T with
   | nil => rfl
   | cons a rest =>
     exfalso
     have ha := (hR.mem a).1 (by simp)
     have hdeps := (regionOk_spec hok a ha.1).1
     have : a ∈ Region.ready .any ops l := mem_ready.2 ⟨ha.1, by rw [getD_in (by rw [hR.size]; exact ha.1) true false]; exact ha.2, fun d hd => ?_⟩
     · rw [hr] at this; simp at this
     · have hda := hdeps d hd
       refine hR.listed (by omega) fun hm => ?_
       rcases List.mem_cons.1 hm with h1 | h1
       · omega
       · have := (List.pairwise_cons.1 hR.sorted).1 d h1
         omega
 intro fuel
 induction fuel with
 | zero =>
   intro T l g σ σ' w fr fr' a hlen hR hI hfr hrun hQ
   have hT : T = [] := List.length_eq_zero_iff.1 (by omega)
   subst hT
   obtain ⟨h1, h2⟩ := pair_inj hrun
   subst h1; subst h2
   refine ⟨?_, hQ g a w (Moved.stay hI) hfr rfl⟩
   rw [List.eq_nil_iff_forall_not_mem]
   intro i hi
   have hi := mem_ready.1 hi
   have := (hR.mem i).2 ⟨hi.1, by rw [getD_in (by rw [hR.size]; exact hi.1) false true]; exact hi.2.1⟩
   simp at this
 | succ fuel ih =>
   intro T l g σ σ' w fr fr' a hlen hR hI hfr hrun hQ
   refine ⟨fun hr => ?_, fun i hi => ?_⟩
   · have hT := hnil T l hR hr
     subst hT
     obtain ⟨h1, h2⟩ := pair_inj hrun
     subst h1; subst h2
     exact hQ g a w (Moved.stay hI) hfr rfl
   · have hi := mem_ready.1 hi
     have hiT : i ∈ T := (hR.mem i).2 ⟨hi.1, by rw [getD_in (by rw [hR.size]; exact hi.1) false true]; exact hi.2.1⟩
     obtain ⟨pre, post, rfl⟩ := List.append_of_mem hiT
     have hpre : ∀ a ∈ pre, pairOk pf ops a i = true := fun a ha => by
       have hlt : a < i := (List.pairwise_append.1 hR.sorted).2.2 a ha i (by simp)
       rcases (regionOk_spec hok i hi.1).2 a hlt with h1 | h1
       · have hl := upL_listed hR.closed i _ hi.2.2 a h1
         have hn := ((hR.mem a).1 (by simp [ha])).2
         unfold Listed at hl
         rw [hn] at hl; cases hl
       · exact h1
     obtain ⟨s1, hs1, hrun1⟩ := bubble hp pre _ _ hpre hrun
     refine step_wp (fr' := s1.1) (σ' := s1.2) hE hI hfr hs1 fun g' a' w' hm hf hd => ?_
     refine ih (pre ++ post) _ g' s1.2 σ' w' s1.1 fr' a' ?_ (hR.next hi.2.2) hm.inv hf hrun1 fun g'' a'' w'' hm' hf' hd' => hQ g'' a'' w'' (hm.trans hm') hf' (hd'.trans hd)
     simp at hlen ⊢; omega
theorem rest_start (ops : Array Oper) : Rest ops (Array.replicate ops.size false) (List.range ops.size) := by
 have hget : ∀ i, (Array.replicate ops.size false).getD i false = false := fun i => by
   rw [Array.getD_eq_getD_getElem?, Array.getElem?_replicate]; split <;> rfl
 refine ⟨by simp, fun i => ?_, List.pairwise_lt_range, fun j hj => ?_⟩
 · simp only [List.mem_range, hget]; simp
 · unfold Listed at hj; rw [hget] at hj; cases hj
theorem draw_sound (hE : EnvOk E) {pf : Nat → Bool} (hp : PureTab E pf) (hm : E.P.follows .mixedOrders = true) (ops : Array Oper) (l : List (Nat × Nat)) (hok : regionOk pf ops ops.size = true) (hn : slotsOf l = []) : DrawSound E l ops := by
 intro g σ w fr a res n r id Q hI hfr h hQ
 rw [hn] at h
 have h := (aliB_some h).1
 refine wpIn_region_any hm ?_
 have hr := (aOps_runI (E := E) ops ops.toList 0 fr σ res (fun j => by simp) h).2
 rw [Array.length_toList, ← List.range_eq_range'] at hr
 exact any_wp hE hp hok _ _ _ g σ res.σ _ fr res.fr a (by simp) (rest_start ops) (hI.same rfl rfl rfl rfl) hfr hr hQ
end Go.Abs
