import Derived.Test.YtecjmbaepioobaaGreatAbs24stoAbs25
import Derived.Test.YtecjmbaepioobaaGreatAbs2toAbs30
set_option linter.unusedSimpArgs false
set_option linter.unusedVariables false
namespace Go.Abs
open Go.RowKit
def nzL : AV → AV
 | .sl _ sz es => .sl false (match es with | [] => 0 | _ :: _ => sz) es
 | .bool b => .bool b
 | .int k n => .int k n
 | .str s => .str s
 | .agg cs => .agg cs
 | .tuple cs => .tuple cs
 | .top => .top
 | .ptr id off => .ptr id off
 | .cref cs => .cref cs
 | .rs id ver => .rs id ver
 | .rptr id ver sz i off => .rptr id ver sz i off
 | .map id => .map id
 | .fn f cap => .fn f cap
 | .nilfn => .nilfn
 | .fnc f => .fnc f
 | .nilp => .nilp
 | .nilmap => .nilmap
 | .nilif => .nilif
 | .yfn P => .yfn P
def nzV : AV → AV
 | .agg cs => .agg (cs.map nzL)
 | .cref cs => .cref (cs.map nzL)
 | v => nzL v
def nzs (l : List AV) : List AV := l.map nzV
def wkL : AV → Bool
 | .sl f _ _ => !f
 | _ => true
def wkV : AV → Bool
 | .agg cs => cs.all wkL
 | .cref cs => cs.all wkL
 | v => wkL v
def wks (l : List AV) : Bool := l.all wkV
theorem nzL_sl {f f' : Bool} {sz sz' : Nat} {es es' : List (List AV)} : nzL (.sl f sz es) = nzL (.sl f' sz' es') ↔ es = es' ∧ (es = [] ∨ sz = sz') := by
 constructor
 · intro h
   cases es with
   | nil =>
     cases es' with
     | nil => exact ⟨rfl, .inl rfl⟩
     | cons e' es' => injection h with _ _ h; cases h
   | cons e es =>
     cases es' with
     | nil => injection h with _ _ h; cases h
     | cons e' es' => injection h with _ h1 h; exact ⟨h, .inr h1⟩
 · rintro ⟨rfl, h⟩
   rcases h with rfl | rfl <;> rfl
theorem rep_nzL {g : Ghost} {n : Nat} {a b : AV} {v : Value} (h : nzL a = nzL b) (hw : wkL b = true) (hr : Rep g a n v) : Rep g b n v := by
 have key : (∃ f sz es f' sz' es', a = .sl f sz es ∧ b = .sl f' sz' es') ∨ a = b := by
   cases a with
   | sl f sz es =>
     cases b with
     | sl f' sz' es' => exact .inl ⟨_, _, _, _, _, _, rfl, rfl⟩
     | _ => cases h
   | _ => cases b <;> first | (cases h; done) | exact .inr h
 rcases key with ⟨f, sz, es, f', sz', es', rfl, rfl⟩ | rfl
 · obtain ⟨h1, h2⟩ := nzL_sl.1 h
   subst h1
   have hf : f' = false := by simpa [wkL] using hw
   subst hf
   obtain ⟨a, cap, e, h3, _, h4⟩ := hr
   refine ⟨a, cap, e, h3, by simp, ?_⟩
   rcases h2 with rfl | rfl
   · exact .inl rfl
   · exact h4
 · exact hr
theorem reps_nzL {g : Ghost} {n : Nat} : ∀ {ays bs : List AV} {vs : List Value}, ays.map nzL = bs.map nzL → bs.all wkL = true → Reps g ays n vs → Reps g bs n vs
 | [], [], _, _, _, hr => hr
 | [], _ :: _, _, h, _, _ => by simp at h
 | _ :: _, [], _, h, _, _ => by simp at h
 | a :: ays, b :: bs, _, h, hw, ⟨v, vs, e, h1, h2⟩ => by
   simp only [List.map_cons, List.cons.injEq] at h
   simp only [List.all_cons, Bool.and_eq_true] at hw
   exact ⟨v, vs, e, rep_nzL h.1 hw.1 h1, reps_nzL h.2 hw.2 h2⟩
theorem repC_nzL {g : Ghost} : ∀ {ays bs : List AV} {b o : Nat}, ays.map nzL = bs.map nzL → bs.all wkL = true → RepC g ays b o → RepC g bs b o
 | [], [], _, _, _, _, hr => hr
 | [], _ :: _, _, _, h, _, _ => by simp at h
 | _ :: _, [], _, _, h, _, _ => by simp at h
 | a :: ays, b :: bs, _, _, h, hw, ⟨⟨v, e, h1⟩, h2⟩ => by
   simp only [List.map_cons, List.cons.injEq] at h
   simp only [List.all_cons, Bool.and_eq_true] at hw
   exact ⟨⟨v, e, rep_nzL h.1 hw.1 h1⟩, repC_nzL h.2 hw.2 h2⟩
theorem rep_nzV {g : Ghost} {n : Nat} {a b : AV} {v : Value} (h : nzV a = nzV b) (hw : wkV b = true) (hr : Rep g a n v) : Rep g b n v := by
 have key : (∃ cs ds, a = .agg cs ∧ b = .agg ds) ∨ (∃ cs ds, a = .cref cs ∧ b = .cref ds) ∨ (nzL a = nzL b ∧ wkL b = true) := by
   cases a with
   | agg cs => cases b with
     | agg ds => exact .inl ⟨_, _, rfl, rfl⟩
     | _ => cases h
   | cref cs => cases b with
     | cref ds => exact .inr (.inl ⟨_, _, rfl, rfl⟩)
     | _ => cases h
   | _ => cases b <;> first | (cases h; done) | exact .inr (.inr ⟨h, hw⟩)
 rcases key with ⟨cs, ds, rfl, rfl⟩ | ⟨cs, ds, rfl, rfl⟩ | ⟨h1, h2⟩
 · obtain ⟨vs, e, hr⟩ := hr
   have h : AV.agg (cs.map nzL) = AV.agg (ds.map nzL) := h
   injection h with h
   exact ⟨vs, e, reps_nzL h hw hr⟩
 · obtain ⟨b, o, e, hr⟩ := hr
   have h : AV.cref (cs.map nzL) = AV.cref (ds.map nzL) := h
   injection h with h
   exact ⟨b, o, e, repC_nzL h hw hr⟩
 · exact rep_nzL h1 h2 hr
theorem reps_nz {g : Ghost} {n : Nat} : ∀ {ays bs : List AV} {vs : List Value}, nzs ays = nzs bs → wks bs = true → Reps g ays n vs → Reps g bs n vs
 | [], [], _, _, _, hr => hr
 | [], _ :: _, _, h, _, _ => by simp [nzs] at h
 | _ :: _, [], _, h, _, _ => by simp [nzs] at h
 | a :: ays, b :: bs, _, h, hw, ⟨v, vs, e, h1, h2⟩ => by
   simp only [nzs, List.map_cons, List.cons.injEq] at h
   simp only [wks, List.all_cons, Bool.and_eq_true] at hw
   exact ⟨v, vs, e, rep_nzV h.1 hw.1 h1, reps_nz h.2 hw.2 h2⟩
inductive Sh1 where
 | leaf (o : Option Nat)
 | agg (l : List (Option Nat))
inductive Shp where
 | one (s : Sh1)
 | tup (l : List Sh1)
def cvSl (sz : Nat) : AV → Option AV
 | .sl _ s es => iteO (decide (s = sz) || es.isEmpty) (some (.sl false sz es)) none
 | _ => none
def cvL : Option Nat → AV → Option AV
 | none, v => some v
 | some sz, v => cvSl sz v
def cvLs : List (Option Nat) → List AV → Option (List AV)
 | [], [] => some []
 | o :: os, c :: cs => bindO (cvL o c) fun c' => bindO (cvLs os cs) fun cs' => some (c' :: cs')
 | _, _ => none
def cvAgg (l : List (Option Nat)) : AV → Option AV
 | .agg cs => bindO (cvLs l cs) fun cs' => some (.agg cs')
 | _ => none
def cv1 : Sh1 → AV → Option AV
 | .leaf o, v => cvL o v
 | .agg l, v => cvAgg l v
def cv1s : List Sh1 → List AV → Option (List AV)
 | [], [] => some []
 | o :: os, c :: cs => bindO (cv1 o c) fun c' => bindO (cv1s os cs) fun cs' => some (c' :: cs')
 | _, _ => none
def cvTup (l : List Sh1) : AV → Option AV
 | .tuple cs => bindO (cv1s l cs) fun cs' => some (.tuple cs')
 | _ => none
def cv : Shp → AV → Option AV
 | .one s, v => cv1 s v
 | .tup l, v => cvTup l v
theorem cvL_rep {g : Ghost} {n : Nat} {o : Option Nat} {a b : AV} {v : Value} (h : cvL o a = some b) (hr : Rep g a n v) : Rep g b n v := by
 cases o with
 | none => injection h with h; subst h; exact hr
 | some sz =>
   cases a with
   | sl f s es =>
     obtain ⟨h1, h2⟩ := iteO_none h
     injection h2 with h2
     subst h2
     obtain ⟨a, cap, e, h3, _, h4⟩ := hr
     refine ⟨a, cap, e, h3, by simp, ?_⟩
     simp only [Bool.or_eq_true, decide_eq_true_eq, List.isEmpty_iff] at h1
     rcases h1 with rfl | rfl
     · exact h4
     · exact .inl rfl
   | _ => cases h
theorem cvLs_rep {g : Ghost} {n : Nat} : ∀ {os : List (Option Nat)} {ays bs : List AV} {vs : List Value}, cvLs os ays = some bs → Reps g ays n vs → Reps g bs n vs
 | [], [], _, _, h, hr => by injection h with h; subst h; exact hr
 | o :: os, c :: cs, _, _, h, ⟨v, vs, e, h1, h2⟩ => by
   obtain ⟨c', hc, h3⟩ := bindO_eq h
   obtain ⟨cs', hcs, h4⟩ := bindO_eq h3
   injection h4 with h4
   subst h4
   exact ⟨v, vs, e, cvL_rep hc h1, cvLs_rep hcs h2⟩
 | [], _ :: _, _, _, h, _ => by cases h
 | _ :: _, [], _, _, h, _ => by cases h
theorem cv1_rep {g : Ghost} {n : Nat} {o : Sh1} {a b : AV} {v : Value} (h : cv1 o a = some b) (hr : Rep g a n v) : Rep g b n v := by
 cases o with
 | leaf o => exact cvL_rep h hr
 | agg l =>
   cases a with
   | agg cs =>
     obtain ⟨cs', hcs, h4⟩ := bindO_eq h
     injection h4 with h4
     subst h4
     obtain ⟨vs, e, hr⟩ := hr
     exact ⟨vs, e, cvLs_rep hcs hr⟩
   | _ => cases h
theorem cv1s_rep {g : Ghost} {n : Nat} : ∀ {os : List Sh1} {ays bs : List AV} {vs : List Value}, cv1s os ays = some bs → Reps g ays n vs → Reps g bs n vs
 | [], [], _, _, h, hr => by injection h with h; subst h; exact hr
 | o :: os, c :: cs, _, _, h, ⟨v, vs, e, h1, h2⟩ => by
   obtain ⟨c', hc, h3⟩ := bindO_eq h
   obtain ⟨cs', hcs, h4⟩ := bindO_eq h3
   injection h4 with h4
   subst h4
   exact ⟨v, vs, e, cv1_rep hc h1, cv1s_rep hcs h2⟩
 | [], _ :: _, _, _, h, _ => by cases h
 | _ :: _, [], _, _, h, _ => by cases h
theorem cv_rep {g : Ghost} {n : Nat} {o : Shp} {a b : AV} {v : Value} (h : cv o a = some b) (hr : Rep g a n v) : Rep g b n v := by
 cases o with
 | one s => exact cv1_rep h hr
 | tup l =>
   cases a with
   | tuple cs =>
     obtain ⟨cs', hcs, h4⟩ := bindO_eq h
     injection h4 with h4
     subst h4
     obtain ⟨vs, e, hr⟩ := hr
     exact ⟨vs, e, cv1s_rep hcs hr⟩
   | _ => cases h
def AV.scL : AV → Bool
 | .bool _ => true
 | .int _ _ => true
 | .str _ => true
 | _ => false
def AV.sc : AV → Bool
 | .agg cs => cs.all AV.scL
 | .tuple cs => cs.all AV.scL
 | v => v.scL
theorem scL_rep {g g' : Ghost} {n n' : Nat} {a : AV} {v : Value} (h : a.scL = true) (hr : Rep g a n v) : Rep g' a n' v := by
 cases a <;> first | exact hr | cases h
theorem scLs_rep {g g' : Ghost} {n n' : Nat} : ∀ {ays : List AV} {vs : List Value}, ays.all AV.scL = true → Reps g ays n vs → Reps g' ays n' vs
 | [], _, _, hr => hr
 | a :: ays, _, h, ⟨v, vs, e, h1, h2⟩ => by
   simp only [List.all_cons, Bool.and_eq_true] at h
   exact ⟨v, vs, e, scL_rep h.1 h1, scLs_rep h.2 h2⟩
theorem sc_rep {g g' : Ghost} {n n' : Nat} {a : AV} {v : Value} (h : a.sc = true) (hr : Rep g a n v) : Rep g' a n' v := by
 cases a with
 | agg cs => obtain ⟨vs, e, hr⟩ := hr; exact ⟨vs, e, scLs_rep h hr⟩
 | tuple cs => obtain ⟨vs, e, hr⟩ := hr; exact ⟨vs, e, scLs_rep h hr⟩
 | _ => first | exact hr | cases h
variable {P : Program}
def TOk (P : Program) (f : Nat) (T : List AV → Option AV) : Prop := ∀ ays v, T ays = some v → Pure P f ays v
open Classical in
noncomputable def TL {X : Type} (emb : X → List AV) (res : X → Option AV) (ays : List AV) : Option AV :=
  if h : ∃ x, nzs (emb x) = nzs ays then res (Classical.choose h) else none
theorem TL_hit {X : Type} {emb : X → List AV} {res : X → Option AV} (inj : ∀ x y, nzs (emb x) = nzs (emb y) → x = y) {ays : List AV} (x : X) (h : nzs (emb x) = nzs ays) : TL emb res ays = res x := by
 have hx : ∃ y, nzs (emb y) = nzs ays := ⟨x, h⟩
 rw [TL, dif_pos hx, inj (Classical.choose hx) x ((Classical.choose_spec hx).trans h.symm)]
theorem TL_ok {X : Type} {f : Nat} {emb : X → List AV} {res : X → Option AV} (hw : ∀ x, wks (emb x) = true) (h : ∀ x v, res x = some v → Pure P f (emb x) v) : TOk P f (TL emb res) := by
 intro ays v hv
 unfold TL at hv
 split at hv
 · rename_i hx
   have hs := Classical.choose_spec hx
   intro σ g w vs hI hr
   exact h _ v hv σ g w vs hI (reps_nz hs.symm (hw _) hr)
 · cases hv
structure TE (P : Program) where
 f : Nat
 run : List AV → Store → Option (AV × Store)
 pure : Bool
 ok : ∀ args σ v σ', run args σ = some (v, σ') → CallOk P f args σ v σ'
 same : pure = true → ∀ args σ v σ', run args σ = some (v, σ') → σ' = σ ∧ ∀ σ2, run args σ2 = some (v, σ2)
def tabT : List (TE P) → Nat → List AV → Store → Option (AV × Store)
 | [], _, _, _ => none
 | e :: l, f, args, σ => match decide (f = e.f) with
   | true => e.run args σ
   | false => tabT l f args σ
def pfT : List (TE P) → Nat → Bool
 | [], _ => true
 | e :: l, f => match decide (f = e.f) with
   | true => e.pure
   | false => pfT l f
theorem tabT_ok : ∀ {l : List (TE P)} {f : Nat} {args : List AV} {σ : Store} {v : AV} {σ' : Store}, tabT l f args σ = some (v, σ') → CallOk P f args σ v σ'
 | [], _, _, _, _, _, h => by cases h
 | e :: l, f, args, σ, v, σ', h => by
   simp only [tabT] at h
   split at h
   · rename_i hf; have := of_decide_eq_true hf; subst this; exact e.ok _ _ _ _ h
   · exact tabT_ok h
theorem tabT_same : ∀ {l : List (TE P)} {f : Nat}, pfT l f = true → ∀ args σ v σ', tabT l f args σ = some (v, σ') → σ' = σ ∧ ∀ σ2, tabT l f args σ2 = some (v, σ2)
 | [], _, _, _, _, _, _, h => by cases h
 | e :: l, f, hp, args, σ, v, σ', h => by
   simp only [tabT, pfT] at h hp ⊢
   cases hd : decide (f = e.f) with
   | true => rw [hd] at h hp; exact e.same hp _ _ _ _ h
   | false => rw [hd] at h hp; exact tabT_same hp _ _ _ _ h
structure SE (P : Program) where
 f : Nat
 run : List AV → Option (List (List AV))
 ok : ∀ cap xs, run cap = some xs → SeqOk P (.fn f cap) xs
def seqT : List (SE P) → AV → Option (List (List AV))
 | e :: l, .fn f cap => match decide (f = e.f) with
   | true => e.run cap
   | false => seqT l (.fn f cap)
 | _, _ => none
theorem seqT_ok : ∀ {l : List (SE P)} {v : AV} {xs : List (List AV)}, seqT l v = some xs → SeqOk P v xs
 | [], _, _, h => by cases h
 | e :: l, v, xs, h => by
   cases v with
   | fn f cap =>
     simp only [seqT] at h
     split at h
     · rename_i hf; have := of_decide_eq_true hf; subst this; exact e.ok _ _ h
     · exact seqT_ok h
   | _ => cases h
open Classical in
noncomputable def SQ {X : Type} (emb : X → List AV) (out : X → Option (List (List AV))) (cap : List AV) : Option (List (List AV)) :=
  if h : ∃ x, nzs (emb x) = nzs cap then out (Classical.choose h) else none
theorem SQ_hit {X : Type} {emb : X → List AV} {out : X → Option (List (List AV))} (inj : ∀ x y, nzs (emb x) = nzs (emb y) → x = y) {cap : List AV} (x : X) (h : nzs (emb x) = nzs cap) : SQ emb out cap = out x := by
 have hx : ∃ y, nzs (emb y) = nzs cap := ⟨x, h⟩
 rw [SQ, dif_pos hx, inj (Classical.choose hx) x ((Classical.choose_spec hx).trans h.symm)]
theorem SQ_ok {X : Type} {f : Nat} {emb : X → List AV} {out : X → Option (List (List AV))} (hw : ∀ x, wks (emb x) = true) (h : ∀ x xs, out x = some xs → SeqOk P (.fn f (emb x)) xs) (cap : List AV) (xs : List (List AV)) (hs : SQ emb out cap = some xs) : SeqOk P (.fn f cap) xs := by
 unfold SQ at hs
 split at hs
 · rename_i hx
   have hc := Classical.choose_spec hx
   rintro g m val ⟨vs, e, hr⟩
   exact h _ _ hs g m val ⟨vs, e, reps_nz hc.symm (hw _) hr⟩
 · cases hs
noncomputable def mkT (P : Program) (n0 : Nat) (ty : Nat → Option TInfo) (eqt : Nat → Option (List TK)) (l : List (TE P)) (s : List (SE P)) : Env := ⟨P, n0, ty, eqt, tabT l, seqT s, noAli⟩
theorem mkT_ok {n0 : Nat} {ty : Nat → Option TInfo} {eqt : Nat → Option (List TK)} {l : List (TE P)} {s : List (SE P)} (hty : ∀ t i, ty t = some i → TyOk P t i) (heq : ∀ t ss, eqt t = some ss → EqOk P t ss) : EnvOk (mkT P n0 ty eqt l s) :=
 ⟨hty, heq, fun _ _ _ _ _ h => tabT_ok h⟩
theorem mkT_seq {n0 : Nat} {ty : Nat → Option TInfo} {eqt : Nat → Option (List TK)} {l : List (TE P)} {s : List (SE P)} : SeqEnv (mkT P n0 ty eqt l s) := ⟨fun _ _ h => seqT_ok h⟩
theorem mkT_pure {n0 : Nat} {ty : Nat → Option TInfo} {eqt : Nat → Option (List TK)} {l : List (TE P)} {s : List (SE P)} : PureTab (mkT P n0 ty eqt l s) (pfT l) := fun _ hp _ _ _ _ h => tabT_same hp _ _ _ _ h
@[push_cast] theorem mkT_ali {n0 : Nat} {ty : Nat → Option TInfo} {eqt : Nat → Option (List TK)} {l : List (TE P)} {s : List (SE P)} : (mkT P n0 ty eqt l s).ali = noAli := rfl
def deadOp : Op → Bool
 | .call c => match c.callee with
   | .builtin .copy => true
   | .builtin .cap => true
   | _ => false
 | _ => false
def deadOps : List Oper → Bool
 | [] => false
 | o :: os => (o.guard.isNone && deadOp o.op) || deadOps os
theorem deadOp_none {E : Env} {fr : Fr} {σ : Store} {ty : Nat} : ∀ {op : Op}, deadOp op = true → aOp E fr σ ty op = none := by
 intro op h
 cases op with
 | call c =>
   obtain ⟨cal, args, ts⟩ := c
   cases cal with
   | builtin b =>
     show aBuiltin E σ ts b (evalOs fr args.toList) = none
     cases b <;> first | (cases h; done) | (generalize evalOs fr args.toList = xs; cases xs <;> rfl)
   | _ => cases h
 | _ => cases h
theorem bindO_all {α β : Type} {x : Option α} {f : α → Option β} (h : ∀ a, f a = none) : bindO x f = none := by
 cases x with
 | none => rfl
 | some a => exact h a
theorem aOps_dead {E : Env} {ops : Array Oper} : ∀ {os : List Oper} {fr : Fr} {σ : Store}, deadOps os = true → aOps E ops os fr σ = none
 | [], _, _, h => by cases h
 | o :: os, fr, σ, h => by
   simp only [deadOps, Bool.or_eq_true, Bool.and_eq_true] at h
   simp only [aOps]
   rcases h with ⟨h1, h2⟩ | h
   · have hg : o.guard = none := by cases hg : o.guard with
       | none => rfl
       | some _ => rw [hg] at h1; cases h1
     rw [hg, deadOp_none h2]; rfl
   · refine bindO_all fun b => ?_
     cases b with
     | true => exact bindO_all fun p => aOps_dead h
     | false => exact aOps_dead h
def chkT (l : List (TE P)) (_ : Nat) (ops : Array Oper) : Bool := regionOk (pfT l) ops ops.size || deadOps ops.toList
theorem chkT_ok {l : List (TE P)} {E : Env} (hE : EnvOk E) (hp : PureTab E (pfT l)) (hm : E.P.follows .mixedOrders = true) (id : Nat) (ops : Array Oper) (h : chkT l id ops = true) (hn : slotsOf (E.ali id) = []) : DrawSound E (E.ali id) ops := by
 simp only [chkT, Bool.or_eq_true] at h
 rcases h with h | h
 · exact draw_sound hE hp hm ops _ h hn
 · intro g σ w fr a res n r id Q _ _ hr
   rw [hn] at hr
   have hr := (aliB_some hr).1
   rw [aOps_dead h] at hr
   cases hr
def plain (T : List AV → Option AV) (args : List AV) (σ : Store) : Option (AV × Store) := bindO (T args) fun v => some (v, σ)
def lent (T : List AV → Option AV) (args : List AV) (σ : Store) : Option (AV × Store) := bindO (freezes σ args) fun p => bindO (T p.1) fun v => iteO v.sc (some (v, σ)) none
def given (T : List AV → Option AV) (args : List AV) (σ : Store) : Option (AV × Store) := bindO (freezes σ args) fun p => bindO (T p.1) fun v => some (v, p.2)
theorem plain_ok {f : Nat} {T : List AV → Option AV} (h : TOk P f T) {args : List AV} {σ : Store} {v : AV} {σ' : Store} (hr : plain T args σ = some (v, σ')) : CallOk P f args σ v σ' := by
 obtain ⟨u, hu, h1⟩ := bindO_eq hr
 injection h1 with h1
 injection h1 with h1 h2
 subst h1; subst h2
 exact h _ _ hu σ
theorem given_ok {f : Nat} {T : List AV → Option AV} (h : TOk P f T) {args : List AV} {σ : Store} {v : AV} {σ' : Store} (hr : given T args σ = some (v, σ')) : CallOk P f args σ v σ' := by
 obtain ⟨p, hp, h0⟩ := bindO_eq hr
 obtain ⟨u, hu, h1⟩ := bindO_eq h0
 injection h1 with h1
 injection h1 with h1 h2
 subst h1; subst h2
 intro g w vs hI hr
 obtain ⟨g', hf, hr'⟩ := freezes_sound hI (Nat.le_refl _) (cs' := p.1) (σ' := p.2) hp hr
 refine (h _ _ hu p.2 g' w vs hf.inv (Reps.mono (Ext.refl g' 0) p.1 0 _ vs (Nat.le_refl _) (Nat.zero_le _) hr')).mono ?_
 rintro val w' ⟨g'', hm, hv⟩
 exact ⟨g'', ⟨hf.ext.trans hm.ext (by rw [hf.len]; exact Nat.le_refl _), hm.inv, by rw [← hf.len]; exact hm.len⟩, hv⟩
theorem lent_ok {f : Nat} {T : List AV → Option AV} (h : TOk P f T) {args : List AV} {σ : Store} {v : AV} {σ' : Store} (hr : lent T args σ = some (v, σ')) : CallOk P f args σ v σ' := by
 obtain ⟨p, hp, h0⟩ := bindO_eq hr
 obtain ⟨u, hu, h1⟩ := bindO_eq h0
 obtain ⟨hs, h1⟩ := iteO_none h1
 injection h1 with h1
 injection h1 with h1 h2
 subst h1; subst h2
 intro g w vs hI hr
 obtain ⟨g', hf, hr'⟩ := freezes_sound hI (Nat.le_refl _) (cs' := p.1) (σ' := p.2) hp hr
 refine (h _ _ hu [] (ghost0 P g'.C w) w vs (inv0 hf.inv.comm) (Reps.data (g := g') (g' := ghost0 P g'.C w) (fun _ _ _ h => h) p.1 0 vs hr')).mono ?_
 rintro val w' ⟨g'', hm, hv⟩
 have hb : Below w.heap.size w w' := by
   refine ⟨?_, ?_, ?_, ?_, fun k hk => ?_⟩
   · exact (hm.ext.tie.str.trans hm.inv.str).os
   · exact (hm.ext.tie.str.trans hm.inv.str).tape
   · exact (hm.ext.tie.str.trans hm.inv.str).output
   · exact (hm.ext.tie.str.trans hm.inv.str).size
   · exact (hm.inv.below k (hm.ext.tie.fix k hk)).trans (hm.ext.tie.same k hk)
 exact ⟨g, ⟨Ext.refl g _, same_inv hI hb, Nat.le_refl _⟩, sc_rep hs hv⟩
noncomputable def inl (E : Nat → Env) (fn : Func) (H : Nat → Hint) (N : Nat) (args : List AV) (σ : Store) : Option (AV × Store) := bindO (aFn (E σ.length) fn H N args σ) fun q => some (packed q.1, q.2)
theorem inl_ok {E : Nat → Env} (hE : ∀ n, EnvOk (E n)) (hS : ∀ n, SeqEnv (E n)) (hn0 : ∀ n, (E n).n0 = n) (hP : ∀ n, (E n).P = P) {chk : Nat → Array Oper → Bool} (hchk : ∀ n id ops, chk id ops = true → DrawSound (E n) ((E n).ali id) ops) {f : Nat} {fn : Func} {c : Code} (hf : P.funcs[f]? = some fn) (hb : fn.body = some c)
   (hn : fn.name ≠ "runtime.NumGoroutine") (hd : drawsOk chk c = true) {H : Nat → Hint} {N : Nat} {args : List AV} {σ : Store} {v : AV} {σ' : Store} (hr : inl E fn H N args σ = some (v, σ')) : CallOk P f args σ v σ' := by
 obtain ⟨q, hq, h1⟩ := bindO_eq hr
 injection h1 with h1
 injection h1 with h1 h2
 subst h1; subst h2
 intro g w vs hI hr
 have := fn_calls (E := E σ.length) (hE _) (hS _) (hchk _) (by rw [hP]; exact hf) hb hd (rs := q.1) (σ' := q.2) hq (by rw [hn0]; exact Nat.le_refl _) hI hr
 rw [hP] at this
 refine Yields.of_calls (callFunc_enter hf hb hn _ _) (this.mono ?_)
 rintro e w' ⟨val, rfl, g', he, hI', hl, hrep, _⟩
 rw [hn0] at he
 exact ⟨val, rfl, g', ⟨he, hI', hl⟩, hrep⟩
def TE.plain {P : Program} (f : Nat) (T : List AV → Option AV) (h : TOk P f T) : TE P := ⟨f, Go.Abs.plain T, true, fun _ _ _ _ hr => plain_ok h hr, fun _ args σ v σ' hr => by
 obtain ⟨u, hu, h1⟩ := bindO_eq hr
 injection h1 with h1
 injection h1 with h1 h2
 subst h1; subst h2
 exact ⟨rfl, fun σ2 => by show bindO (T args) _ = _; rw [hu]; rfl⟩⟩
def TE.lent {P : Program} (f : Nat) (T : List AV → Option AV) (h : TOk P f T) : TE P := ⟨f, Go.Abs.lent T, false, fun _ _ _ _ hr => lent_ok h hr, fun h => by cases h⟩
def TE.given {P : Program} (f : Nat) (T : List AV → Option AV) (h : TOk P f T) : TE P := ⟨f, Go.Abs.given T, false, fun _ _ _ _ hr => given_ok h hr, fun h => by cases h⟩
theorem pure_ofT {ty : Nat → Option TInfo} {eqt : Nat → Option (List TK)} {l : List (TE P)} {s : List (SE P)} (hty : ∀ t i, ty t = some i → TyOk P t i) (heq : ∀ t ss, eqt t = some ss → EqOk P t ss) (hm : P.follows .mixedOrders = true)
   {f : Nat} {fn : Func} {c : Code} (hf : P.funcs[f]? = some fn) (hb : fn.body = some c) (hn : fn.name ≠ "runtime.NumGoroutine") (hd : drawsOk (chkT l) c = true) {H : Nat → Hint} {N : Nat} {shp : Shp} {args : List AV} {v : AV}
   (h : bindO (aPure (mkT P 0 ty eqt l s) fn H N args) (cv shp) = some v) (ha : allData args = true) : Pure P f args v := by
 intro σ g w vs hI hr
 obtain ⟨u, hu, hcv⟩ := bindO_eq h
 have hE := mkT_ok (n0 := 0) (l := l) (s := s) hty heq
 refine (pure_callOk hE mkT_seq rfl (chk := chkT l) (fun id ops hc => chkT_ok hE mkT_pure hm id ops hc rfl) hf hb hn hd hu hI (datas_rep hr ha)).mono ?_
 rintro val w' ⟨g', hm', hv⟩
 exact ⟨g', hm', Rep.mono (Ext.refl g' 0) v 0 _ val (Nat.le_refl _) (Nat.zero_le _) (cv_rep hcv hv)⟩
theorem inl_okT {ty : Nat → Option TInfo} {eqt : Nat → Option (List TK)} {l : List (TE P)} {s : List (SE P)} (hty : ∀ t i, ty t = some i → TyOk P t i) (heq : ∀ t ss, eqt t = some ss → EqOk P t ss) (hm : P.follows .mixedOrders = true)
   {f : Nat} {fn : Func} {c : Code} (hf : P.funcs[f]? = some fn) (hb : fn.body = some c) (hn : fn.name ≠ "runtime.NumGoroutine") (hd : drawsOk (chkT l) c = true) {H : Nat → Hint} {N : Nat} {args : List AV} {σ : Store} {v : AV} {σ' : Store}
   (hr : inl (fun n0 => mkT P n0 ty eqt l s) fn H N args σ = some (v, σ')) : CallOk P f args σ v σ' :=
 inl_ok (fun _ => mkT_ok hty heq) (fun _ => mkT_seq) (fun _ => rfl) (fun _ => rfl) (fun _ id ops hc => chkT_ok (l := l) (mkT_ok hty heq) mkT_pure hm id ops hc rfl) hf hb hn hd hr
noncomputable def TE.inl {P : Program} (ty : Nat → Option TInfo) (eqt : Nat → Option (List TK)) (l : List (TE P)) (s : List (SE P)) (hty : ∀ t i, ty t = some i → TyOk P t i) (heq : ∀ t ss, eqt t = some ss → EqOk P t ss) (hm : P.follows .mixedOrders = true)
   (f : Nat) (fn : Func) {c : Code} (hf : P.funcs[f]? = some fn) (hb : fn.body = some c) (hn : fn.name ≠ "runtime.NumGoroutine") (hd : drawsOk (chkT l) c = true) (H : Nat → Hint) (N : Nat) : TE P :=
 ⟨f, Go.Abs.inl (fun n0 => mkT P n0 ty eqt l s) fn H N, false, fun _ _ _ _ hr => inl_okT hty heq hm hf hb hn hd hr, fun h => by cases h⟩
section
variable {α β γ δ : Type}
theorem ite_ext {b : Bool} {A B : Option α} {K : α → Option γ} {X Y : Option β} {e : β → Option γ} (h1 : b = true → bindO (run A) K = bindO X e) (h2 : b = false → bindO (run B) K = bindO Y e) : bindO (iteO b A B) K = bindO (iteO b X Y) e := by
 cases b
 · exact h2 rfl
 · exact h1 rfl
def atO (l : List α) (i : Int) : Option α := iteO (inB i l.length) l[i.toNat]? none
theorem at_in {l : List α} {i : Int} (h : inB i l.length = true) : ∃ x, l[i.toNat]? = some x := by
 simp only [inB, decide_eq_true_eq] at h
 have : i.toNat < l.length := by omega
 exact ⟨l[i.toNat], by simp [this]⟩
def foldN {S : Type} (step : S → Nat → α → Option (Sum S β)) (fin : S → Option β) : Nat → List α → Nat → S → Option β
 | 0, _, _, _ => none
 | _ + 1, [], _, s => fin s
 | N + 1, x :: xs, i, s => bindO (step s i x) fun r => match r with
   | .inl s' => foldN step fin N xs (i + 1) s'
   | .inr y => some y
def whileN {S : Type} (step : S → Option (Sum S β)) : Nat → S → Option β
 | 0, _ => none
 | N + 1, s => bindO (step s) fun r => match r with
   | .inl s' => whileN step N s'
   | .inr y => some y
def foldO {S : Type} (step : S → α → Option (Sum S β)) (fin : S → Option β) : List α → S → Option β
 | [], s => fin s
 | x :: xs, s => bindO (step s x) fun r => match r with
   | .inl s' => foldO step fin xs s'
   | .inr y => some y
def toR {S R : Type} (F : S → R) (e : β → Option γ) : Sum S β → Option (Sum R γ)
 | .inl s => some (.inl (F s))
 | .inr y => bindO (e y) fun z => some (.inr z)
@[push_cast] theorem toR_l {S R : Type} (F : S → R) (e : β → Option γ) (s : S) : toR F e (.inl s : Sum S β) = some (.inl (F s)) := rfl
@[push_cast] theorem toR_r {S R : Type} (F : S → R) (e : β → Option γ) (y : β) : toR F e (.inr y : Sum S β) = bindO (e y) fun z => some (.inr z) := rfl
theorem roundK_next {n0 n N : Nat} {ks : List Nat} {body : Fr → Store → Option ARes} {k : ARes → Option γ} {fr : Fr} {σ : Store} :
   bindO (aLoop n0 body ks n (N + 1) fr σ) k = bindO (bindO (run (body fr σ)) (stepK n0 n ks k)) fun r => match r with
     | .inl p => bindO (aLoop n0 body ks n N p.1 p.2) k
     | .inr y => some y := by
 show bindO (bindO (body fr σ) _) k = bindO (bindO (body fr σ) _) _
 rw [bindO_assoc, bindO_assoc]
 cases body fr σ with
 | none => rfl
 | some r =>
   obtain ⟨e, f, s⟩ := r
   cases e with
   | normal => rfl
   | exit id =>
     show bindO (some _) k = bindO (bindO (run (k _)) _) _
     rw [bindO_assoc]
     show k _ = bindO (k _) _
     cases k ⟨.exit id, f, s⟩ <;> rfl
   | ret =>
     show bindO (some _) k = bindO (bindO (run (k _)) _) _
     rw [bindO_assoc]
     show k _ = bindO (k _) _
     cases k ⟨.ret, f, s⟩ <;> rfl
theorem fold_ext {S : Type} {n0 n : Nat} {ks : List Nat} {body : Fr → Store → Option ARes} {k : ARes → Option γ} {e : β → Option γ} (l : List α) (F : Nat → S → Fr) (G : Nat → S → Store) {step : S → Nat → α → Option (Sum S β)} {fin : S → Option β} {N : Nat}
   (hs : ∀ s i x, l[i]? = some x → i < l.length → i < N → bindO (run (body (F i s) (G i s))) (stepK n0 n ks k) = bindO (step s i x) (toR (fun s => (F (i + 1) s, G (i + 1) s)) e))
   (he : ∀ s, bindO (run (body (F l.length s) (G l.length s))) (stepK n0 n ks k) = bindO (fin s) (fun y => bindO (e y) fun z => some (.inr z))) :
   ∀ (M : Nat) (rest : List α) (i : Nat) (s : S), l.drop i = rest → i + rest.length = l.length → i + M ≤ N → bindO (run (aLoop n0 body ks n M (F i s) (G i s))) k = bindO (foldN step fin M rest i s) e
 | 0, _, _, _, _, _, _ => rfl
 | M + 1, [], i, s, hd, hl, hM => by
   have hi : i = l.length := by simpa using hl
   subst hi
   show bindO (aLoop n0 body ks n (M + 1) _ _) k = bindO (fin s) e
   rw [roundK_next, he s]
   cases fin s with
   | none => rfl
   | some y => simp only [bindO_some]; cases e y <;> rfl
 | M + 1, x :: rest, i, s, hd, hl, hM => by
   have hx : l[i]? = some x := by
     have := congrArg List.head? hd
     simpa [List.head?_drop] using this
   have hlt : i < l.length := by simp at hl; omega
   show bindO (aLoop n0 body ks n (M + 1) _ _) k = bindO (bindO (step s i x) _) e
   rw [roundK_next, hs s i x hx hlt (by omega)]
   cases step s i x with
   | none => rfl
   | some r =>
     cases r with
     | inl s' => exact fold_ext l F G hs he M rest (i + 1) s' (by rw [← List.drop_drop, hd]; rfl) (by simp at hl; omega) (by omega)
     | inr y => simp only [bindO_some, toR]; cases e y <;> rfl
theorem fold_loop {S : Type} {n0 n : Nat} {ks : List Nat} {body : Fr → Store → Option ARes} {k : ARes → Option γ} {e : β → Option γ} (l : List α) (F : Nat → S → Fr) (G : Nat → S → Store) {step : S → Nat → α → Option (Sum S β)} {fin : S → Option β} {N : Nat} (s : S)
   (hs : ∀ s i x, l[i]? = some x → i < l.length → i < N → bindO (run (body (F i s) (G i s))) (stepK n0 n ks k) = bindO (step s i x) (toR (fun s => (F (i + 1) s, G (i + 1) s)) e))
   (he : ∀ s, bindO (run (body (F l.length s) (G l.length s))) (stepK n0 n ks k) = bindO (fin s) (fun y => bindO (e y) fun z => some (.inr z))) :
   bindO (run (aLoop n0 body ks n N (F 0 s) (G 0 s))) k = bindO (foldN step fin N l 0 s) e := fold_ext l F G hs he N l 0 s rfl (by simp) (by simp)
theorem while_loop {S : Type} {n0 n : Nat} {ks : List Nat} {body : Fr → Store → Option ARes} {k : ARes → Option γ} {e : β → Option γ} (F : S → Fr) (G : S → Store) {step : S → Option (Sum S β)}
   (hs : ∀ s, bindO (run (body (F s) (G s))) (stepK n0 n ks k) = bindO (step s) (toR (fun s => (F s, G s)) e)) :
   ∀ (N : Nat) (s : S), bindO (run (aLoop n0 body ks n N (F s) (G s))) k = bindO (whileN step N s) e
 | 0, _ => rfl
 | N + 1, s => by
   show bindO (aLoop n0 body ks n (N + 1) _ _) k = bindO (bindO (step s) _) e
   rw [roundK_next, hs s]
   cases step s with
   | none => rfl
   | some r =>
     cases r with
     | inl s' => exact while_loop F G hs N s'
     | inr y => simp only [bindO_some, toR]; cases e y <;> rfl
def rangeK (k : AExit × Store → Option γ) (q : AExit × Store) : Option (Sum Store γ) :=
 match q.1 with
 | .normal => some (.inl q.2)
 | .exit _ => bindO (run (k q)) fun z => some (.inr z)
 | .ret => bindO (run (k q)) fun z => some (.inr z)
@[push_cast] theorem rangeK_1 (k : AExit × Store → Option γ) (σ : Store) : run (rangeK k (.normal, σ)) = some (.inl σ) := rfl
@[push_cast] theorem rangeK_2 (k : AExit × Store → Option γ) (σ : Store) (id : Nat) : run (rangeK k (.exit id, σ)) = bindO (run (k (.exit id, σ))) fun z => some (.inr z) := rfl
@[push_cast] theorem rangeK_3 (k : AExit × Store → Option γ) (σ : Store) : run (rangeK k (.ret, σ)) = bindO (run (k (.ret, σ))) fun z => some (.inr z) := rfl
theorem range_loop {S : Type} (emb : α → List AV) (G : S → Store) {rd : List AV → Store → Option (AExit × Store)} {k : AExit × Store → Option γ} {e : β → Option γ} {step : S → α → Option (Sum S β)} {fin : S → Option β}
   (hs : ∀ s x, bindO (run (rd (emb x) (G s))) (rangeK k) = bindO (step s x) (toR G e))
   (he : ∀ s, run (k (.normal, G s)) = bindO (fin s) e) : ∀ (l : List α) (s : S), bindO (run (aRange rd (l.map emb) (G s))) k = bindO (foldO step fin l s) e
 | [], s => he s
 | x :: xs, s => by
   show bindO (bindO (rd (emb x) (G s)) _) k = bindO (bindO (step s x) _) e
   have h := hs s x
   have h : bindO (rd (emb x) (G s)) (rangeK k) = _ := h
   cases hr : rd (emb x) (G s) with
   | none =>
     rw [hr] at h
     cases hst : step s x with
     | none => rfl
     | some r =>
       rw [hst] at h
       cases r with
       | inl s' => cases h
       | inr y =>
         simp only [bindO_some, toR] at h ⊢
         cases hy : e y with
         | none => rfl
         | some z => rw [hy] at h; cases h
   | some q =>
     rw [hr] at h
     obtain ⟨q1, σ'⟩ := q
     cases q1 with
     | normal =>
       cases hst : step s x with
       | none => rw [hst] at h; cases h
       | some r =>
         rw [hst] at h
         cases r with
         | inl s' =>
           have h : some (Sum.inl σ') = some (Sum.inl (G s')) := h
           injection h with h
           injection h with h
           subst h
           exact range_loop emb G hs he xs s'
         | inr y =>
           simp only [bindO_some, toR] at h ⊢
           have h : some (Sum.inl σ') = _ := h
           cases hy : e y with
           | none => rw [hy] at h; cases h
           | some z => rw [hy] at h; injection h with h; cases h
     | exit id =>
       have h : bindO (k (.exit id, σ')) (fun z => some (Sum.inr z)) = _ := h
       show k (.exit id, σ') = _
       cases hst : step s x with
       | none => rw [hst] at h; cases hk : k (.exit id, σ') <;> simp_all [bindO]
       | some r =>
         rw [hst] at h
         cases r with
         | inl s' => cases hk : k (.exit id, σ') <;> simp_all [bindO, toR]
         | inr y => simp only [bindO_some, toR] at h ⊢; cases hk : k (.exit id, σ') <;> cases hy : e y <;> simp_all [bindO]
     | ret =>
       have h : bindO (k (.ret, σ')) (fun z => some (Sum.inr z)) = _ := h
       show k (.ret, σ') = _
       cases hst : step s x with
       | none => rw [hst] at h; cases hk : k (.ret, σ') <;> simp_all [bindO]
       | some r =>
         rw [hst] at h
         cases r with
         | inl s' => cases hk : k (.ret, σ') <;> simp_all [bindO, toR]
         | inr y => simp only [bindO_some, toR] at h ⊢; cases hk : k (.ret, σ') <;> cases hy : e y <;> simp_all [bindO]
end
end Go.Abs
