import Derived.Test.YthgibjeclmkbpaaGen2
import Derived.Test.YthgibjeclmkbpaaAbs31toAbs33
set_option linter.unusedSimpArgs false
set_option linter.unusedVariables false
namespace Go.Abs
open Go.RowKit
def nzO : AObj → AObj
 | .var cs => .var (cs.map nzL)
 | .row sz ver es => .row sz ver es
 | .frz sz ver es => .frz sz ver es
 | .app sz ver es => .app sz ver es
 | .map kk m => .map kk m
 | .dead => .dead
 | .guest T => .guest T
def nzS (σ : Store) : Store := σ.map nzO
def wkO : AObj → Bool
 | .var cs => cs.all wkL
 | _ => true
def wkS (σ : Store) : Bool := σ.all wkO
theorem nzO_rel {o o' : AObj} (h : nzO o = nzO o') (hw : wkO o' = true) : o = o' ∨ ∃ cs cs', o = .var cs ∧ o' = .var cs' ∧ ∀ (g : Ghost) n vs, Reps g cs n vs → Reps g cs' n vs := by
 cases o <;> cases o' <;> first
   | (simp only [nzO, AObj.var.injEq] at h; exact .inr ⟨_, _, rfl, rfl, fun g n vs hr => reps_nzL h hw hr⟩)
   | exact .inl h
   | (simp [nzO] at h)
theorem inv_nz {g : Ghost} {σ σ' : Store} {w : World} (h : nzS σ = nzS σ') (hw : wkS σ' = true) (hI : Inv g σ w) : Inv g σ' w := by
 refine inv_rel (by have := congrArg List.length h; simpa [nzS] using this.symm) (fun id o' ho => ?_) hI
 have h1 : (nzS σ)[id]? = some (nzO o') := by rw [h]; simp [nzS, ho]
 simp only [nzS, List.getElem?_map, Option.map_eq_some_iff] at h1
 obtain ⟨o, ho2, he⟩ := h1
 have hwo : wkO o' = true := by
   simp only [wkS, List.all_eq_true] at hw
   exact hw o' (List.mem_of_getElem? ho)
 rcases nzO_rel he hwo with rfl | ⟨cs, cs', rfl, rfl, h2⟩
 · exact .inl ho2
 · exact .inr ⟨cs, cs', ho2, rfl, h2 g⟩
inductive ShO where
 | var (l : List (Option Nat))
 | any
def cvS : List ShO → Store → Option Store
 | [], [] => some []
 | .var l :: os, .var cs :: σ => bindO (cvLs l cs) fun cs' => bindO (cvS os σ) fun s => some (.var cs' :: s)
 | .any :: os, o :: σ => bindO (cvS os σ) fun s => some (o :: s)
 | _, _ => none
theorem cvS_rel {g : Ghost} : ∀ {os : List ShO} {σ σ' : Store}, cvS os σ = some σ' → σ'.length = σ.length ∧
   ∀ (id : Nat) (o' : AObj), σ'[id]? = some o' → σ[id]? = some o' ∨ ∃ cs cs', σ[id]? = some (.var cs) ∧ o' = .var cs' ∧ ∀ n vs, Reps g cs n vs → Reps g cs' n vs
 | [], [], _, h => by injection h with h; subst h; exact ⟨rfl, fun _ _ h => by simp at h⟩
 | .var l :: os, .var cs :: σ, _, h => by
   obtain ⟨cs', h1, h⟩ := bindO_eq h
   obtain ⟨s, h2, h⟩ := bindO_eq h
   injection h with h
   subst h
   obtain ⟨h3, h4⟩ := cvS_rel (g := g) h2
   refine ⟨by simp [h3], fun id o' ho => ?_⟩
   cases id with
   | zero =>
     simp at ho; subst ho
     exact .inr ⟨cs, cs', rfl, rfl, fun n vs hr => cvLs_rep h1 hr⟩
   | succ id => simpa using h4 id o' (by simpa using ho)
 | .any :: os, o :: σ, _, h => by
   obtain ⟨s, h2, h⟩ := bindO_eq h
   injection h with h
   subst h
   obtain ⟨h3, h4⟩ := cvS_rel (g := g) h2
   refine ⟨by simp [h3], fun id o' ho => ?_⟩
   cases id with
   | zero => simp at ho; subst ho; exact .inl rfl
   | succ id => simpa using h4 id o' (by simpa using ho)
 | .var _ :: _, [], _, h => by cases h
 | .any :: _, [], _, h => by cases h
 | [], _ :: _, _, h => by cases h
 | .var _ :: _, .row _ _ _ :: _, _, h => by cases h
 | .var _ :: _, .frz _ _ _ :: _, _, h => by cases h
 | .var _ :: _, .app _ _ _ :: _, _, h => by cases h
 | .var _ :: _, .map _ _ :: _, _, h => by cases h
 | .var _ :: _, .dead :: _, _, h => by cases h
 | .var _ :: _, .guest _ :: _, _, h => by cases h
def cvX (shp : Shp) (sho : List ShO) (q : AV × Store) : Option (AV × Store) := bindO (cv shp q.1) fun v => bindO (cvS sho q.2) fun s => some (v, s)
variable {P : Program}
theorem lens_cv {f n0 : Nat} {args : List AV} {σ0 σ1 σ2 : Store} {v v2 : AV} {shp : Shp} {sho : List ShO} (h : LensOk P f n0 args σ0 v σ1) (hc : cvX shp sho (v, σ1) = some (v2, σ2)) : LensOk P f n0 args σ0 v2 σ2 := by
 intro g w vs hI hr
 obtain ⟨v', h1, h2⟩ := bindO_eq hc
 obtain ⟨s', h3, h4⟩ := bindO_eq h2
 obtain ⟨h5, h6⟩ := pair_inj h4
 subst h5; subst h6
 refine (h g w vs hI hr).mono ?_
 rintro e w' ⟨val, rfl, g', he, hI', hl, hb, hrep⟩
 obtain ⟨h7, h8⟩ := cvS_rel (g := g') h3
 exact ⟨val, rfl, g', he, inv_rel h7 h8 hI', by rw [h7]; exact hl, hb, by rw [h7]; exact cv_rep h1 hrep⟩
theorem lens_nz {f n0 : Nat} {args args' : List AV} {σ0 σ0' σ1 : Store} {v : AV} (h : LensOk P f n0 args' σ0' v σ1) (ha : nzs args = nzs args') (hs : nzS σ0 = nzS σ0') (hwa : wks args' = true) (hws : wkS σ0' = true) : LensOk P f n0 args σ0 v σ1 := by
 intro g w vs hI hr
 have hl : σ0.length = σ0'.length := by have := congrArg List.length hs; simpa [nzS] using this
 rw [hl]
 exact h g w vs (inv_nz hs hws hI) (reps_nz ha hwa (by rw [← hl]; exact hr))
open Classical in
noncomputable def TLS {X : Type} (a : X → List AV) (s : X → Store) (res : X → Option (AV × Store)) (ays : List AV) (σ : Store) : Option (AV × Store) :=
  if h : ∃ x, nzs (a x) = nzs ays ∧ nzS (s x) = nzS σ then res (Classical.choose h) else none
theorem TLS_hit {X : Type} {a : X → List AV} {s : X → Store} {res : X → Option (AV × Store)} (inj : ∀ x y, nzs (a x) = nzs (a y) → nzS (s x) = nzS (s y) → x = y) {ays : List AV} {σ : Store} (x : X) (h : nzs (a x) = nzs ays) (h2 : nzS (s x) = nzS σ) : TLS a s res ays σ = res x := by
 have hx : ∃ y, nzs (a y) = nzs ays ∧ nzS (s y) = nzS σ := ⟨x, h, h2⟩
 have hc := Classical.choose_spec hx
 rw [TLS, dif_pos hx, inj (Classical.choose hx) x (hc.1.trans h.symm) (hc.2.trans h2.symm)]
def TSOk (P : Program) (f n0 : Nat) (T : List AV → Store → Option (AV × Store)) : Prop := ∀ a s v s', T a s = some (v, s') → LensOk P f n0 a s v s'
theorem TLS_ok {X : Type} {f n0 : Nat} {a : X → List AV} {s : X → Store} {res : X → Option (AV × Store)} (hwa : ∀ x, wks (a x) = true) (hws : ∀ x, wkS (s x) = true) (h : ∀ x v s', res x = some (v, s') → LensOk P f n0 (a x) (s x) v s') : TSOk P f n0 (TLS a s res) := by
 intro ays σ v s' hv
 unfold TLS at hv
 split at hv
 · rename_i hx
   have hc := Classical.choose_spec hx
   exact lens_nz (h _ v s' hv) hc.1.symm hc.2.symm (hwa _) (hws _)
 · cases hv
noncomputable def aLensN (E : Env) (fn : Func) (H : Nat → Hint) (N n0 m mk : Nat) (ms : List PM) (args : List AV) (σ0 : Store) : Option (AV × Store) := bindO (aFn E fn H N args σ0) (finL n0 m mk ms)
noncomputable def finL2 (n0 m mk : Nat) (ms : List PM) (q : List AV × Store) : Option (AV × Store) := finL n0 m mk ms q
theorem finL_rw (n0 m mk : Nat) (ms : List PM) (q : List AV × Store) : finL n0 m mk ms q = finL2 n0 m mk ms q := rfl
theorem r_lens {E : Env} {H : Nat → Hint} {N n0 m mk : Nat} {ms : List PM} (fn : Func) (args : List AV) (σ0 : Store) : aLensN E fn H N n0 m mk ms args σ0 =
   bindO (run (bindO fn.body fun c => bindO (aev E H N 0 c (args ++ List.replicate (fn.ntmps - args.length) .top) σ0) (ended E fn.results.toList))) (finL n0 m mk ms) := rfl
theorem lens_ofT {ty : Nat → Option TInfo} {eqt : Nat → Option (List TK)} {l : List (TE P)} {s : List (SE P)} (hty : ∀ t i, ty t = some i → TyOk P t i) (heq : ∀ t ss, eqt t = some ss → EqOk P t ss) (hm : P.follows .mixedOrders = true)
   {f : Nat} {fn : Func} {c : Code} (hf : P.funcs[f]? = some fn) (hb : fn.body = some c) (hd : drawsOk (chkT l) c = true) {H : Nat → Hint} {N n0 m mk : Nat} {ms : List PM} {shp : Shp} {sho : List ShO} {args : List AV} {σ0 σ1 : Store} {v : AV}
   (h : bindO (aLensN (mkT P n0 ty eqt l s) fn H N n0 m mk ms args σ0) (cvX shp sho) = some (v, σ1)) (hlen : σ0.length = m) (hn0 : n0 ≤ m) : LensOk P f n0 args σ0 v σ1 := by
 subst hlen
 obtain ⟨u, hu, hcv⟩ := bindO_eq h
 have hE := mkT_ok (P := P) (n0 := n0) (l := l) (s := s) hty heq
 exact lens_cv (lens_of (E := mkT P n0 ty eqt l s) hE mkT_seq (chk := chkT l) (fun id ops hc => chkT_ok hE mkT_pure hm id ops hc rfl) hf hb hd (v := u.1) (σ1 := u.2) hu hn0) hcv
theorem lens_ofTA (A : Nat → List (Nat × Nat)) (G : List Nat) {ty : Nat → Option TInfo} {eqt : Nat → Option (List TK)} {l : List (TE P)} {s : List (SE P)} (hty : ∀ t i, ty t = some i → TyOk P t i) (heq : ∀ t ss, eqt t = some ss → EqOk P t ss) (hm : P.follows .mixedOrders = true)
   {f : Nat} {fn : Func} {c : Code} (hf : P.funcs[f]? = some fn) (hb : fn.body = some c) (hd : drawsOk (chkTA l A G) c = true) (hG : GrowT l G) {H : Nat → Hint} {N n0 m mk : Nat} {ms : List PM} {shp : Shp} {sho : List ShO} {args : List AV} {σ0 σ1 : Store} {v : AV}
   (h : bindO (aLensN (mkTA A P n0 ty eqt l s) fn H N n0 m mk ms args σ0) (cvX shp sho) = some (v, σ1)) (hlen : σ0.length = m) (hn0 : n0 ≤ m) : LensOk P f n0 args σ0 v σ1 := by
 subst hlen
 obtain ⟨u, hu, hcv⟩ := bindO_eq h
 have hE := mkTA_ok (A := A) (P := P) (n0 := n0) (l := l) (s := s) hty heq
 exact lens_cv (lens_of (E := mkTA A P n0 ty eqt l s) hE (mkTA_seq (A := A)) (chk := chkTA l A G) (fun id ops hc => chkTA_ok (G := G) hE (mkTA_pure (A := A)) hG hm id ops hc) hf hb hd (v := u.1) (σ1 := u.2) hu hn0) hcv
def TE.lens {P : Program} (f n0 : Nat) (ms : List PM) (T : List AV → Store → Option (AV × Store)) {fn : Func} {c : Code} (hf : P.funcs[f]? = some fn) (hb : fn.body = some c) (hn : fn.name ≠ "runtime.NumGoroutine") (h : TSOk P f n0 T) : TE P :=
 ⟨f, lensRun n0 ms T, false, fun _ _ _ _ hr => lens_callOk hf hb hn h hr, fun h => by cases h⟩
theorem lens_hit {X R : Type} {n0 : Nat} {ms : List PM} {a : X → List AV} {s : X → Store} {F : X → Option R} {v : X → R → AV} {so : X → R → Store} (inj : ∀ x y, nzs (a x) = nzs (a y) → nzS (s x) = nzS (s y) → x = y) {args args2 : List AV} {σ σ2 : Store} (sel : List (Option Nat)) (x : X) {V : R → AV} {S : R → Store}
   (hp : prepM ms σ args = some (args2, σ2)) (h0 : selOf σ2 ms args2 = sel) (h1 : (selOk sel && selIn σ2 n0 0 sel) = true) (h2 : nzs (a x) = nzs (AV.uns σ2 sel args2)) (h3 : nzS (s x) = nzS (unS σ2 sel)) (h4 : ∀ r, (v x r).bk n0 σ2 sel = V r) (h5 : ∀ r, back n0 σ2 sel (so x r) = S r) (h6 : ∀ r, (so x r).all appPos = true) :
   lensRun n0 ms (TLS a s fun x => bindO (F x) fun r => some (v x r, so x r)) args σ = bindO (F x) fun r => some (V r, S r) := by
 subst h0
 rw [lensRun, hp, bindO_some, lensAt, h1, TLS_hit inj x h2 h3]
 show bindO (bindO (F x) _) _ = _
 cases F x with
 | none => rfl
 | some r =>
   show iteO ((so x r).all appPos) (some (_, _)) none = some (_, _)
   rw [h6, iteO_true, h4, h5]
structure Rc (α : Type) where
 e : α → List AV
 inj : ∀ x y, (e x).map nzL = (e y).map nzL → x = y
 wk : ∀ x, (e x).all wkL = true
structure Ra (α : Type) where
 e : α → List AV
 inj : ∀ x y, nzs (e x) = nzs (e y) → x = y
 wk : ∀ x, wks (e x) = true
structure Ro (α : Type) where
 e : α → AObj
 inj : ∀ x y, nzO (e x) = nzO (e y) → x = y
 wk : ∀ x, wkO (e x) = true
structure Rt (α : Type) where
 e : α → Store
 inj : ∀ x y, nzS (e x) = nzS (e y) → x = y
 wk : ∀ x, wkS (e x) = true
section
variable {α β γ : Type}
def rcN : Rc Unit := ⟨fun _ => [], fun _ _ _ => rfl, fun _ => rfl⟩
def rcK (c : AV) (hc : wkL c = true) (s : Rc β) : Rc β := ⟨fun x => c :: s.e x, fun _ _ h => s.inj _ _ (by injection h), fun x => by simp [hc, s.wk]⟩
def rcI (k : IntKind) (s : Rc β) : Rc (Int × β) := ⟨fun x => .int k x.1 :: s.e x.2, fun _ _ h => by injection h with h1 h2; injection h1 with _ h1; exact Prod.ext h1 (s.inj _ _ h2), fun x => by simp [wkL, s.wk]⟩
def rcB (s : Rc β) : Rc (Bool × β) := ⟨fun x => .bool x.1 :: s.e x.2, fun _ _ h => by injection h with h1 h2; injection h1 with h1; exact Prod.ext h1 (s.inj _ _ h2), fun x => by simp [wkL, s.wk]⟩
def rcS (s : Rc β) : Rc (ByteArray × β) := ⟨fun x => .str x.1 :: s.e x.2, fun _ _ h => by injection h with h1 h2; injection h1 with h1; exact Prod.ext h1 (s.inj _ _ h2), fun x => by simp [wkL, s.wk]⟩
def rcL (sz : Nat) (c : α → List AV) (hc : ∀ a b, c a = c b → a = b) (s : Rc β) : Rc (List α × β) :=
 ⟨fun x => .sl false sz (List.map c x.1) :: s.e x.2, fun _ _ h => by injection h with h1 h2; exact Prod.ext ((map_inj_iff hc _ _).1 (nzL_sl (f := false) (f' := false) (sz := sz) (sz' := sz).1 h1).1) (s.inj _ _ h2), fun x => by simp [wkL, s.wk]⟩
theorem wkc_ptr (i o : Nat) : wkV (.ptr i o) = true := rfl
def raN : Ra Unit := ⟨fun _ => [], fun _ _ _ => rfl, fun _ => rfl⟩
def raK (c : AV) (hc : wkV c = true) (s : Ra β) : Ra β := ⟨fun x => c :: s.e x, fun _ _ h => s.inj _ _ (by injection h), fun x => by have := s.wk x; simp_all [wks]⟩
def raC (r : Rp α) (s : Ra β) : Ra (α × β) := ⟨fun x => r.e x.1 :: s.e x.2, fun _ _ h => by injection h with h1 h2; exact Prod.ext (r.inj _ _ h1) (s.inj _ _ h2), fun x => by have := s.wk x.2; simp_all [wks, r.wk]⟩
def raG (r : Rc α) (s : Ra β) : Ra (α × β) := ⟨fun x => .agg (r.e x.1) :: s.e x.2, fun _ _ h => by injection h with h1 h2; injection h1 with h1; exact Prod.ext (r.inj _ _ h1) (s.inj _ _ h2), fun x => by have := s.wk x.2; simp_all [wks, wkV, r.wk]⟩
def oVar (r : Rc α) : Ro α := ⟨fun x => .var (r.e x), fun _ _ h => by injection h with h; exact r.inj _ _ h, fun x => r.wk x⟩
def oRow (sz : Nat) (c : α → List AV) (hc : ∀ a b, c a = c b → a = b) : Ro (List α) := ⟨fun x => .row sz 0 (List.map c x), fun _ _ h => by injection h with _ _ h; exact (map_inj_iff hc _ _).1 h, fun _ => rfl⟩
theorem map_evinj {ev : α → AV} (he : ∀ a b, ev a = ev b → a = b) {x y : Option α} (h : x.map ev = y.map ev) : x = y := by
 cases x <;> cases y <;> simp at h
 · rfl
 · exact congrArg some (he _ _ h)
def oApp (sz : Nat) (c : α → List AV) (hc : ∀ a b, c a = c b → a = b) : Ro (List α) := ⟨fun x => .app sz 1 (List.map c x), fun _ _ h => by injection h with _ _ h; exact (map_inj_iff hc _ _).1 h, fun _ => rfl⟩
def oMapS (ev : α → AV) (he : ∀ a b, ev a = ev b → a = b) : Ro (ByteArray → Option α) := ⟨fun m => .map .string (mS ev m), fun x y h => by
 injection h with _ h
 funext b
 exact map_evinj he (congrFun h (.s b)), fun _ => rfl⟩
def oMapI (k : IntKind) (ev : α → AV) (he : ∀ a b, ev a = ev b → a = b) : Ro (Int → Option α) := ⟨fun m => .map (.int k) (mI ev m), fun x y h => by
 injection h with _ h
 funext b
 exact map_evinj he (congrFun h (.i b)), fun _ => rfl⟩
def rtN : Rt Unit := ⟨fun _ => [], fun _ _ _ => rfl, fun _ => rfl⟩
def rtC (r : Ro α) (s : Rt β) : Rt (α × β) := ⟨fun x => r.e x.1 :: s.e x.2, fun _ _ h => by injection h with h1 h2; exact Prod.ext (r.inj _ _ h1) (s.inj _ _ h2), fun x => by have := s.wk x.2; simp_all [wkS, r.wk]⟩
theorem ras_inj (a : Ra α) (s : Rt β) : ∀ x y : α × β, nzs (a.e x.1) = nzs (a.e y.1) → nzS (s.e x.2) = nzS (s.e y.2) → x = y := fun _ _ h1 h2 => Prod.ext (a.inj _ _ h1) (s.inj _ _ h2)
@[push_cast] theorem rcN_e (x : Unit) : rcN.e x = [] := rfl
@[push_cast] theorem rcK_e (c : AV) (hc : wkL c = true) (s : Rc β) (x : β) : (rcK c hc s).e x = c :: s.e x := rfl
@[push_cast] theorem rcI_e (k : IntKind) (s : Rc β) (x : Int × β) : (rcI k s).e x = .int k x.1 :: s.e x.2 := rfl
@[push_cast] theorem rcB_e (s : Rc β) (x : Bool × β) : (rcB s).e x = .bool x.1 :: s.e x.2 := rfl
@[push_cast] theorem rcS_e (s : Rc β) (x : ByteArray × β) : (rcS s).e x = .str x.1 :: s.e x.2 := rfl
@[push_cast] theorem rcL_e (sz : Nat) (c : α → List AV) (hc : ∀ a b, c a = c b → a = b) (s : Rc β) (x : List α × β) : (rcL sz c hc s).e x = .sl false sz (List.map c x.1) :: s.e x.2 := rfl
@[push_cast] theorem raN_e (x : Unit) : raN.e x = [] := rfl
@[push_cast] theorem raK_e (c : AV) (hc : wkV c = true) (s : Ra β) (x : β) : (raK c hc s).e x = c :: s.e x := rfl
@[push_cast] theorem raC_e (r : Rp α) (s : Ra β) (x : α × β) : (raC r s).e x = r.e x.1 :: s.e x.2 := rfl
@[push_cast] theorem raG_e (r : Rc α) (s : Ra β) (x : α × β) : (raG r s).e x = .agg (r.e x.1) :: s.e x.2 := rfl
@[push_cast] theorem oVar_e (r : Rc α) (x : α) : (oVar r).e x = .var (r.e x) := rfl
@[push_cast] theorem oRow_e (sz : Nat) (c : α → List AV) (hc : ∀ a b, c a = c b → a = b) (x : List α) : (oRow sz c hc).e x = .row sz 0 (List.map c x) := rfl
@[push_cast] theorem oApp_e (sz : Nat) (c : α → List AV) (hc : ∀ a b, c a = c b → a = b) (x : List α) : (oApp sz c hc).e x = .app sz 1 (List.map c x) := rfl
@[push_cast] theorem oMapS_e (ev : α → AV) (he : ∀ a b, ev a = ev b → a = b) (m : ByteArray → Option α) : (oMapS ev he).e m = .map .string (mS ev m) := rfl
@[push_cast] theorem oMapI_e (k : IntKind) (ev : α → AV) (he : ∀ a b, ev a = ev b → a = b) (m : Int → Option α) : (oMapI k ev he).e m = .map (.int k) (mI ev m) := rfl
@[push_cast] theorem rtN_e (x : Unit) : rtN.e x = [] := rfl
@[push_cast] theorem rtC_e (r : Ro α) (s : Rt β) (x : α × β) : (rtC r s).e x = r.e x.1 :: s.e x.2 := rfl
end
end Go.Abs
