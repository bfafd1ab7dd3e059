import Derived.Test.YtjealnlacmfbiaaSqW2
set_option linter.unusedSimpArgs false
set_option linter.unusedVariables false
namespace Go.Abs.Try
open Go.RowKit
set_option maxRecDepth 100000
def back {α : Type} (c : α → List AV) (l : List α) : Nat → List (List AV)
 | 0 => []
 | j + 1 => [.int .i64 (j : Int), .agg ((l.map c).getD j [])] :: back c l j
abbrev BTodo := List (List AV × Bool)
def backTo {α : Type} (l : List α) : Nat → List (Int × α)
 | 0 => []
 | j + 1 => match l[j]? with
   | some x => ((j : Int), x) :: backTo l j
   | none => backTo l j
def backO {α : Type} (l : List α) : Option (List (Int × α)) := iteO (decide (l.length < 4611686018427387904)) (some (backTo l l.length)) none
theorem back_to {α : Type} (c : α → List AV) (l : List α) : ∀ j, j ≤ l.length → (backTo l j).map (fun p => [AV.int .i64 p.1, AV.agg (c p.2)]) = back c l j
 | 0, _ => rfl
 | j + 1, h => by
   have hx : l[j]? = some l[j] := List.getElem?_eq_getElem (by omega)
   have hg : (List.map c l).getD j [] = c l[j] := by rw [List.getD_eq_getElem?_getD, List.getElem?_map, hx]; rfl
   simp only [backTo, hx, List.map_cons, back, hg, back_to c l j (by omega)]
def bnext : Nat × BTodo → Sum (Nat × BTodo) (List AV × Store)
 | (0, _) => .inr ([], [.guest []])
 | (_ + 1, []) => .inr ([], [.guest []])
 | (j + 1, (_, true) :: T) => .inl (j, T)
 | (_ + 1, (_, false) :: _) => .inr ([], [.guest []])
section
def H36 : Nat → Hint
 | 0 => ⟨[0, 1, 3], [], []⟩
 | _ => ⟨[], [0, 1, 3], []⟩
attribute [local push_cast] ty3 ty4 ty25 ty42 ty43 ty46 ty65 H36
theorem ev36 {E : Env} {N : Nat} (hty : E.ty = tys) (hal : E.ali = noAli) (h1 : E.n0 = 1) (l : List Decl) (T : BTodo) (hT : Fits (back Decl.cells l l.length) T) (hN : l.length < N) (hlen : l.length < 4611686018427387904) :
   aFn E Proofs.Try.f36 H36 N [.yfn E.P, .cref [.sl false 2 (List.map Decl.cells l)]] [.guest T] = some ([], [.guest []]) := by
 show run (aFn E Proofs.Try.f36 H36 N [.yfn E.P, .cref [.sl false 2 (List.map Decl.cells l)]] [.guest T]) = _
 unfold aFn
 simp only [push_cast, hty, hal, h1, Proofs.Try.f36, seval]
 simp only [bindO_assoc]
 have hw : IntKind.i64.wrap ((l.length : Int) - 1) = (l.length : Int) - 1 := wrap_id (by omega)
 rw [hw]
 refine loop_w (β := List AV × Store) (fun s : Nat × BTodo => [.yfn E.P, .cref [.sl false 2 (List.map Decl.cells l)], .top, .int .i64 ((s.1 : Int) - 1), .top, .top, .top, .top, .top, .top, .top, .top, .top, .top, .top, .top, .top, .top, .top]) (fun s => [.guest s.2]) (fun s => s.1 ≤ l.length ∧ Fits (back Decl.cells l s.1) s.2) (fun s => s.1) bnext (fun _ => ([], [.guest []])) ?_ N (l.length, T) hN ⟨Nat.le_refl _, hT⟩
 rintro ⟨j, T⟩ ⟨hj, hI⟩
 simp only at hj hI
 cases j with
 | zero =>
   have hI : T = [] := hI
   subst hI
   refine ⟨?_, fun s' h => (by cases h), fun y h => (by injection h)⟩
   have e0 : decide (((0 : Nat) : Int) - 1 ≥ 0) = false := by decide
   simp only [roundK, bnext]
   simp only [push_cast, hty, hal, h1, seval, e0, nextK]
 | succ j =>
   have hi : j < l.length := by omega
   have e0 : decide (((j + 1 : Nat) : Int) - 1 ≥ 0) = true := decide_eq_true (by omega)
   have ej : ((j + 1 : Nat) : Int) - 1 = (j : Int) := by omega
   have hw2 : IntKind.i64.wrap ((j : Int) - 1) = (j : Int) - 1 := wrap_id (by omega)
   have d0 : decide ((j : Int) ≥ 0) = true := decide_eq_true (by omega)
   obtain ⟨x, hx⟩ : ∃ x, l[j]? = some x := ⟨l[j], List.getElem?_eq_getElem hi⟩
   have hg : (List.map Decl.cells l).getD j [] = Decl.cells x := by rw [List.getD_eq_getElem?_getD, List.getElem?_map, hx]; rfl
   simp only [back, hg] at hI
   rcases hI with ⟨T', rfl, hI⟩ | rfl
   · refine ⟨?_, fun s' h => (by injection h with h; subst h; exact ⟨⟨by omega, hI⟩, Nat.lt_succ_self _, rfl⟩), fun y h => (by cases h)⟩
     simp only [roundK, ej, bnext]
     simp only [push_cast, hty, hal, h1, seval, d0, List.length_map, inB_lt hi, hg, hw2, nextK]
   · refine ⟨?_, fun s' h => (by cases h), fun y h => (by injection h)⟩
     simp only [roundK, ej, bnext]
     simp only [push_cast, hty, hal, h1, seval, d0, List.length_map, inB_lt hi, hg, hw2, nextK]
theorem bk36 (l : List Decl) (hlen : l.length < 4611686018427387904) : SeqOk Proofs.Try.prog (.fn 36 [.cref [.sl false 2 (List.map Decl.cells l)]]) (back Decl.cells l l.length) := by
 rintro g m val ⟨vs, rfl, hr⟩
 have henter := callFunc_enter (P := Proofs.Try.prog) Proofs.Try.func36 (c := Proofs.Try.f36.body.get rfl) rfl (by decide)
 refine ⟨36, vs.toArray, rfl, henter, fun G T F C W hP hy hfits hrel hC => ?_⟩
 have hE := mkG_ok (P := Proofs.Try.prog) (n0 := 1) (e := gent39) tys_ok eqn_ok
 have hev := ev36 (E := mkG Proofs.Try.prog 1 tys eqn gent39) (N := l.length + 1) rfl rfl rfl l T hfits (Nat.lt_succ_self _) hlen
 have hg := guest_of hE mkG_seq rfl (chk := noDraw) noDraw_ok Proofs.Try.func36 (c := Proofs.Try.f36.body.get rfl) rfl (by decide) (by kernel_rfl) hev rfl
 obtain ⟨v, vs', rfl, h1, h2⟩ := hr
 have h2 : vs' = [] := h2
 subst h2
 have hargs : Reps (ghostG G F C W) [.yfn Proofs.Try.prog, .cref [.sl false 2 (List.map Decl.cells l)]] 1 [.func (.yield G.l) #[] #[], v] :=
   ⟨_, _, rfl, ⟨Nat.one_pos, hP, rfl⟩, v, [], rfl, Rep.data (g := g) (g' := ghostG G F C W) hC (.cref [.sl false 2 (List.map Decl.cells l)]) 1 v h1, rfl⟩
 refine ((hg G F C W _ hP hy hrel hargs).calls (henter _ _)).mono ?_
 rintro e W' ⟨u, rfl, u', hu, F', C', _, h3, _⟩
 exact ⟨u, rfl, F', C', h3⟩
def H14 : Nat → Hint := fun _ => ⟨[], [], []⟩
theorem ev14 {E : Env} (hty : E.ty = tys) (hal : E.ali = noAli) (_h0 : E.n0 = 0) (l : List Decl) : aPure E Proofs.Try.f14 H14 0 [.sl false 2 (List.map Decl.cells l)] = some (.fn 36 [.cref [.sl false 2 (List.map Decl.cells l)]]) := by
 rw [r_pure]
 simp only [push_cast, hty, hal, _h0, Proofs.Try.f14, seval]
theorem c14 (l : List Decl) : Pure Proofs.Try.prog 14 [.sl false 2 (List.map Decl.cells l)] (.fn 36 [.cref [.sl false 2 (List.map Decl.cells l)]]) :=
 pure_of (ty := tys) (eqt := eqn) (l := []) (s := []) tys_ok eqn_ok follows Proofs.Try.func14 (c := Proofs.Try.f14.body.get rfl) rfl (by decide) (by kernel_rfl) (H := H14) (N := 0) (ev14 rfl rfl rfl l) (by simp only [push_cast])
end
def a14 (x : List Decl) : List AV := [.sl false 2 (List.map Decl.cells x)]
theorem i14 (x y : List Decl) (h : nzs (a14 x) = nzs (a14 y)) : x = y := (rsO (rL 2 Decl.cells Decl.cells_inj)).inj x y h
theorem w14 (x : List Decl) : wks (a14 x) = true := (rsO (rL 2 Decl.cells Decl.cells_inj)).wk x
noncomputable def t14 : List AV → Option AV := TL a14 fun l => some (.fn 36 [.cref [.sl false 2 (List.map Decl.cells l)]])
theorem k14 : TOk Proofs.Try.prog 14 t14 := TL_ok w14 fun n v h => by injection h with h; subst h; exact c14 n
@[push_cast] theorem t14_1 (l : List Decl) : t14 [.sl false 2 (List.map Decl.cells l)] = some (.fn 36 [.cref [.sl false 2 (List.map Decl.cells l)]]) := TL_hit i14 l rfl
def e36 (p : Int × Decl) : List AV := [.int .i64 p.1, .agg (Decl.cells p.2)]
@[push_cast] theorem e36_eq (p : Int × Decl) : e36 p = [.int .i64 p.1, .agg (Decl.cells p.2)] := rfl
def c36 (x : List Decl) : List AV := [.cref [.sl false 2 (List.map Decl.cells x)]]
theorem i36 (x y : List Decl) (h : nzs (c36 x) = nzs (c36 y)) : x = y := by
 simp only [nzs, c36, List.map_cons, List.map_nil, nzV_cref, nzL_sl, List.cons.injEq, AV.cref.injEq, AV.sl.injEq, true_and, and_true, map_inj_iff Decl.cells_inj] at h
 first | exact h | exact h.1
theorem w36 (x : List Decl) : wks (c36 x) = true := by
 simp only [wks, c36, wkV, wkL, List.all_cons, List.all_nil, Bool.and_self, Bool.and_true, Bool.not_false]
noncomputable def sq36 : List AV → Option (List (List AV)) := SQ c36 fun l => bindO (backO l) fun q => some (List.map e36 q)
@[push_cast] theorem sq36_1 (l : List Decl) : sq36 [.cref [.sl false 2 (List.map Decl.cells l)]] = bindO (backO l) fun q => some (List.map e36 q) := SQ_hit i36 l rfl
noncomputable def se36 : SE Proofs.Try.prog := ⟨36, sq36, SQ_ok w36 fun l xs h => by
 obtain ⟨q, hq, h1⟩ := bindO_eq h
 obtain ⟨hn, hl⟩ := iteO_none hq
 injection hl with hl
 subst hl
 injection h1 with h1
 subst h1
 have hp : List.map e36 (backTo l l.length) = back Decl.cells l l.length := back_to Decl.cells l l.length (Nat.le_refl _)
 rw [hp]
 exact bk36 l (of_decide_eq_true hn)⟩
section
def H37 : Nat → Hint
 | 0 => ⟨[0, 1, 3], [], []⟩
 | _ => ⟨[], [0, 1, 3], []⟩
attribute [local push_cast] ty3 ty4 ty26 ty47 ty48 ty52 ty66 H37
theorem ev37 {E : Env} {N : Nat} (hty : E.ty = tys) (hal : E.ali = noAli) (h1 : E.n0 = 1) (l : List Sig) (T : BTodo) (hT : Fits (back Sig.cells l l.length) T) (hN : l.length < N) (hlen : l.length < 4611686018427387904) :
   aFn E Proofs.Try.f37 H37 N [.yfn E.P, .cref [.sl false 3 (List.map Sig.cells l)]] [.guest T] = some ([], [.guest []]) := by
 show run (aFn E Proofs.Try.f37 H37 N [.yfn E.P, .cref [.sl false 3 (List.map Sig.cells l)]] [.guest T]) = _
 unfold aFn
 simp only [push_cast, hty, hal, h1, Proofs.Try.f37, seval]
 simp only [bindO_assoc]
 have hw : IntKind.i64.wrap ((l.length : Int) - 1) = (l.length : Int) - 1 := wrap_id (by omega)
 rw [hw]
 refine loop_w (β := List AV × Store) (fun s : Nat × BTodo => [.yfn E.P, .cref [.sl false 3 (List.map Sig.cells l)], .top, .int .i64 ((s.1 : Int) - 1), .top, .top, .top, .top, .top, .top, .top, .top, .top, .top, .top, .top, .top, .top, .top]) (fun s => [.guest s.2]) (fun s => s.1 ≤ l.length ∧ Fits (back Sig.cells l s.1) s.2) (fun s => s.1) bnext (fun _ => ([], [.guest []])) ?_ N (l.length, T) hN ⟨Nat.le_refl _, hT⟩
 rintro ⟨j, T⟩ ⟨hj, hI⟩
 simp only at hj hI
 cases j with
 | zero =>
   have hI : T = [] := hI
   subst hI
   refine ⟨?_, fun s' h => (by cases h), fun y h => (by injection h)⟩
   have e0 : decide (((0 : Nat) : Int) - 1 ≥ 0) = false := by decide
   simp only [roundK, bnext]
   simp only [push_cast, hty, hal, h1, seval, e0, nextK]
 | succ j =>
   have hi : j < l.length := by omega
   have e0 : decide (((j + 1 : Nat) : Int) - 1 ≥ 0) = true := decide_eq_true (by omega)
   have ej : ((j + 1 : Nat) : Int) - 1 = (j : Int) := by omega
   have hw2 : IntKind.i64.wrap ((j : Int) - 1) = (j : Int) - 1 := wrap_id (by omega)
   have d0 : decide ((j : Int) ≥ 0) = true := decide_eq_true (by omega)
   obtain ⟨x, hx⟩ : ∃ x, l[j]? = some x := ⟨l[j], List.getElem?_eq_getElem hi⟩
   have hg : (List.map Sig.cells l).getD j [] = Sig.cells x := by rw [List.getD_eq_getElem?_getD, List.getElem?_map, hx]; rfl
   simp only [back, hg] at hI
   rcases hI with ⟨T', rfl, hI⟩ | rfl
   · refine ⟨?_, fun s' h => (by injection h with h; subst h; exact ⟨⟨by omega, hI⟩, Nat.lt_succ_self _, rfl⟩), fun y h => (by cases h)⟩
     simp only [roundK, ej, bnext]
     simp only [push_cast, hty, hal, h1, seval, d0, List.length_map, inB_lt hi, hg, hw2, nextK]
   · refine ⟨?_, fun s' h => (by cases h), fun y h => (by injection h)⟩
     simp only [roundK, ej, bnext]
     simp only [push_cast, hty, hal, h1, seval, d0, List.length_map, inB_lt hi, hg, hw2, nextK]
theorem bk37 (l : List Sig) (hlen : l.length < 4611686018427387904) : SeqOk Proofs.Try.prog (.fn 37 [.cref [.sl false 3 (List.map Sig.cells l)]]) (back Sig.cells l l.length) := by
 rintro g m val ⟨vs, rfl, hr⟩
 have henter := callFunc_enter (P := Proofs.Try.prog) Proofs.Try.func37 (c := Proofs.Try.f37.body.get rfl) rfl (by decide)
 refine ⟨37, vs.toArray, rfl, henter, fun G T F C W hP hy hfits hrel hC => ?_⟩
 have hE := mkG_ok (P := Proofs.Try.prog) (n0 := 1) (e := gent39) tys_ok eqn_ok
 have hev := ev37 (E := mkG Proofs.Try.prog 1 tys eqn gent39) (N := l.length + 1) rfl rfl rfl l T hfits (Nat.lt_succ_self _) hlen
 have hg := guest_of hE mkG_seq rfl (chk := noDraw) noDraw_ok Proofs.Try.func37 (c := Proofs.Try.f37.body.get rfl) rfl (by decide) (by kernel_rfl) hev rfl
 obtain ⟨v, vs', rfl, h1, h2⟩ := hr
 have h2 : vs' = [] := h2
 subst h2
 have hargs : Reps (ghostG G F C W) [.yfn Proofs.Try.prog, .cref [.sl false 3 (List.map Sig.cells l)]] 1 [.func (.yield G.l) #[] #[], v] :=
   ⟨_, _, rfl, ⟨Nat.one_pos, hP, rfl⟩, v, [], rfl, Rep.data (g := g) (g' := ghostG G F C W) hC (.cref [.sl false 3 (List.map Sig.cells l)]) 1 v h1, rfl⟩
 refine ((hg G F C W _ hP hy hrel hargs).calls (henter _ _)).mono ?_
 rintro e W' ⟨u, rfl, u', hu, F', C', _, h3, _⟩
 exact ⟨u, rfl, F', C', h3⟩
def H15 : Nat → Hint := fun _ => ⟨[], [], []⟩
theorem ev15 {E : Env} (hty : E.ty = tys) (hal : E.ali = noAli) (_h0 : E.n0 = 0) (l : List Sig) : aPure E Proofs.Try.f15 H15 0 [.sl false 3 (List.map Sig.cells l)] = some (.fn 37 [.cref [.sl false 3 (List.map Sig.cells l)]]) := by
 rw [r_pure]
 simp only [push_cast, hty, hal, _h0, Proofs.Try.f15, seval]
theorem c15 (l : List Sig) : Pure Proofs.Try.prog 15 [.sl false 3 (List.map Sig.cells l)] (.fn 37 [.cref [.sl false 3 (List.map Sig.cells l)]]) :=
 pure_of (ty := tys) (eqt := eqn) (l := []) (s := []) tys_ok eqn_ok follows Proofs.Try.func15 (c := Proofs.Try.f15.body.get rfl) rfl (by decide) (by kernel_rfl) (H := H15) (N := 0) (ev15 rfl rfl rfl l) (by simp only [push_cast])
end
def a15 (x : List Sig) : List AV := [.sl false 3 (List.map Sig.cells x)]
theorem i15 (x y : List Sig) (h : nzs (a15 x) = nzs (a15 y)) : x = y := (rsO (rL 3 Sig.cells Sig.cells_inj)).inj x y h
theorem w15 (x : List Sig) : wks (a15 x) = true := (rsO (rL 3 Sig.cells Sig.cells_inj)).wk x
noncomputable def t15 : List AV → Option AV := TL a15 fun l => some (.fn 37 [.cref [.sl false 3 (List.map Sig.cells l)]])
theorem k15 : TOk Proofs.Try.prog 15 t15 := TL_ok w15 fun n v h => by injection h with h; subst h; exact c15 n
@[push_cast] theorem t15_1 (l : List Sig) : t15 [.sl false 3 (List.map Sig.cells l)] = some (.fn 37 [.cref [.sl false 3 (List.map Sig.cells l)]]) := TL_hit i15 l rfl
def e37 (p : Int × Sig) : List AV := [.int .i64 p.1, .agg (Sig.cells p.2)]
@[push_cast] theorem e37_eq (p : Int × Sig) : e37 p = [.int .i64 p.1, .agg (Sig.cells p.2)] := rfl
def c37 (x : List Sig) : List AV := [.cref [.sl false 3 (List.map Sig.cells x)]]
theorem i37 (x y : List Sig) (h : nzs (c37 x) = nzs (c37 y)) : x = y := by
 simp only [nzs, c37, List.map_cons, List.map_nil, nzV_cref, nzL_sl, List.cons.injEq, AV.cref.injEq, AV.sl.injEq, true_and, and_true, map_inj_iff Sig.cells_inj] at h
 first | exact h | exact h.1
theorem w37 (x : List Sig) : wks (c37 x) = true := by
 simp only [wks, c37, wkV, wkL, List.all_cons, List.all_nil, Bool.and_self, Bool.and_true, Bool.not_false]
noncomputable def sq37 : List AV → Option (List (List AV)) := SQ c37 fun l => bindO (backO l) fun q => some (List.map e37 q)
@[push_cast] theorem sq37_1 (l : List Sig) : sq37 [.cref [.sl false 3 (List.map Sig.cells l)]] = bindO (backO l) fun q => some (List.map e37 q) := SQ_hit i37 l rfl
noncomputable def se37 : SE Proofs.Try.prog := ⟨37, sq37, SQ_ok w37 fun l xs h => by
 obtain ⟨q, hq, h1⟩ := bindO_eq h
 obtain ⟨hn, hl⟩ := iteO_none hq
 injection hl with hl
 subst hl
 injection h1 with h1
 subst h1
 have hp : List.map e37 (backTo l l.length) = back Sig.cells l l.length := back_to Sig.cells l l.length (Nat.le_refl _)
 rw [hp]
 exact bk37 l (of_decide_eq_true hn)⟩
end Go.Abs.Try
