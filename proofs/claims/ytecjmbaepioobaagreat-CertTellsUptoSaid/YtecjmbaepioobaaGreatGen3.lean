import Derived.Test.YtecjmbaepioobaaGreatGen2
import Derived.Test.YtecjmbaepioobaaGreatAbs31toAbs33
set_option linter.unusedSimpArgs false
set_option linter.unusedVariables false
namespace Go.Abs
open Go.RowKit
def nzO : AObj → AObj
 | .var cs => .var (cs.map nzL)
 | .row sz ver es => .row sz ver es
 | .frz sz ver es => .frz sz ver es
 | .app sz ver es => .app sz ver es
 | .map kk m => .map kk m
 | .dead => .dead
 | .guest T => .guest T
def nzS (σ : Store) : Store := σ.map nzO
def wkO : AObj → Bool
 | .var cs => cs.all wkL
 | _ => true
def wkS (σ : Store) : Bool := σ.all wkO
inductive ShO where
 | var (l : List (Option Nat))
 | any
variable {P : Program}
structure Rc (α : Type) where
 e : α → List AV
 inj : ∀ x y, (e x).map nzL = (e y).map nzL → x = y
 wk : ∀ x, (e x).all wkL = true
structure Ra (α : Type) where
 e : α → List AV
 inj : ∀ x y, nzs (e x) = nzs (e y) → x = y
 wk : ∀ x, wks (e x) = true
structure Ro (α : Type) where
 e : α → AObj
 inj : ∀ x y, nzO (e x) = nzO (e y) → x = y
 wk : ∀ x, wkO (e x) = true
structure Rt (α : Type) where
 e : α → Store
 inj : ∀ x y, nzS (e x) = nzS (e y) → x = y
 wk : ∀ x, wkS (e x) = true
section
variable {α β γ : Type}
def rcN : Rc Unit := ⟨fun _ => [], fun _ _ _ => rfl, fun _ => rfl⟩
def rcK (c : AV) (hc : wkL c = true) (s : Rc β) : Rc β := ⟨fun x => c :: s.e x, fun _ _ h => s.inj _ _ (by injection h), fun x => by simp [hc, s.wk]⟩
def rcI (k : IntKind) (s : Rc β) : Rc (Int × β) := ⟨fun x => .int k x.1 :: s.e x.2, fun _ _ h => by injection h with h1 h2; injection h1 with _ h1; exact Prod.ext h1 (s.inj _ _ h2), fun x => by simp [wkL, s.wk]⟩
def rcB (s : Rc β) : Rc (Bool × β) := ⟨fun x => .bool x.1 :: s.e x.2, fun _ _ h => by injection h with h1 h2; injection h1 with h1; exact Prod.ext h1 (s.inj _ _ h2), fun x => by simp [wkL, s.wk]⟩
def rcS (s : Rc β) : Rc (ByteArray × β) := ⟨fun x => .str x.1 :: s.e x.2, fun _ _ h => by injection h with h1 h2; injection h1 with h1; exact Prod.ext h1 (s.inj _ _ h2), fun x => by simp [wkL, s.wk]⟩
def rcL (sz : Nat) (c : α → List AV) (hc : ∀ a b, c a = c b → a = b) (s : Rc β) : Rc (List α × β) :=
 ⟨fun x => .sl false sz (List.map c x.1) :: s.e x.2, fun _ _ h => by injection h with h1 h2; exact Prod.ext ((map_inj_iff hc _ _).1 (nzL_sl (f := false) (f' := false) (sz := sz) (sz' := sz).1 h1).1) (s.inj _ _ h2), fun x => by simp [wkL, s.wk]⟩
def raN : Ra Unit := ⟨fun _ => [], fun _ _ _ => rfl, fun _ => rfl⟩
def raK (c : AV) (hc : wkV c = true) (s : Ra β) : Ra β := ⟨fun x => c :: s.e x, fun _ _ h => s.inj _ _ (by injection h), fun x => by have := s.wk x; simp_all [wks]⟩
def raC (r : Rp α) (s : Ra β) : Ra (α × β) := ⟨fun x => r.e x.1 :: s.e x.2, fun _ _ h => by injection h with h1 h2; exact Prod.ext (r.inj _ _ h1) (s.inj _ _ h2), fun x => by have := s.wk x.2; simp_all [wks, r.wk]⟩
def raG (r : Rc α) (s : Ra β) : Ra (α × β) := ⟨fun x => .agg (r.e x.1) :: s.e x.2, fun _ _ h => by injection h with h1 h2; injection h1 with h1; exact Prod.ext (r.inj _ _ h1) (s.inj _ _ h2), fun x => by have := s.wk x.2; simp_all [wks, wkV, r.wk]⟩
def oVar (r : Rc α) : Ro α := ⟨fun x => .var (r.e x), fun _ _ h => by injection h with h; exact r.inj _ _ h, fun x => r.wk x⟩
def oRow (sz : Nat) (c : α → List AV) (hc : ∀ a b, c a = c b → a = b) : Ro (List α) := ⟨fun x => .row sz 0 (List.map c x), fun _ _ h => by injection h with _ _ h; exact (map_inj_iff hc _ _).1 h, fun _ => rfl⟩
theorem map_evinj {ev : α → AV} (he : ∀ a b, ev a = ev b → a = b) {x y : Option α} (h : x.map ev = y.map ev) : x = y := by
 cases x <;> cases y <;> simp at h
 · rfl
 · exact congrArg some (he _ _ h)
def oApp (sz : Nat) (c : α → List AV) (hc : ∀ a b, c a = c b → a = b) : Ro (List α) := ⟨fun x => .app sz 1 (List.map c x), fun _ _ h => by injection h with _ _ h; exact (map_inj_iff hc _ _).1 h, fun _ => rfl⟩
def oMapS (ev : α → AV) (he : ∀ a b, ev a = ev b → a = b) : Ro (ByteArray → Option α) := ⟨fun m => .map .string (mS ev m), fun x y h => by
 injection h with _ h
 funext b
 exact map_evinj he (congrFun h (.s b)), fun _ => rfl⟩
def oMapI (k : IntKind) (ev : α → AV) (he : ∀ a b, ev a = ev b → a = b) : Ro (Int → Option α) := ⟨fun m => .map (.int k) (mI ev m), fun x y h => by
 injection h with _ h
 funext b
 exact map_evinj he (congrFun h (.i b)), fun _ => rfl⟩
def rtN : Rt Unit := ⟨fun _ => [], fun _ _ _ => rfl, fun _ => rfl⟩
def rtC (r : Ro α) (s : Rt β) : Rt (α × β) := ⟨fun x => r.e x.1 :: s.e x.2, fun _ _ h => by injection h with h1 h2; exact Prod.ext (r.inj _ _ h1) (s.inj _ _ h2), fun x => by have := s.wk x.2; simp_all [wkS, r.wk]⟩
@[push_cast] theorem rcN_e (x : Unit) : rcN.e x = [] := rfl
@[push_cast] theorem rcK_e (c : AV) (hc : wkL c = true) (s : Rc β) (x : β) : (rcK c hc s).e x = c :: s.e x := rfl
@[push_cast] theorem rcI_e (k : IntKind) (s : Rc β) (x : Int × β) : (rcI k s).e x = .int k x.1 :: s.e x.2 := rfl
@[push_cast] theorem rcB_e (s : Rc β) (x : Bool × β) : (rcB s).e x = .bool x.1 :: s.e x.2 := rfl
@[push_cast] theorem rcS_e (s : Rc β) (x : ByteArray × β) : (rcS s).e x = .str x.1 :: s.e x.2 := rfl
@[push_cast] theorem rcL_e (sz : Nat) (c : α → List AV) (hc : ∀ a b, c a = c b → a = b) (s : Rc β) (x : List α × β) : (rcL sz c hc s).e x = .sl false sz (List.map c x.1) :: s.e x.2 := rfl
@[push_cast] theorem raN_e (x : Unit) : raN.e x = [] := rfl
@[push_cast] theorem raK_e (c : AV) (hc : wkV c = true) (s : Ra β) (x : β) : (raK c hc s).e x = c :: s.e x := rfl
@[push_cast] theorem raC_e (r : Rp α) (s : Ra β) (x : α × β) : (raC r s).e x = r.e x.1 :: s.e x.2 := rfl
@[push_cast] theorem raG_e (r : Rc α) (s : Ra β) (x : α × β) : (raG r s).e x = .agg (r.e x.1) :: s.e x.2 := rfl
@[push_cast] theorem oVar_e (r : Rc α) (x : α) : (oVar r).e x = .var (r.e x) := rfl
@[push_cast] theorem oRow_e (sz : Nat) (c : α → List AV) (hc : ∀ a b, c a = c b → a = b) (x : List α) : (oRow sz c hc).e x = .row sz 0 (List.map c x) := rfl
@[push_cast] theorem oApp_e (sz : Nat) (c : α → List AV) (hc : ∀ a b, c a = c b → a = b) (x : List α) : (oApp sz c hc).e x = .app sz 1 (List.map c x) := rfl
@[push_cast] theorem oMapS_e (ev : α → AV) (he : ∀ a b, ev a = ev b → a = b) (m : ByteArray → Option α) : (oMapS ev he).e m = .map .string (mS ev m) := rfl
@[push_cast] theorem oMapI_e (k : IntKind) (ev : α → AV) (he : ∀ a b, ev a = ev b → a = b) (m : Int → Option α) : (oMapI k ev he).e m = .map (.int k) (mI ev m) := rfl
@[push_cast] theorem rtN_e (x : Unit) : rtN.e x = [] := rfl
@[push_cast] theorem rtC_e (r : Ro α) (s : Rt β) (x : α × β) : (rtC r s).e x = r.e x.1 :: s.e x.2 := rfl
end
end Go.Abs
