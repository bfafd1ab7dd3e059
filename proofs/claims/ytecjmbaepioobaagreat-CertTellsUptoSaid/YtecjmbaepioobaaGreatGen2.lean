import Derived.Test.YtecjmbaepioobaaGreatGen1
set_option linter.unusedSimpArgs false
set_option linter.unusedVariables false
namespace Go.Abs
open Go.RowKit
structure Rp (α : Type) where
 e : α → AV
 inj : ∀ x y, nzV (e x) = nzV (e y) → x = y
 wk : ∀ x, wkV (e x) = true
 da : ∀ x, (e x).data = true
structure Rs (α : Type) where
 e : α → List AV
 inj : ∀ x y, nzs (e x) = nzs (e y) → x = y
 wk : ∀ x, wks (e x) = true
 da : ∀ x, allData (e x) = true
def rI (k : IntKind) : Rp Int := ⟨fun x => .int k x, fun _ _ h => by injection h, fun _ => rfl, fun _ => rfl⟩
def rB : Rp Bool := ⟨fun x => .bool x, fun _ _ h => by injection h, fun _ => rfl, fun _ => rfl⟩
def rS : Rp ByteArray := ⟨fun x => .str x, fun _ _ h => by injection h, fun _ => rfl, fun _ => rfl⟩
def rL {α : Type} (sz : Nat) (c : α → List AV) (hc : ∀ a b, c a = c b → a = b) : Rp (List α) :=
 ⟨fun x => .sl false sz (List.map c x), fun _ _ h => (map_inj_iff hc _ _).1 (nzL_sl (f := false) (f' := false) (sz := sz) (sz' := sz).1 h).1, fun _ => rfl, fun _ => rfl⟩
def rA {α : Type} (c : α → List AV) (h1 : ∀ a b, (c a).map nzL = (c b).map nzL ↔ a = b) (h2 : ∀ a, (c a).all wkL = true) (h3 : ∀ a, allDataL (c a) = true) : Rp α :=
 ⟨fun x => .agg (c x), fun _ _ h => by injection h with h; exact (h1 _ _).1 h, h2, h3⟩
def rsN : Rs Unit := ⟨fun _ => [], fun _ _ _ => rfl, fun _ => rfl, fun _ => rfl⟩
def rsO {α : Type} (r : Rp α) : Rs α := ⟨fun x => [r.e x], fun _ _ h => by injection h with h; exact r.inj _ _ h, fun x => by simp [wks, r.wk], fun x => by simp [allData, r.da]⟩
def rsC {α β : Type} (r : Rp α) (s : Rs β) : Rs (α × β) :=
 ⟨fun x => r.e x.1 :: s.e x.2, fun _ _ h => by injection h with h1 h2; exact Prod.ext (r.inj _ _ h1) (s.inj _ _ h2), fun x => by have := s.wk x.2; simp_all [wks, r.wk], fun x => by have := s.da x.2; simp_all [allData, r.da]⟩
section
variable {α β : Type}
@[push_cast] theorem rI_e (k : IntKind) (x : Int) : (rI k).e x = .int k x := rfl
@[push_cast] theorem rB_e (x : Bool) : rB.e x = .bool x := rfl
@[push_cast] theorem rS_e (x : ByteArray) : rS.e x = .str x := rfl
@[push_cast] theorem rL_e (sz : Nat) (c : α → List AV) (hc : ∀ a b, c a = c b → a = b) (x : List α) : (rL sz c hc).e x = .sl false sz (List.map c x) := rfl
@[push_cast] theorem rA_e (c : α → List AV) (h1 : ∀ a b, (c a).map nzL = (c b).map nzL ↔ a = b) (h2 : ∀ a, (c a).all wkL = true) (h3 : ∀ a, allDataL (c a) = true) (x : α) : (rA c h1 h2 h3).e x = .agg (c x) := rfl
@[push_cast] theorem rsN_e (x : Unit) : rsN.e x = [] := rfl
@[push_cast] theorem rsO_e (r : Rp α) (x : α) : (rsO r).e x = [r.e x] := rfl
@[push_cast] theorem rsC_e (r : Rp α) (s : Rs β) (x : α × β) : (rsC r s).e x = r.e x.1 :: s.e x.2 := rfl
end
abbrev NB (N : Nat) : Prop := N ≤ 4611686018427387904
abbrev Tb (E : Env) (k : Nat) (f : List AV → Store → Option (AV × Store)) : Prop := ∀ vs σ, E.tab k vs σ = f vs σ
abbrev TbI (E : Nat → Env) (k : Nat) (f : List AV → Store → Option (AV × Store)) : Prop := ∀ n vs σ, (E n).tab k vs σ = f vs σ
section
variable {α β γ δ : Type}
theorem ie {b : Bool} {A B : Option α} {K : α → Option γ} {X Y : Option β} {e : β → Option γ} (h1 : b = true → bindO (run A) K = bindO X e) (h2 : b = false → bindO (run B) K = bindO Y e) : bindO (iteO b A B) K = bindO (iteO b X Y) e := ite_ext h1 h2
theorem ien {b : Bool} {A B : Option α} {K : α → Option γ} {X Y : Option β} {e : β → Option γ} (h1 : b = true → bindO (run B) K = bindO X e) (h2 : b = false → bindO (run A) K = bindO Y e) : bindO (iteO (!b) A B) K = bindO (iteO b X Y) e := iten_ext h1 h2
theorem be {x : Option α} {k k' : α → Option γ} (h : ∀ v, run (k v) = k' v) : bindO x k = bindO x k' := bindO_ext h
theorem oe {x : Option α} {ev : α → AV} {ok : Bool} {ei : TInfo} {K : AV → Option γ} {A : α → Option β} {B : Option β} {e : β → Option γ} (h1 : ∀ v, run (K (lookedUp ok true (ev v))) = bindO (A v) e) (h2 : bindO (run (foundOr ok ei none)) K = bindO B e) :
   bindO (foundOr ok ei (x.map ev)) K = bindO (optO x A B) e := opt_ext (fun v _ => h1 v) fun _ => h2
theorem ier {b : Bool} {A B : Option α} {K : α → Option γ} {X Y : Option β} {e : β → Option γ} (h1 : b = true → bindO (run A) K = bindO X e) (h2 : b = false → bindO (run B) K = bindO Y e) : bindO (run (iteO b A B)) K = bindO (iteO b X Y) e := ite_ext h1 h2
theorem ienr {b : Bool} {A B : Option α} {K : α → Option γ} {X Y : Option β} {e : β → Option γ} (h1 : b = true → bindO (run B) K = bindO X e) (h2 : b = false → bindO (run A) K = bindO Y e) : bindO (run (iteO (!b) A B)) K = bindO (iteO b X Y) e := iten_ext h1 h2
theorem ber {x : Option α} {k k' : α → Option γ} (h : ∀ v, run (k v) = k' v) : bindO (run x) k = bindO x k' := bindO_ext h
theorem oer {x : Option α} {ev : α → AV} {ok : Bool} {ei : TInfo} {K : AV → Option γ} {A : α → Option β} {B : Option β} {e : β → Option γ} (h1 : ∀ v, run (K (lookedUp ok true (ev v))) = bindO (A v) e) (h2 : bindO (run (foundOr ok ei none)) K = bindO B e) :
   bindO (run (foundOr ok ei (x.map ev))) K = bindO (optO x A B) e := opt_ext (fun v _ => h1 v) fun _ => h2
theorem al {c : α → List AV} {l : List α} {i : Int} {j : Nat} {K : AV → Option γ} {K' : α → Option γ} (hj : i.toNat = j)
   (h : ∀ x, inB i l.length = true → (List.map c l).getD j [] = c x → (List.map c l)[j]? = some (c x) → run (K (.cref (c x))) = K' x) :
   bindO (iteO (inB i l.length) (some (.cref ((List.map c l).getD j []))) none) K = bindO (atO l i) K' := by
 subst hj; exact at_sl fun x h1 _ h3 h4 => h x h1 h3 h4
theorem alr {c : α → List AV} {l : List α} {i : Int} {j : Nat} {K : AV → Option γ} {K' : α → Option γ} (hj : i.toNat = j)
   (h : ∀ x, inB i l.length = true → (List.map c l).getD j [] = c x → (List.map c l)[j]? = some (c x) → run (K (.cref (c x))) = K' x) :
   bindO (run (iteO (inB i l.length) (some (.cref ((List.map c l).getD j []))) none)) K = bindO (atO l i) K' := al hj h
theorem ar {c : α → List AV} {l : List α} {i : Int} {v : AV} {K : AV → Option γ} {K' : α → Option γ}
   (h : ∀ x, inB i l.length = true → (List.map c l).getD i.toNat [] = c x → (List.map c l)[i.toNat]? = some (c x) → run (K v) = K' x) :
   bindO (iteO (inB i l.length) (some v) none) K = bindO (atO l i) K' := at_rs fun x h1 _ h3 h4 => h x h1 h3 h4
theorem arr {c : α → List AV} {l : List α} {i : Int} {v : AV} {K : AV → Option γ} {K' : α → Option γ}
   (h : ∀ x, inB i l.length = true → (List.map c l).getD i.toNat [] = c x → (List.map c l)[i.toNat]? = some (c x) → run (K v) = K' x) :
   bindO (run (iteO (inB i l.length) (some v) none)) K = bindO (atO l i) K' := ar h
theorem fl {S : Type} {n0 n : Nat} {ks : List Nat} {body : Fr → Store → Option ARes} {k : ARes → Option γ} {e : β → Option γ} (c : α → List AV) (l : List α) (F : Nat → S → Fr) (G : Nat → S → Store) {step : S → Nat → α → Option (Sum S β)} {fin : S → Option β} {N : Nat} (hB : NB N) (s : S)
   (hs : ∀ s (i : Nat) x, IntKind.i64.wrap ((i : Int) + 1) = (i : Int) + 1 → decide ((i : Int) < (l.length : Int)) = true → inB (i : Int) l.length = true → (List.map c l).getD i [] = c x → (List.map c l)[i]? = some (c x) → bindO (run (body (F i s) (G i s))) (stepK n0 n ks k) = bindO (step s i x) (toR (fun s => (F (i + 1) s, G (i + 1) s)) e))
   (he : ∀ s, decide ((l.length : Int) < (l.length : Int)) = false → bindO (run (body (F l.length s) (G l.length s))) (stepK n0 n ks k) = bindO (fin s) (fun y => bindO (e y) fun z => some (.inr z))) :
   bindO (run (aLoop n0 body ks n N (F 0 s) (G 0 s))) k = bindO (foldN step fin N l 0 s) e :=
 fold_loop l F G s (fun s i x hx hl hn => hs s i x (rng_wrap hn hB) (lt_true hl) (inB_lt hl) (rng_get hx) (rng_getq hx)) fun s => he s lt_self
theorem fs {S : Type} {n0 n : Nat} {ks : List Nat} {body : Fr → Store → Option ARes} {k : ARes → Option γ} {e : β → Option γ} (m : Nat) (F : Nat → S → Fr) (G : Nat → S → Store) {step : S → Nat → Nat → Option (Sum S β)} {fin : S → Option β} {N : Nat} (hB : NB N) (s : S)
   (hs : ∀ s (i : Nat) (x : Nat), IntKind.i64.wrap ((i : Int) + 1) = (i : Int) + 1 → decide ((i : Int) < (m : Int)) = true → inB (i : Int) m = true → bindO (run (body (F i s) (G i s))) (stepK n0 n ks k) = bindO (step s i x) (toR (fun s => (F (i + 1) s, G (i + 1) s)) e))
   (he : ∀ s, decide ((m : Int) < (m : Int)) = false → bindO (run (body (F m s) (G m s))) (stepK n0 n ks k) = bindO (fin s) (fun y => bindO (e y) fun z => some (.inr z))) :
   bindO (run (aLoop n0 body ks n N (F 0 s) (G 0 s))) k = bindO (foldN step fin N (List.range m) 0 s) e :=
 fold_loop (List.range m) F G s (fun s i x _ hl hn => by rw [List.length_range] at hl; exact hs s i x (rng_wrap hn hB) (lt_true hl) (inB_lt hl)) fun s => by rw [List.length_range]; exact he s lt_self
theorem fc {S : Type} {n0 n : Nat} {ks : List Nat} {body : Fr → Store → Option ARes} {k : ARes → Option γ} {e : β → Option γ} (m : Int) (F : Nat → S → Fr) (G : Nat → S → Store) {step : S → Nat → Nat → Option (Sum S β)} {fin : S → Option β} {N : Nat} (hB : NB N) (s : S)
   (hs : ∀ s (i : Nat) (x : Nat), IntKind.i64.wrap ((i : Int) + 1) = (i : Int) + 1 → decide ((i : Int) < m) = true → bindO (run (body (F i s) (G i s))) (stepK n0 n ks k) = bindO (step s i x) (toR (fun s => (F (i + 1) s, G (i + 1) s)) e))
   (he : ∀ s, decide ((m.toNat : Int) < m) = false → bindO (run (body (F m.toNat s) (G m.toNat s))) (stepK n0 n ks k) = bindO (fin s) (fun y => bindO (e y) fun z => some (.inr z))) :
   bindO (run (aLoop n0 body ks n N (F 0 s) (G 0 s))) k = bindO (foldN step fin N (List.range m.toNat) 0 s) e :=
 fold_loop (List.range m.toNat) F G s (fun s i x _ hl hn => by rw [List.length_range] at hl; exact hs s i x (rng_wrap hn hB) (cnt_lt hl)) fun s => by rw [List.length_range]; exact he s cnt_end
theorem wl {S : Type} {n0 n : Nat} {ks : List Nat} {body : Fr → Store → Option ARes} {k : ARes → Option γ} {e : β → Option γ} (F : S → Fr) (G : S → Store) {step : S → Option (Sum S β)} {N : Nat} (s : S)
   (hs : ∀ s, bindO (run (body (F s) (G s))) (stepK n0 n ks k) = bindO (step s) (toR (fun s => (F s, G s)) e)) :
   bindO (run (aLoop n0 body ks n N (F s) (G s))) k = bindO (whileN step N s) e := while_loop F G hs N s
theorem rl {S : Type} (emb : α → List AV) (G : S → Store) {rd : List AV → Store → Option (AExit × Store)} {k : AExit × Store → Option γ} {e : β → Option γ} {step : S → α → Option (Sum S β)} {fin : S → Option β} (l : List α) (s : S)
   (hs : ∀ s x, bindO (run (rd (emb x) (G s))) (rangeK k) = bindO (step s x) (toR G e))
   (he : ∀ s, run (k (.normal, G s)) = bindO (fin s) e) : bindO (run (aRange rd (l.map emb) (G s))) k = bindO (foldO step fin l s) e := range_loop emb G hs he l s
end
end Go.Abs
