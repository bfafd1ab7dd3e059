import Derived.Test.YtecjmbaepioobaaGreatGen0
set_option linter.unusedSimpArgs false
set_option linter.unusedVariables false
namespace Go.Abs
section
variable {E : Env} {H : Nat → Hint} {N c : Nat} {fr : Fr} {σ : Store}
@[push_cast] theorem plain_eq (T : List AV → Option AV) (ays : List AV) (σ : Store) : plain T ays σ = bindO (T ays) fun v => some (v, σ) := rfl
@[push_cast] theorem lent_eq (T : List AV → Option AV) (ays : List AV) (σ : Store) : lent T ays σ = bindO (run (freezes σ ays)) fun p => bindO (T p.1) fun v => iteO v.sc (some (v, σ)) none := rfl
@[push_cast] theorem given_eq (T : List AV → Option AV) (ays : List AV) (σ : Store) : given T ays σ = bindO (run (freezes σ ays)) fun p => bindO (T p.1) fun v => some (v, p.2) := rfl
@[push_cast] theorem inl_eq (E : Nat → Env) (fn : Func) (H : Nat → Hint) (N : Nat) (ays : List AV) (σ : Store) : inl E fn H N ays σ =
   bindO (run (bindO fn.body fun c => bindO (aev (E σ.length) H N 0 c (ays ++ List.replicate (fn.ntmps - ays.length) .top) σ) (ended (E σ.length) fn.results.toList))) fun q => some (packed q.1, q.2) := rfl
attribute [push_cast] AV.sc AV.scL List.all_cons List.all_nil List.length_map List.map_append List.length_range List.length_replicate List.length_set List.map_set beq_self_eq_true Bool.not_not List.isEmpty_nil List.isEmpty_cons
@[push_cast] theorem bindO_none {α β : Type} (f : α → Option β) : bindO none f = none := rfl
@[push_cast] theorem r_cw1 (s : Sh1) (v : AV) : run (cv (.one s) v) = run (cv1 s v) := rfl
@[push_cast] theorem r_cw2 (l : List Sh1) (cs : List AV) : run (cv (.tup l) (.tuple cs)) = bindO (run (cv1s l cs)) fun cs' => some (.tuple cs') := rfl
@[push_cast] theorem r_cw3 (v : AV) : run (cv1 (.leaf none) v) = some v := rfl
@[push_cast] theorem r_cw4 (f : Bool) (sz s : Nat) (es : List (List AV)) : run (cv1 (.leaf (some sz)) (.sl f s es)) = run (iteO (decide (s = sz) || es.isEmpty) (some (.sl false sz es)) none) := rfl
@[push_cast] theorem r_cw5 (l : List (Option Nat)) (cs : List AV) : run (cv1 (.agg l) (.agg cs)) = bindO (run (cvLs l cs)) fun cs' => some (.agg cs') := rfl
@[push_cast] theorem r_cw6 : run (cvLs [] []) = some [] := rfl
@[push_cast] theorem r_cw7 (os : List (Option Nat)) (c : AV) (cs : List AV) : run (cvLs (none :: os) (c :: cs)) = bindO (run (cvLs os cs)) fun cs' => some (c :: cs') := rfl
@[push_cast] theorem r_cw8 (sz s : Nat) (f : Bool) (es : List (List AV)) (os : List (Option Nat)) (cs : List AV) : run (cvLs (some sz :: os) (.sl f s es :: cs)) = bindO (run (iteO (decide (s = sz) || es.isEmpty) (some (.sl false sz es)) none)) fun c' => bindO (cvLs os cs) fun cs' => some (c' :: cs') := rfl
@[push_cast] theorem r_cw9 : run (cv1s [] []) = some [] := rfl
@[push_cast] theorem r_cw10 (o : Sh1) (os : List Sh1) (c : AV) (cs : List AV) : run (cv1s (o :: os) (c :: cs)) = bindO (run (cv1 o c)) fun c' => bindO (cv1s os cs) fun cs' => some (c' :: cs') := rfl
end
section
variable {α β γ δ : Type}
theorem iten_ext {b : Bool} {A B : Option α} {K : α → Option γ} {X Y : Option β} {e : β → Option γ} (h1 : b = true → bindO (run B) K = bindO X e) (h2 : b = false → bindO (run A) K = bindO Y e) : bindO (iteO (!b) A B) K = bindO (iteO b X Y) e := by
 cases b
 · exact h2 rfl
 · exact h1 rfl
theorem bindO_ext {x : Option α} {k k' : α → Option γ} (h : ∀ v, run (k v) = k' v) : bindO x k = bindO x k' := by
 cases x with
 | none => rfl
 | some v => exact h v
def optO (x : Option α) (f : α → Option β) (z : Option β) : Option β :=
 match x with
 | some v => f v
 | none => z
theorem at_ext' {c : α → List AV} {l : List α} {i : Int} {r : List AV → δ} {K : δ → Option γ} {K' : α → Option γ}
   (h : ∀ x, inB i l.length = true → l[i.toNat]? = some x → (List.map c l).getD i.toNat [] = c x → (List.map c l)[i.toNat]? = some (c x) → run (K (r ((List.map c l).getD i.toNat []))) = K' x) :
   bindO (iteO (inB i l.length) (some (r ((List.map c l).getD i.toNat []))) none) K = bindO (atO l i) K' := by
 cases hb : inB i l.length with
 | false => simp only [atO, hb]; rfl
 | true =>
   obtain ⟨x, hx⟩ := at_in hb
   have h2 : (List.map c l)[i.toNat]? = some (c x) := by rw [List.getElem?_map, hx]; rfl
   have h1 : (List.map c l).getD i.toNat [] = c x := by rw [List.getD_eq_getElem?_getD, h2]; rfl
   simp only [atO, hb, hx]
   exact h x hb hx h1 h2
theorem at_sl {c : α → List AV} {l : List α} {i : Int} {K : AV → Option γ} {K' : α → Option γ}
   (h : ∀ x, inB i l.length = true → l[i.toNat]? = some x → (List.map c l).getD i.toNat [] = c x → (List.map c l)[i.toNat]? = some (c x) → run (K (.cref (c x))) = K' x) :
   bindO (iteO (inB i l.length) (some (.cref ((List.map c l).getD i.toNat []))) none) K = bindO (atO l i) K' :=
 at_ext' (r := AV.cref) fun x h1 h2 h3 h4 => by rw [h3]; exact h x h1 h2 h3 h4
theorem at_rs {c : α → List AV} {l : List α} {i : Int} {v : AV} {K : AV → Option γ} {K' : α → Option γ}
   (h : ∀ x, inB i l.length = true → l[i.toNat]? = some x → (List.map c l).getD i.toNat [] = c x → (List.map c l)[i.toNat]? = some (c x) → run (K v) = K' x) :
   bindO (iteO (inB i l.length) (some v) none) K = bindO (atO l i) K' := by
 cases hb : inB i l.length with
 | false => simp only [atO, hb]; rfl
 | true =>
   obtain ⟨x, hx⟩ := at_in hb
   have h2 : (List.map c l)[i.toNat]? = some (c x) := by rw [List.getElem?_map, hx]; rfl
   have h1 : (List.map c l).getD i.toNat [] = c x := by rw [List.getD_eq_getElem?_getD, h2]; rfl
   simp only [atO, hb, hx]
   exact h x hb hx h1 h2
@[push_cast] theorem bneI (x y : Int) : (x != y) = !(x == y) := rfl
theorem opt_ext {x : Option α} {ev : α → AV} {ok : Bool} {ei : TInfo} {K : AV → Option γ} {A : α → Option β} {B : Option β} {e : β → Option γ} (h1 : ∀ v, x = some v → run (K (lookedUp ok true (ev v))) = bindO (A v) e) (h2 : x = none → bindO (run (foundOr ok ei none)) K = bindO B e) :
   bindO (foundOr ok ei (x.map ev)) K = bindO (optO x A B) e := by
 cases x with
 | none => exact h2 rfl
 | some v => exact h1 v rfl
@[push_cast] theorem lookedUp_t (b : Bool) (v : AV) : lookedUp true b v = .tuple [v, .bool b] := rfl
@[push_cast] theorem lookedUp_f (b : Bool) (v : AV) : lookedUp false b v = v := rfl
theorem rng_get {c : α → List AV} {l : List α} {i : Nat} {x : α} (hx : l[i]? = some x) : (List.map c l).getD i [] = c x := by rw [List.getD_eq_getElem?_getD, List.getElem?_map, hx]; rfl
theorem rng_getq {c : α → List AV} {l : List α} {i : Nat} {x : α} (hx : l[i]? = some x) : (List.map c l)[i]? = some (c x) := by rw [List.getElem?_map, hx]; rfl
theorem rng_wrap {i N : Nat} (h : i < N) (hN : N ≤ 4611686018427387904) : IntKind.i64.wrap ((i : Int) + 1) = (i : Int) + 1 := wrap_id (by omega)
theorem cnt_lt {i : Nat} {m : Int} (h : i < m.toNat) : decide ((i : Int) < m) = true := by simp only [decide_eq_true_eq]; omega
theorem cnt_end {m : Int} : decide ((m.toNat : Int) < m) = false := by simp only [decide_eq_false_iff_not]; omega
theorem map_inj_iff {f : α → List AV} (hf : ∀ a b, f a = f b → a = b) (l l' : List α) : List.map f l = List.map f l' ↔ l = l' := by
 constructor
 · intro h
   induction l generalizing l' with
   | nil => cases l' with
     | nil => rfl
     | cons => simp at h
   | cons a l ih => cases l' with
     | nil => simp at h
     | cons a' l' =>
       simp only [List.map_cons, List.cons.injEq] at h
       rw [hf _ _ h.1, ih _ h.2]
 · rintro rfl; rfl
end
def cI (k : IntKind) (n : Int) : List AV := [.int k n]
def cB (b : Bool) : List AV := [.bool b]
def cS (s : ByteArray) : List AV := [.str s]
def cL {α : Type} (sz : Nat) (c : α → List AV) (l : List α) : List AV := [.sl false sz (List.map c l)]
@[push_cast] theorem cI_eq (k : IntKind) (n : Int) : cI k n = [.int k n] := rfl
@[push_cast] theorem cB_eq (b : Bool) : cB b = [.bool b] := rfl
@[push_cast] theorem cS_eq (s : ByteArray) : cS s = [.str s] := rfl
@[push_cast] theorem cL_eq {α : Type} (sz : Nat) (c : α → List AV) (l : List α) : cL sz c l = [.sl false sz (List.map c l)] := rfl
theorem cI_inj (k : IntKind) : ∀ a b, cI k a = cI k b → a = b := fun a b h => by injection h with h; injection h
theorem cB_inj : ∀ a b, cB a = cB b → a = b := fun a b h => by injection h with h; injection h
theorem cL_inj {α : Type} {sz : Nat} {c : α → List AV} (hc : ∀ a b, c a = c b → a = b) : ∀ a b, cL sz c a = cL sz c b → a = b := fun a b h => by injection h with h; injection h with _ _ h; exact (map_inj_iff hc _ _).1 h
@[push_cast] theorem repI {n : Nat} {k : IntKind} {v : Int} : List.replicate n [AV.int k v] = List.map (cI k) (List.replicate n v) := by rw [List.map_replicate]; rfl
attribute [push_cast] Bool.true_beq Bool.false_beq
@[push_cast] theorem wrap_lit {n : Int} (h1 : -9223372036854775808 ≤ n) (h2 : n < 9223372036854775808) : IntKind.i64.wrap n = n := wrap_id ⟨h1, h2⟩
theorem nz_int (k : IntKind) (n : Int) : nzL (.int k n) = .int k n := rfl
theorem nz_bool (b : Bool) : nzL (.bool b) = .bool b := rfl
theorem nz_str (s : ByteArray) : nzL (.str s) = .str s := rfl
theorem nzV_agg (cs : List AV) : nzV (.agg cs) = .agg (cs.map nzL) := rfl
theorem nzV_cref (cs : List AV) : nzV (.cref cs) = .cref (cs.map nzL) := rfl
def cutL {α : Type} (l : List α) (a b : Int) : List α := (l.drop a.toNat).take (b - a).toNat
@[push_cast] theorem aCut_map {α : Type} (c : α → List AV) (l : List α) (a b : Int) : aCut (List.map c l) a b = List.map c (cutL l a b) := by simp only [aCut, cutL, List.map_drop, List.map_take]
@[push_cast] theorem r_capB {E : Env} {σ : Store} (ts : Array TypeId) (l : List AV) : run (aBuiltin E σ ts .cap l) = none := by cases l <;> rfl
theorem eqCells_nil {xs ys : List AV} {r : Bool} (h : eqCells [] xs ys = some r) : xs = [] ∧ ys = [] ∧ r = true := by
 cases xs <;> cases ys <;> first | (injection h with h; exact ⟨rfl, rfl, h.symm⟩) | cases h
theorem eqCells_str {ss : List TK} {xs ys : List AV} {r : Bool} (h : eqCells (.string :: ss) xs ys = some r) : ∃ a b xs' ys' r', xs = .str a :: xs' ∧ ys = .str b :: ys' ∧ eqCells ss xs' ys' = some r' ∧ r = ((a.toList == b.toList) && r') := by
 cases xs with
 | nil => cases h
 | cons x xs =>
   cases ys with
   | nil => cases x <;> cases h
   | cons y ys =>
     cases x with
     | str a =>
       cases y with
       | str b =>
         obtain ⟨r', h1, h2⟩ := bindO_eq h
         injection h2 with h2
         exact ⟨a, b, xs, ys, r', rfl, rfl, h1, h2.symm⟩
       | _ => cases h
     | _ => cases y <;> cases h
theorem eqCells_int {k : IntKind} {ss : List TK} {xs ys : List AV} {r : Bool} (h : eqCells (.int k :: ss) xs ys = some r) : ∃ a b xs' ys' r', xs = .int k a :: xs' ∧ ys = .int k b :: ys' ∧ eqCells ss xs' ys' = some r' ∧ r = ((a == b) && r') := by
 cases xs with
 | nil => cases h
 | cons x xs =>
   cases ys with
   | nil => cases x <;> cases h
   | cons y ys =>
     cases x with
     | int k1 a =>
       cases y with
       | int k2 b =>
         obtain ⟨hk, h1⟩ := iteO_none h
         simp only [Bool.and_eq_true, decide_eq_true_eq] at hk
         obtain ⟨rfl, rfl⟩ := hk
         obtain ⟨r', h1, h2⟩ := bindO_eq h1
         injection h2 with h2
         exact ⟨a, b, xs, ys, r', rfl, rfl, h1, h2.symm⟩
       | _ => cases h
     | _ => cases y <;> cases h
theorem reps_cons {g : Ghost} {n : Nat} {c : AV} {cs : List AV} {vs : List Value} (h : Reps g (c :: cs) n vs) : ∃ v vs', vs = v :: vs' ∧ Rep g c n v ∧ Reps g cs n vs' := h
def mS {α : Type} (ev : α → AV) (m : ByteArray → Option α) : MKey → Option AV
 | .s b => (m b).map ev
 | _ => none
def mI {α : Type} (ev : α → AV) (m : Int → Option α) : MKey → Option AV
 | .i n => (m n).map ev
 | _ => none
abbrev evI (k : IntKind) (n : Int) : AV := .int k n
abbrev evB (b : Bool) : AV := .bool b
def putM {κ α : Type} [BEq κ] (m : κ → Option α) (k : κ) (v : α) : κ → Option α := fun k' => match k' == k with | true => some v | false => m k'
@[push_cast] theorem mS_s {α : Type} (ev : α → AV) (m : ByteArray → Option α) (b : ByteArray) : mS ev m (.s b) = (m b).map ev := rfl
@[push_cast] theorem mI_i {α : Type} (ev : α → AV) (m : Int → Option α) (b : Int) : mI ev m (.i b) = (m b).map ev := rfl
theorem mS_put {α : Type} (ev : α → AV) (m : ByteArray → Option α) (b : ByteArray) (v : α) : mapPut (mS ev m) (.s b) (ev v) = mS ev (putM m b v) := by
 funext k
 cases k with
 | s c => simp only [mapPut, keyEq, mS, putM]; cases c == b <;> rfl
 | i _ => rfl
 | b _ => rfl
theorem mI_put {α : Type} (ev : α → AV) (m : Int → Option α) (b : Int) (v : α) : mapPut (mI ev m) (.i b) (ev v) = mI ev (putM m b v) := by
 funext k
 cases k with
 | i c => simp only [mapPut, keyEq, mI, putM]; cases c == b <;> rfl
 | s _ => rfl
 | b _ => rfl
@[push_cast] theorem mS_putI (k : IntKind) (m : ByteArray → Option Int) (b : ByteArray) (v : Int) : mapPut (mS (evI k) m) (.s b) (.int k v) = mS (evI k) (putM m b v) := mS_put (evI k) m b v
@[push_cast] theorem mS_putB (m : ByteArray → Option Bool) (b : ByteArray) (v : Bool) : mapPut (mS evB m) (.s b) (.bool v) = mS evB (putM m b v) := mS_put evB m b v
@[push_cast] theorem mI_putI (k : IntKind) (m : Int → Option Int) (b : Int) (v : Int) : mapPut (mI (evI k) m) (.i b) (.int k v) = mI (evI k) (putM m b v) := mI_put (evI k) m b v
@[push_cast] theorem mI_putB (m : Int → Option Bool) (b : Int) (v : Bool) : mapPut (mI evB m) (.i b) (.bool v) = mI evB (putM m b v) := mI_put evB m b v
theorem mS_empty {α : Type} (ev : α → AV) : (fun (_ : MKey) => (none : Option AV)) = mS ev (fun _ => none) := by funext k; cases k <;> rfl
end Go.Abs
