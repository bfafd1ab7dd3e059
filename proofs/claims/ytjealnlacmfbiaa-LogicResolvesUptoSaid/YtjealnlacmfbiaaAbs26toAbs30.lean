import Derived.Test.YtjealnlacmfbiaaAbs24ztoAbs2
set_option linter.unusedSimpArgs false
set_option linter.unusedVariables false
namespace Go.Abs
def stepOut (n0 n : Nat) (ks : List Nat) (r : ARes) : Option (Sum (Fr × Store) ARes) :=
 match r.e with
 | .normal => some (.inl (keepFr n0 n r.σ ks 0 r.fr, keepSt n0 n r.σ))
 | .exit id => some (.inr ⟨.exit id, r.fr, r.σ⟩)
 | .ret => some (.inr ⟨.ret, r.fr, r.σ⟩)
@[push_cast] theorem r_so1 (n0 n : Nat) (ks : List Nat) (fr : Fr) (σ : Store) : run (stepOut n0 n ks ⟨.normal, fr, σ⟩) = some (.inl (keepFr n0 n σ ks 0 fr, keepSt n0 n σ)) := rfl
@[push_cast] theorem r_so2 (n0 n : Nat) (ks : List Nat) (fr : Fr) (σ : Store) (id : Nat) : run (stepOut n0 n ks ⟨.exit id, fr, σ⟩) = some (.inr ⟨.exit id, fr, σ⟩) := rfl
@[push_cast] theorem r_so3 (n0 n : Nat) (ks : List Nat) (fr : Fr) (σ : Store) : run (stepOut n0 n ks ⟨.ret, fr, σ⟩) = some (.inr ⟨.ret, fr, σ⟩) := rfl
def round (n0 n : Nat) (ks : List Nat) (body : Fr → Store → Option ARes) (fr : Fr) (σ : Store) : Option (Sum (Fr × Store) ARes) := bindO (run (body fr σ)) (stepOut n0 n ks)
theorem loop_next {n0 n N : Nat} {ks : List Nat} {body : Fr → Store → Option ARes} {fr fr' : Fr} {σ σ' : Store} (h : round n0 n ks body fr σ = some (.inl (fr', σ'))) : aLoop n0 body ks n (N + 1) fr σ = aLoop n0 body ks n N fr' σ' := by
 obtain ⟨r, hr, h1⟩ := bindO_eq h
 have hr : body fr σ = some r := hr
 obtain ⟨e, f, s⟩ := r
 cases e with
 | normal =>
   injection h1 with h1
   injection h1 with h1
   injection h1 with h1 h2
   simp only [aLoop, hr, bindO_some, thenO, ← h1, ← h2]
 | exit _ => injection h1 with h1; cases h1
 | ret => injection h1 with h1; cases h1
theorem loop_stop {n0 n N : Nat} {ks : List Nat} {body : Fr → Store → Option ARes} {fr : Fr} {σ : Store} {r : ARes} (h : round n0 n ks body fr σ = some (.inr r)) : aLoop n0 body ks n (N + 1) fr σ = some r := by
 obtain ⟨r', hr, h1⟩ := bindO_eq h
 have hr : body fr σ = some r' := hr
 obtain ⟨e, f, s⟩ := r'
 cases e with
 | normal => injection h1 with h1; cases h1
 | exit _ => injection h1 with h1; injection h1 with h1; subst h1; simp only [aLoop, hr, bindO_some, thenO]
 | ret => injection h1 with h1; injection h1 with h1; subst h1; simp only [aLoop, hr, bindO_some, thenO]
def foldX {α S R : Type} (step : S → α → Sum S R) (fin : S → R) : List α → S → R
 | [], s => fin s
 | x :: xs, s => match step s x with
   | .inl s' => foldX step fin xs s'
   | .inr r => r
def nextX {S R : Type} (F : S → Fr) (G : S → Store) (out : R → ARes) : Sum S R → Sum (Fr × Store) ARes
 | .inl s => .inl (F s, G s)
 | .inr r => .inr (out r)
theorem loop_foldX {α S R : Type} {n0 n N : Nat} {ks : List Nat} {body : Fr → Store → Option ARes} (l : List α) (F : Nat → S → Fr) (G : Nat → S → Store) (I : Nat → S → Prop) (step : S → α → Sum S R) (fin : S → R) (out : R → ARes)
   (hs : ∀ i s x, l[i]? = some x → i < l.length → I i s → round n0 n ks body (F i s) (G i s) = some (nextX (F (i + 1)) (G (i + 1)) out (step s x)) ∧ ∀ s', step s x = .inl s' → I (i + 1) s')
   (he : ∀ s, I l.length s → round n0 n ks body (F l.length s) (G l.length s) = some (.inr (out (fin s)))) :
   ∀ (rest : List α) (i : Nat) (N : Nat) (s : S), l.drop i = rest → i + rest.length = l.length → rest.length < N → I i s → aLoop n0 body ks n N (F i s) (G i s) = some (out (foldX step fin rest s))
 | [], i, N, s, hd, hl, hN, hI => by
   obtain ⟨M, rfl⟩ : ∃ M, N = M + 1 := ⟨N - 1, by simp at hN; omega⟩
   have hi : i = l.length := by simpa using hl
   subst hi
   exact loop_stop (he s hI)
 | x :: rest, i, N, s, hd, hl, hN, hI => by
   obtain ⟨M, rfl⟩ : ∃ M, N = M + 1 := ⟨N - 1, by simp at hN; omega⟩
   have hx : l[i]? = some x := by
     have := congrArg List.head? hd
     simpa [List.head?_drop] using this
   have hlt : i < l.length := by simp at hl; omega
   obtain ⟨h1, h2⟩ := hs i s x hx hlt hI
   cases hst : step s x with
   | inl s' =>
     rw [hst] at h1
     rw [loop_next h1]
     have := loop_foldX (N := N) l F G I step fin out hs he rest (i + 1) M s' (by rw [← List.drop_drop, hd]; rfl) (by simp at hl; omega) (by simp at hN; omega) (h2 s' hst)
     rw [this]
     simp only [foldX, hst]
   | inr r =>
     rw [hst] at h1
     rw [loop_stop h1]
     simp only [foldX, hst]
theorem loop_list {α S R : Type} {n0 n N : Nat} {ks : List Nat} {body : Fr → Store → Option ARes} (l : List α) (F : Nat → S → Fr) (G : Nat → S → Store) (I : Nat → S → Prop) (step : S → α → Sum S R) (fin : S → R) (out : R → ARes) (s : S)
   (hN : l.length < N) (h0 : I 0 s)
   (hs : ∀ i s x, l[i]? = some x → i < l.length → I i s → round n0 n ks body (F i s) (G i s) = some (nextX (F (i + 1)) (G (i + 1)) out (step s x)) ∧ ∀ s', step s x = .inl s' → I (i + 1) s')
   (he : ∀ s, I l.length s → round n0 n ks body (F l.length s) (G l.length s) = some (.inr (out (fin s)))) :
   aLoop n0 body ks n N (F 0 s) (G 0 s) = some (out (foldX step fin l s)) :=
 loop_foldX (N := N) l F G I step fin out hs he l 0 N s rfl (by simp) hN h0
theorem at1 {α β : Type} {x : Option α} {k : α → Option β} {r : α} {y : Option β} (h : x = some r) (h' : bindO (some r) k = y) : bindO (run x) k = y := by
 subst h; exact h'
theorem bindO_assoc {α β γ : Type} (x : Option α) (f : α → Option β) (g : β → Option γ) : bindO (bindO x f) g = bindO x fun a => bindO (f a) g := by cases x <;> rfl
theorem inB_lt {i n : Nat} (h : i < n) : inB (i : Int) n = true := by simp [inB, h]
theorem wrap_id {n : Int} (h : -9223372036854775808 ≤ n ∧ n < 9223372036854775808) : IntKind.i64.wrap n = n := by
 have e1 : (2 : Int) ^ 64 = 18446744073709551616 := by decide
 have e2 : (2 : Int) ^ 63 = 9223372036854775808 := by decide
 simp only [IntKind.wrap, IntKind.bits, IntKind.signed, e1, Bool.true_and, Nat.reduceSub, e2, decide_eq_true_eq, ge_iff_le]
 split <;> omega
theorem lt_true {i n : Nat} (h : i < n) : decide ((i : Int) < (n : Int)) = true := by simp [h]
theorem lt_self {n : Nat} : decide ((n : Int) < (n : Int)) = false := by simp
end Go.Abs
namespace Go.Abs
open Go.RowKit
variable {P : Program} {E : Env} {g : Ghost} {σ : Store} {w : World}
def Pure (P : Program) (f : Nat) (args : List AV) (v : AV) : Prop := ∀ σ, CallOk P f args σ v σ
structure Ent where
 f : Nat
 X : Type
 emb : X → List AV
 res : X → AV
 inj : ∀ x y, emb x = emb y → res x = res y
open Classical in
noncomputable def entAt (P : Program) (e : Ent) (args : List AV) : Option AV :=
  if h : ∃ x, e.emb x = args ∧ Pure P e.f args (e.res x) then some (e.res (Classical.choose h)) else none
noncomputable def tabL (P : Program) : List Ent → Nat → List AV → Store → Option (AV × Store)
 | [], _, _, _ => none
 | e :: l, f, args, σ => if f = e.f then (entAt P e args).map fun v => (v, σ) else tabL P l f args σ
theorem tabL_ok : ∀ {l : List Ent} {f : Nat} {args : List AV} {v : AV} {σ' : Store}, tabL P l f args σ = some (v, σ') → CallOk P f args σ v σ'
 | [], _, _, _, _, h => by cases h
 | e :: l, f, args, v, σ', h => by
   simp only [tabL] at h
   split at h
   · rename_i hf
     subst hf
     obtain ⟨u, hu, h1⟩ := Option.map_eq_some_iff.1 h
     injection h1 with h2 h3
     subst h2; subst h3
     unfold entAt at hu
     split at hu
     · rename_i hx
       injection hu with hu
       obtain ⟨h4, h5⟩ := Classical.choose_spec hx
       rw [hu] at h5
       exact h5 σ
     · cases hu
   · exact tabL_ok h
theorem tabL_same : ∀ {l : List Ent} {f : Nat} {args : List AV} {v : AV} {σ' : Store}, tabL P l f args σ = some (v, σ') → σ' = σ ∧ ∀ σ2, tabL P l f args σ2 = some (v, σ2)
 | [], _, _, _, _, h => by cases h
 | e :: l, f, args, v, σ', h => by
   simp only [tabL] at h ⊢
   split at h
   · rename_i hf
     obtain ⟨u, hu, h1⟩ := Option.map_eq_some_iff.1 h
     injection h1 with h2 h3
     subst h2; subst h3
     exact ⟨rfl, fun σ2 => by rw [if_pos hf, hu]; rfl⟩
   · rename_i hf
     obtain ⟨h1, h2⟩ := tabL_same h
     exact ⟨h1, fun σ2 => by rw [if_neg hf]; exact h2 σ2⟩
structure SEnt where
 X : Type
 emb : X → AV
 out : X → List (List AV)
 inj : ∀ x y, emb x = emb y → out x = out y
open Classical in
noncomputable def seqAt (P : Program) (e : SEnt) (v : AV) : Option (List (List AV)) :=
  if h : ∃ x, e.emb x = v ∧ SeqOk P v (e.out x) then some (e.out (Classical.choose h)) else none
noncomputable def seqL (P : Program) : List SEnt → AV → Option (List (List AV))
 | [], _ => none
 | e :: l, v => match seqAt P e v with
   | some xs => some xs
   | none => seqL P l v
theorem seqL_ok : ∀ {l : List SEnt} {v : AV} {xs : List (List AV)}, seqL P l v = some xs → SeqOk P v xs
 | [], _, _, h => by cases h
 | e :: l, v, xs, h => by
   simp only [seqL] at h
   split at h
   · rename_i ys hy
     injection h with h
     subst h
     unfold seqAt at hy
     split at hy
     · rename_i hx
       injection hy with hy
       obtain ⟨h4, h5⟩ := Classical.choose_spec hx
       rw [hy] at h5
       exact h5
     · cases hy
   · exact seqL_ok h
noncomputable def mkE (P : Program) (n0 : Nat) (ty : Nat → Option TInfo) (eqt : Nat → Option (List TK)) (l : List Ent) (s : List SEnt) : Env := ⟨P, n0, ty, eqt, tabL P l, seqL P s, noAli⟩
@[push_cast] theorem mkE_ali {n0 : Nat} {ty : Nat → Option TInfo} {eqt : Nat → Option (List TK)} {l : List Ent} {s : List SEnt} : (mkE P n0 ty eqt l s).ali = noAli := rfl
theorem mkE_ok {n0 : Nat} {ty : Nat → Option TInfo} {eqt : Nat → Option (List TK)} {l : List Ent} {s : List SEnt} (hty : ∀ t i, ty t = some i → TyOk P t i) (heq : ∀ t ss, eqt t = some ss → EqOk P t ss) : EnvOk (mkE P n0 ty eqt l s) :=
 ⟨hty, heq, fun _ _ _ _ _ h => tabL_ok h⟩
theorem mkE_seq {n0 : Nat} {ty : Nat → Option TInfo} {eqt : Nat → Option (List TK)} {l : List Ent} {s : List SEnt} : SeqEnv (mkE P n0 ty eqt l s) := ⟨fun _ _ h => seqL_ok h⟩
theorem mkE_pure {n0 : Nat} {ty : Nat → Option TInfo} {eqt : Nat → Option (List TK)} {l : List Ent} {s : List SEnt} : PureTab (mkE P n0 ty eqt l s) (fun _ => true) := fun _ _ _ _ _ _ h => tabL_same h
def drawChk (_ : Nat) (ops : Array Oper) : Bool := regionOk (fun _ => true) ops ops.size
theorem pure_of {ty : Nat → Option TInfo} {eqt : Nat → Option (List TK)} {l : List Ent} {s : List SEnt} (hty : ∀ t i, ty t = some i → TyOk P t i) (heq : ∀ t ss, eqt t = some ss → EqOk P t ss) (hm : P.follows .mixedOrders = true)
   {f : Nat} {fn : Func} {c : Code} (hf : P.funcs[f]? = some fn) (hb : fn.body = some c) (hn : fn.name ≠ "runtime.NumGoroutine") (hd : drawsOk drawChk c = true) {H : Nat → Hint} {N : Nat} {args : List AV} {v : AV}
   (h : aPure (mkE P 0 ty eqt l s) fn H N args = some v) (ha : allData args = true) : Pure P f args v := by
 intro σ g w vs hI hr
 have hE := mkE_ok (n0 := 0) (l := l) (s := s) hty heq
 refine (pure_callOk hE mkE_seq rfl (chk := drawChk) (fun _ ops hc => draw_sound hE mkE_pure hm ops _ hc) hf hb hn hd h hI (datas_rep hr ha)).mono ?_
 rintro val w' ⟨g', hm', hv⟩
 exact ⟨g', hm', Rep.mono (Ext.refl g' 0) v 0 _ val (Nat.le_refl _) (Nat.zero_le _) hv⟩
end Go.Abs
namespace Go.Abs
open Go.RowKit
variable {P : Program} {E : Env} {g : Ghost} {σ : Store} {w : World}
def ghostG (G : Guest) (F : Nat → Prop) (C : Nat → Nat → Option Value) (W : World) : Ghost := ⟨C, fun _ => 0, fun _ _ => none, F, ⟨W, C, G⟩⟩
theorem invG {G : Guest} {F : Nat → Prop} {C : Nat → Nat → Option Value} {W : World} {T : List (List AV × Bool)} (hy : YieldRule G) (h : G.rel T F C W) : Inv (ghostG G F C W) [.guest T] W := by
 have hown : ∀ (id : Nat) (o : AObj) (b : Nat), [AObj.guest T][id]? = some o → owned (ghostG G F C W) id o = some b → False := fun id o b ho hb => by
   cases id with
   | zero => simp at ho; subst ho; simp [owned] at hb
   | succ id => simp at ho
 refine ⟨G.comm T F C W h, fun id o ho => ?_, fun id o b ho hb => (hown id o b ho hb).elim, fun id id' o o' b ho _ hb _ => (hown id o b ho hb).elim, fun _ _ => rfl, Below.refl _ _, G.lt T F C W h, fun _ _ _ hv _ => hv, fun id T' hg => ?_⟩
 · cases id with
   | zero => simp at ho; subst ho; trivial
   | succ id => simp at ho
 · cases id with
   | zero =>
     simp at hg
     subst hg
     exact ⟨rfl, hy, F, h, fun id o b ho hb => (hown id o b ho hb).elim, fun _ h => h⟩
   | succ id => simp at hg
def GuestPost (G : Guest) (T' : List (List AV × Bool)) (v : AV) (F : Nat → Prop) (C : Nat → Nat → Option Value) (W : World) (e : Ending) (W' : World) : Prop :=
 ∃ val, e = .returned val ∧ ∃ F' C', (∃ g0 : Ghost, g0.C = C' ∧ Rep g0 v 0 val) ∧ G.rel T' F' C' W' ∧ (∀ k, F k → F' k) ∧ (∀ b o v, C b o = some v → C' b o = some v) ∧ (∀ b o v, C' b o = some v → F b → C b o = some v) ∧ (∀ k, F k → W'.heap[k]? = W.heap[k]?) ∧ Below 0 W W'
def GuestOk (P : Program) (f : Nat) (args : List AV) (T : List (List AV × Bool)) (v : AV) (T' : List (List AV × Bool)) : Prop :=
 ∀ (G : Guest) F C W vs, G.P = P → YieldRule G → G.rel T F C W → Reps (ghostG G F C W) args 1 vs → Yields P (callFunc f vs.toArray) W fun val W' => GuestPost G T' v F C W (.returned val) W'
theorem guest_of (hE : EnvOk E) (hS : SeqEnv E) (h1 : E.n0 = 1) {chk : Nat → Array Oper → Bool} (hchk : ∀ id ops, chk id ops = true → DrawSound E (E.ali id) ops) {f : Nat} {fn : Func} {c : Code} (hf : E.P.funcs[f]? = some fn) (hb : fn.body = some c) (hn : fn.name ≠ "runtime.NumGoroutine")
   (hd : drawsOk chk c = true) {H : Nat → Hint} {N : Nat} {args : List AV} {T T' : List (List AV × Bool)} {rs : List AV} {σ' : Store} (h : aFn E fn H N args [.guest T] = some (rs, .guest T' :: σ')) (hv : (packed rs).data = true) : GuestOk E.P f args T (packed rs) T' := by
 intro G F C W vs hP hy hrel hr
 refine Yields.of_calls (callFunc_enter hf hb hn _ _) ((fn_calls hE hS hchk hf hb hd h (by rw [h1]; exact Nat.le_refl _) (invG hy hrel) hr).mono ?_)
 rintro e W' ⟨v, rfl, g', he, hI, _, hrep, _⟩
 obtain ⟨_, _, F', hrel', _, hfF⟩ := hI.guest 0 T' rfl
 have hG : g'.w0.G = G := he.tie.G
 rw [hG] at hrel'
 refine ⟨v, rfl, v, rfl, F', g'.C, ⟨g', rfl, data_rep hrep hv⟩, hrel', fun k hk => hfF k (he.tie.fix k hk), fun b o v hv => he.C b o v hv, fun b o v hv hF => ?_, fun k hk => ?_, he.tie.str.trans hI.str⟩
 · exact he.tie.low b o v (hI.low b o v hv (he.tie.fix b hF)) hF
 · exact (hI.below k (he.tie.fix k hk)).trans (he.tie.same k hk)
def gArgs : List AV → Bool
 | [] => true
 | .yfn _ :: cs => gArgs cs
 | c :: cs => c.data && gArgs cs
theorem Yields.calls {f : Nat} {args : Array Value} {R : Value → World → Prop} (he : (callFunc f args).run P w = .ok (.enter f args) w) (h : Yields P (callFunc f args) w R) : Calls P f args w fun e w' => ∃ v, e = .returned v ∧ R v w' := by
 rcases h with ⟨v, w', e, _⟩ | ⟨w', e, _⟩ | ⟨f', args', w', e, h⟩ | ⟨l, f', tmps, asg, body, w', e, _⟩
 · rw [he] at e; injection e with e; cases e
 · rw [he] at e; injection e with e; cases e
 · rw [he] at e
   injection e with e1 e2
   injection e1 with e3 e4
   subst e3; subst e4; subst e2
   exact h
 · rw [he] at e; injection e with e; cases e
theorem gArgs_rep {G : Guest} {F : Nat → Prop} {W : World} (hG : g.w0.G = G) {n : Nat} : ∀ {cs : List AV} {vs : List Value}, gArgs cs = true → Reps g cs n vs → Reps (ghostG G F g.C W) cs 1 vs
 | [], _, _, hr => hr
 | c :: cs, _, h, ⟨v, vs', e, h1, h2⟩ => by
   have hd : ∀ {c : AV}, c.data = true → Rep g c n v → Rep (ghostG G F g.C W) c 1 v := fun hc hr => Rep.data (g := g) (g' := ghostG G F g.C W) (fun _ _ _ h => h) _ 1 v (data_rep hr hc)
   cases c with
   | yfn P => exact ⟨v, vs', e, ⟨Nat.one_pos, by rw [← hG]; exact h1.2⟩, gArgs_rep hG h h2⟩
   | _ =>
     simp only [gArgs, Bool.and_eq_true] at h
     exact ⟨v, vs', e, hd h.1 h1, gArgs_rep hG h.2 h2⟩
theorem guest_callOk {f : Nat} {args : List AV} {T T' : List (List AV × Bool)} {v : AV} (h : GuestOk P f args T v T') (ha : gArgs args = true) (rest : Store) (hP : ∀ g : Ghost, ∀ n vs, Reps g args n vs → g.w0.G.P = P) : CallOk P f args (.guest T :: rest) v (.guest T' :: rest) := by
 intro g w vs hI hr
 obtain ⟨_, hy, F, hrel, hF, hfF⟩ := hI.guest 0 T rfl
 refine (h g.w0.G F g.C w vs (hP g _ vs hr) hy hrel (gArgs_rep rfl ha hr)).mono ?_
 rintro val w' ⟨val', e, F', C', ⟨g0, hg0, hrep⟩, h1, h2, h3, h4, h5, h6⟩
 injection e with e
 subst e
 refine ⟨_, guest_moved hI hF hfF h2 h1 h3 h4 h5 h6, ?_⟩
 exact Rep.data (g := g0) (g' := { g with C := C' }) (by rw [hg0]; exact fun _ _ _ h => h) v _ val hrep
structure GEnt where
 f : Nat
 X : Type
 emb : X → List AV
 step : X → List (List AV × Bool) → Option (AV × List (List AV × Bool))
 inj : ∀ x y, emb x = emb y → step x = step y
open Classical in
noncomputable def tabG (P : Program) (e : GEnt) (f : Nat) (args : List AV) : Store → Option (AV × Store)
  | .guest T :: rest => if h : ∃ r : AV × List (List AV × Bool), (f = e.f ∧ ∃ x, e.emb x ++ [.yfn P] = args ∧ e.step x T = some r) ∧ gArgs args = true ∧ GuestOk P f args T r.1 r.2 then some ((Classical.choose h).1, .guest (Classical.choose h).2 :: rest) else none
  | _ => none
theorem yfn_P : ∀ (cs : List AV) (g : Ghost) (n : Nat) (vs : List Value), Reps g (cs ++ [.yfn P]) n vs → g.w0.G.P = P
 | [], _, _, _, ⟨_, _, _, h, _⟩ => h.2.1
 | _ :: cs, g, n, _, ⟨_, vs, _, _, h⟩ => yfn_P cs g n vs h
theorem tabG_ok {e : GEnt} {f : Nat} {args : List AV} {v : AV} {σ' : Store} (h : tabG P e f args σ = some (v, σ')) : CallOk P f args σ v σ' := by
 unfold tabG at h
 split at h
 · split at h
   · rename_i hx
     obtain ⟨h1, h2⟩ := pair_inj h
     obtain ⟨⟨_, x, hxx, _⟩, h4, h5⟩ := Classical.choose_spec hx
     subst h1; subst h2
     exact guest_callOk h5 h4 _ fun g n vs hr => by rw [← hxx] at hr; exact yfn_P _ g n vs hr
   · cases h
 · cases h
theorem append_one_inj {a b : List AV} {x : AV} (h : a ++ [x] = b ++ [x]) : a = b := List.append_cancel_right h
theorem tabG_hit {e : GEnt} (x : e.X) {T T' : List (List AV × Bool)} {v : AV} (hs : e.step x T = some (v, T')) (ha : gArgs (e.emb x ++ [.yfn P]) = true) (h : GuestOk P e.f (e.emb x ++ [.yfn P]) T v T') (rest : Store) :
   tabG P e e.f (e.emb x ++ [.yfn P]) (.guest T :: rest) = some (v, .guest T' :: rest) := by
 have hx : ∃ r : AV × List (List AV × Bool), (e.f = e.f ∧ ∃ y, e.emb y ++ [.yfn P] = e.emb x ++ [.yfn P] ∧ e.step y T = some r) ∧ gArgs (e.emb x ++ [.yfn P]) = true ∧ GuestOk P e.f (e.emb x ++ [.yfn P]) T r.1 r.2 := ⟨(v, T'), ⟨rfl, x, rfl, hs⟩, ha, h⟩
 obtain ⟨⟨_, y, hy, hys⟩, _⟩ := Classical.choose_spec hx
 rw [e.inj y x (append_one_inj hy), hs] at hys
 injection hys with hys
 have e1 : tabG P e e.f (e.emb x ++ [.yfn P]) (.guest T :: rest) = some ((Classical.choose hx).1, .guest (Classical.choose hx).2 :: rest) := dif_pos hx
 rw [e1, ← hys]
noncomputable def mkG (P : Program) (n0 : Nat) (ty : Nat → Option TInfo) (eqt : Nat → Option (List TK)) (e : GEnt) : Env := ⟨P, n0, ty, eqt, tabG P e, fun _ => none, noAli⟩
@[push_cast] theorem mkG_ali {n0 : Nat} {ty : Nat → Option TInfo} {eqt : Nat → Option (List TK)} {e : GEnt} : (mkG P n0 ty eqt e).ali = noAli := rfl
theorem mkG_ok {n0 : Nat} {ty : Nat → Option TInfo} {eqt : Nat → Option (List TK)} {e : GEnt} (hty : ∀ t i, ty t = some i → TyOk P t i) (heq : ∀ t ss, eqt t = some ss → EqOk P t ss) : EnvOk (mkG P n0 ty eqt e) :=
 ⟨hty, heq, fun _ _ _ _ _ h => tabG_ok h⟩
theorem mkG_seq {n0 : Nat} {ty : Nat → Option TInfo} {eqt : Nat → Option (List TK)} {e : GEnt} : SeqEnv (mkG P n0 ty eqt e) := ⟨fun _ _ h => by cases h⟩
def noDraw (_ : Nat) (_ : Array Oper) : Bool := false
theorem noDraw_ok (id : Nat) (ops : Array Oper) (h : noDraw id ops = true) : DrawSound E (E.ali id) ops := by cases h
end Go.Abs
namespace Go.Abs
section
variable {E : Env} {H : Nat → Hint} {N c : Nat} {fr : Fr} {σ : Store}
@[push_cast] theorem r_range (f : Operand) (ps : Array Tmp) (asg body : Code) : run (aev E H N c (.rangeFunc f ps asg body) fr σ) = bindO (run (aFix (H c).fix fr σ)) fun q => aevRange E (aev E H N c asg) (aev E H N c body) f ps.toList q.1 q.2 := rfl
@[push_cast] theorem r_range2 (fa fb : Fr → Store → Option ARes) (f : Operand) (ps : List Nat) : run (aevRange E fa fb f ps fr σ) = bindO (E.seq (evalO fr f)) fun xs =>
   bindO (aRange (aRound E.n0 fa fb ps (fr.map AV.noRow) σ.length) xs (keepSt E.n0 σ.length σ)) fun q => some ⟨q.1, fr.map AV.noRow, q.2⟩ := rfl
attribute [push_cast] AV.noRow AV.noRowL setPs
@[push_cast] theorem r_aRound (n0 : Nat) (fa fb : Fr → Store → Option ARes) (ps : List Nat) (m : Nat) (x : List AV) : run (aRound n0 fa fb ps fr m x σ) =
   run (iteO (decide (x.length = ps.length)) (bindO (run (fa (setPs ps x fr) σ)) fun r => thenR r fun fr' σ' => bindO (run (fb fr' σ')) fun r2 => some (r2.e, keepSt n0 m r2.σ)) none) := rfl
@[push_cast] theorem r_thenR (f : Fr → Store → Option (AExit × Store)) : run (thenR ⟨.normal, fr, σ⟩ f) = run (f fr σ) := rfl
end
end Go.Abs
namespace Go.Abs
section
variable {α β S : Type}
def stepK (n0 n : Nat) (ks : List Nat) (k : ARes → Option β) (r : ARes) : Option (Sum (Fr × Store) β) :=
 match r.e with
 | .normal => some (.inl (keepFr n0 n r.σ ks 0 r.fr, keepSt n0 n r.σ))
 | .exit id => bindO (run (k ⟨.exit id, r.fr, r.σ⟩)) fun y => some (.inr y)
 | .ret => bindO (run (k ⟨.ret, r.fr, r.σ⟩)) fun y => some (.inr y)
@[push_cast] theorem r_sk1 (n0 n : Nat) (ks : List Nat) (k : ARes → Option β) (fr : Fr) (σ : Store) : run (stepK n0 n ks k ⟨.normal, fr, σ⟩) = some (.inl (keepFr n0 n σ ks 0 fr, keepSt n0 n σ)) := rfl
@[push_cast] theorem r_sk2 (n0 n : Nat) (ks : List Nat) (k : ARes → Option β) (fr : Fr) (σ : Store) (id : Nat) : run (stepK n0 n ks k ⟨.exit id, fr, σ⟩) = bindO (run (k ⟨.exit id, fr, σ⟩)) fun y => some (.inr y) := rfl
@[push_cast] theorem r_sk3 (n0 n : Nat) (ks : List Nat) (k : ARes → Option β) (fr : Fr) (σ : Store) : run (stepK n0 n ks k ⟨.ret, fr, σ⟩) = bindO (run (k ⟨.ret, fr, σ⟩)) fun y => some (.inr y) := rfl
def roundK (n0 n : Nat) (ks : List Nat) (body : Fr → Store → Option ARes) (k : ARes → Option β) (fr : Fr) (σ : Store) : Option (Sum (Fr × Store) β) := bindO (run (body fr σ)) (stepK n0 n ks k)
theorem k_next {n0 n N : Nat} {ks : List Nat} {body : Fr → Store → Option ARes} {k : ARes → Option β} {fr fr' : Fr} {σ σ' : Store} (h : roundK n0 n ks body k fr σ = some (.inl (fr', σ'))) :
   bindO (aLoop n0 body ks n (N + 1) fr σ) k = bindO (aLoop n0 body ks n N fr' σ') k := by
 obtain ⟨r, hr, h1⟩ := bindO_eq h
 have hr : body fr σ = some r := hr
 obtain ⟨e, f, s⟩ := r
 cases e with
 | normal =>
   injection h1 with h1
   injection h1 with h1
   injection h1 with h1 h2
   simp only [aLoop, hr, bindO_some, thenO, ← h1, ← h2]
 | exit id => obtain ⟨y, _, h2⟩ := bindO_eq h1; injection h2 with h2; cases h2
 | ret => obtain ⟨y, _, h2⟩ := bindO_eq h1; injection h2 with h2; cases h2
theorem k_stop {n0 n N : Nat} {ks : List Nat} {body : Fr → Store → Option ARes} {k : ARes → Option β} {fr : Fr} {σ : Store} {y : β} (h : roundK n0 n ks body k fr σ = some (.inr y)) :
   bindO (aLoop n0 body ks n (N + 1) fr σ) k = some y := by
 obtain ⟨r, hr, h1⟩ := bindO_eq h
 have hr : body fr σ = some r := hr
 obtain ⟨e, f, s⟩ := r
 cases e with
 | normal => injection h1 with h1; cases h1
 | exit id =>
   obtain ⟨y', h3, h2⟩ := bindO_eq h1
   injection h2 with h2; injection h2 with h2; subst h2
   simp only [aLoop, hr, bindO_some, thenO]
   exact h3
 | ret =>
   obtain ⟨y', h3, h2⟩ := bindO_eq h1
   injection h2 with h2; injection h2 with h2; subst h2
   simp only [aLoop, hr, bindO_some, thenO]
   exact h3
def nextK (F : S → Fr) (G : S → Store) : Sum S β → Sum (Fr × Store) β
 | .inl s => .inl (F s, G s)
 | .inr r => .inr r
@[push_cast] theorem nextK_l (F : S → Fr) (G : S → Store) (s : S) : nextK F G (.inl s : Sum S β) = .inl (F s, G s) := rfl
@[push_cast] theorem nextK_r (F : S → Fr) (G : S → Store) (y : β) : nextK F G (.inr y : Sum S β) = .inr y := rfl
theorem loop_w {n0 n : Nat} {ks : List Nat} {body : Fr → Store → Option ARes} {k : ARes → Option β} (F : S → Fr) (G : S → Store) (I : S → Prop) (μ : S → Nat) (next : S → Sum S β) (res : S → β)
   (hs : ∀ s, I s → roundK n0 n ks body k (F s) (G s) = some (nextK F G (next s)) ∧ (∀ s', next s = .inl s' → I s' ∧ μ s' < μ s ∧ res s = res s') ∧ ∀ y, next s = .inr y → res s = y) :
   ∀ (N : Nat) (s : S), μ s < N → I s → bindO (run (aLoop n0 body ks n N (F s) (G s))) k = some (res s)
 | 0, s, h, _ => absurd h (Nat.not_lt_zero _)
 | N + 1, s, h, hI => by
   obtain ⟨h1, h2, h3⟩ := hs s hI
   show bindO (aLoop n0 body ks n (N + 1) (F s) (G s)) k = _
   cases hst : next s with
   | inl s' =>
     rw [hst] at h1
     obtain ⟨h4, h5, h6⟩ := h2 s' hst
     rw [k_next h1, h6]
     exact loop_w F G I μ next res hs N s' (by omega) h4
   | inr y =>
     rw [hst] at h1
     rw [k_stop h1, h3 y hst]
end
end Go.Abs
