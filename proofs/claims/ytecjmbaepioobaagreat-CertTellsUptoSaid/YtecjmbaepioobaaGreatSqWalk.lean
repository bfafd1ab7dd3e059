import Derived.Test.YtecjmbaepioobaaGreatSqN
set_option linter.unusedSimpArgs false
set_option linter.unusedVariables false
namespace Go.Abs.Try
open Go.RowKit
set_option maxRecDepth 10000
set_option maxHeartbeats 4000000
def eqn (_ : Nat) : Option (List TK) := none
theorem eqn_ok (t : Nat) (ss : List TK) (h : eqn t = some ss) : EqOk Proofs.Tryz.prog t ss := by cases h
theorem Node.cells_length (n : Node) : n.cells.length = 5 := by rw [Node.cells_eq]; rfl
theorem Node.c0 (n : Node) : n.cells[0]? = some (.int .i64 n.op) := by rw [Node.cells_eq]; rfl
theorem Node.c1 (n : Node) : n.cells[1]? = some (.int .i64 n.sortf) := by rw [Node.cells_eq]; rfl
theorem Node.c2 (n : Node) : n.cells[2]? = some (.str n.name) := by rw [Node.cells_eq]; rfl
theorem Node.c3 (n : Node) : n.cells[3]? = some (.int .i64 n.num) := by rw [Node.cells_eq]; rfl
theorem Node.c4 (n : Node) : n.cells[4]? = some (.sl false 5 (n.kids.map Node.cells)) := by rw [Node.cells_eq]; rfl
theorem Node.take5 (n : Node) : n.cells.take 5 = n.cells := by rw [Node.cells_eq]; rfl
theorem Node.drop0 (n : Node) : n.cells.drop 0 = n.cells := rfl
theorem Node.keeps (n : Node) (n0 k : Nat) (σ : Store) : n.cells.map (AV.keepL n0 k σ) = n.cells := by rw [Node.cells_eq]; rfl
theorem Node.leafs (n : Node) : allLeaf n.cells = true := by rw [Node.cells_eq]; rfl
theorem Node.dataL (n : Node) : allDataL n.cells = true := by rw [Node.cells_eq]; rfl
theorem Node.noRows (n : Node) : n.cells.map AV.noRowL = n.cells := by rw [Node.cells_eq]; rfl
attribute [local push_cast] Node.c0 Node.c1 Node.c2 Node.c3 Node.c4 Node.cells_length Node.take5 Node.drop0 Node.keeps Node.leafs Node.dataL Node.noRows
abbrev Todo := List (List AV × Bool)
open Classical in
mutual
noncomputable def vis : Node → Todo → Option (Bool × Todo)
  | _, [] => none
  | ⟨o, s, nm, nu, ks⟩, q :: T => if q.1 = [.agg (Node.cells ⟨o, s, nm, nu, ks⟩)] then (match q.2 with | true => visL ks T | false => some (false, T)) else none
noncomputable def visL : List Node → Todo → Option (Bool × Todo)
  | [], T => some (true, T)
  | k :: ks, T => match vis k T with
    | none => none
    | some r => match r.1 with
      | true => visL ks r.2
      | false => some (false, r.2)
end
theorem vis_eq (n : Node) (q : List AV × Bool) (T : Todo) {r : Bool × Todo} (h : vis n (q :: T) = some r) : q.1 = [.agg n.cells] ∧ (match q.2 with | true => visL n.kids T | false => some (false, T)) = some r := by
 cases n
 simp only [vis] at h
 split at h
 · rename_i hq; exact ⟨hq, h⟩
 · cases h
def H74 : Nat → Hint
 | 0 => ⟨[1,12,13,14], [1], []⟩
 | _ => ⟨[], [1,12,13,14], []⟩
attribute [local push_cast] ty3 ty4 ty9 ty22 ty24 H74
abbrev VS := Nat × Todo
abbrev VR := Option (Nat × Node) × Todo
noncomputable def vstep (s : VS) (k : Node) : Sum VS VR :=
 match vis k s.2 with
 | some (true, s') => .inl (s.1 + 1, s')
 | some (false, s') => .inr (some (s.1, k), s')
 | none => .inr (none, s.2)
def vfin (s : VS) : VR := (none, s.2)
theorem vfold : ∀ (l : List Node) (i : Nat) (T : Todo) (r : Bool × Todo), visL l T = some r → (∃ T', foldX vstep vfin l (i, T) = (none, T') ∧ r = (true, T')) ∨ (∃ j x T', foldX vstep vfin l (i, T) = (some (j, x), T') ∧ r = (false, T'))
 | [], i, T, r, h => by
   simp only [visL] at h
   injection h with h
   exact .inl ⟨T, rfl, h.symm⟩
 | k :: ks, i, T, r, h => by
   simp only [visL] at h
   cases hv : vis k T with
   | none => rw [hv] at h; cases h
   | some q =>
     obtain ⟨b, T'⟩ := q
     rw [hv] at h
     cases b with
     | true =>
       have := vfold ks (i + 1) T' r h
       simp only [foldX, vstep, hv]
       exact this
     | false =>
       injection h with h
       exact .inr ⟨i, k, T', by simp only [foldX, vstep, hv], h.symm⟩
def vout (P : Program) (n : Node) (q : VR) : ARes :=
 match q.1 with
 | none => ⟨.exit 0, [.top, .yfn P, .top, .top, .top, .top, .top, .top, .top, .top, .top, .top, .sl false 5 (List.map Node.cells n.kids), .int .i64 (n.kids.length : Int), .int .i64 (n.kids.length : Int), .bool false, .top, .top, .top, .top, .top, .top, .top], [.guest q.2, .var n.cells]⟩
 | some p => ⟨.ret, [.top, .yfn P, .top, .top, .bool false, .top, .ptr 2 0, .top, .top, .top, .top, .top, .sl false 5 (List.map Node.cells n.kids), .int .i64 (n.kids.length : Int), .int .i64 (p.1 : Int), .bool true, .cref p.2.cells, .agg p.2.cells, .agg p.2.cells, .yfn P, .bool false, .bool true, .top], [.guest q.2, .var n.cells, .var p.2.cells]⟩
def vstore (n : Node) (q : VR) : Store :=
 match q.1 with
 | none => [.var n.cells]
 | some p => [.var n.cells, .var p.2.cells]
theorem ev74 {E : Env} {N : Nat} (hty : E.ty = tys) (hal : E.ali = noAli) (h1 : E.n0 = 1) (n : Node) (T : Todo) (r : Bool × Todo) (hr : vis n T = some r) (hN : n.kids.length < N) (hlen : n.kids.length < 4611686018427387904)
   (htab : ∀ k ∈ n.kids, ∀ T b T' rest, vis k T = some (b, T') → E.tab 74 [.agg k.cells, .yfn E.P] (.guest T :: rest) = some (.bool b, .guest T' :: rest)) :
   ∃ σ', aFn E Proofs.Tryz.f74 H74 N [.agg n.cells, .yfn E.P] [.guest T] = some ([.bool r.1], .guest r.2 :: σ') := by
 cases T with
 | nil => cases n; simp [vis] at hr
 | cons q T =>
   obtain ⟨x, b⟩ := q
   obtain ⟨hq, hr2⟩ := vis_eq n (x, b) T hr
   simp only at hq hr2
   subst hq
   refine ⟨match b with | true => vstore n (foldX vstep vfin n.kids (0, T)) | false => [.var n.cells], ?_⟩
   show run (aFn E Proofs.Tryz.f74 H74 N [.agg n.cells, .yfn E.P] [.guest (([.agg n.cells], b) :: T)]) = _
   unfold aFn
   cases b with
   | false =>
     injection hr2 with hr2
     subst hr2
     simp only [push_cast, hty, hal, h1, Proofs.Tryz.f74, reduceCtorEq, Nat.reduceEqDiff, Nat.reduceAdd, Nat.reduceLeDiff, Nat.reduceMul, Nat.reduceSub, List.contains_cons, List.contains_nil, Nat.reduceBEq, Nat.reduceLT]
   | true =>
     simp only [push_cast, hty, hal, h1, Proofs.Tryz.f74, reduceCtorEq, Nat.reduceEqDiff, Nat.reduceAdd, Nat.reduceLeDiff, Nat.reduceMul, Nat.reduceSub, List.contains_cons, List.contains_nil, Nat.reduceBEq, Nat.reduceLT]
     simp only [bindO_assoc]
     refine at1 (loop_list (S := VS) (R := VR) n.kids (fun i _ => [.top, .yfn E.P, .top, .top, .top, .top, .top, .top, .top, .top, .top, .top, .sl false 5 (List.map Node.cells n.kids), .int .i64 ((List.map Node.cells n.kids).length : Int), .int .i64 (i : Int), .top, .top, .top, .top, .top, .top, .top, .top])
       (fun _ s => [.guest s.2, .var n.cells]) (fun i s => s.1 = i ∧ visL (n.kids.drop i) s.2 = some r) vstep vfin (vout E.P n) (0, T) hN ⟨rfl, hr2⟩ ?_ ?_) ?_
     · rintro i ⟨i', s⟩ x hx hi ⟨hi', hI⟩
       simp only at hi' hI
       subst hi'
       have hg : (List.map Node.cells n.kids).getD i' [] = x.cells := by rw [List.getD_eq_getElem?_getD, kids_get, hx]; rfl
       have hw2 : IntKind.i64.wrap ((i' : Int) + 1) = (i' : Int) + 1 := wrap_id (by omega)
       have hd : n.kids.drop i' = x :: n.kids.drop (i' + 1) := by
         obtain ⟨hi', e⟩ := List.getElem?_eq_some_iff.1 hx
         rw [List.drop_eq_getElem_cons hi', e]
       rw [hd] at hI
       simp only [visL] at hI
       cases hv : vis x s with
       | none => rw [hv] at hI; cases hI
       | some q =>
         rw [hv] at hI
         obtain ⟨b, s'⟩ := q
         have ht := fun rest => htab x (List.mem_of_getElem? hx) s b s' rest hv
         cases b with
         | true =>
           refine ⟨?_, fun s2 h => ?_⟩
           · simp only [round, push_cast, hty, hal, h1, reduceCtorEq, Nat.reduceEqDiff, Nat.reduceAdd, Nat.reduceLeDiff, Nat.reduceMul, Nat.reduceSub, List.contains_cons, List.contains_nil, Nat.reduceBEq, Nat.reduceLT, List.length_map, lt_true hi, inB_lt hi, hg, ht, hw2, nextX, vstep, hv]
           · simp only [vstep, hv] at h
             injection h with h
             subst h
             exact ⟨rfl, hI⟩
         | false =>
           refine ⟨?_, fun s2 h => by simp only [vstep, hv] at h; cases h⟩
           simp only [round, push_cast, hty, hal, h1, reduceCtorEq, Nat.reduceEqDiff, Nat.reduceAdd, Nat.reduceLeDiff, Nat.reduceMul, Nat.reduceSub, List.contains_cons, List.contains_nil, Nat.reduceBEq, Nat.reduceLT, List.length_map, lt_true hi, inB_lt hi, hg, ht, hw2, nextX, vstep, hv, vout]
     · rintro ⟨i, s⟩ hI
       simp only [round, push_cast, hty, hal, h1, reduceCtorEq, Nat.reduceEqDiff, Nat.reduceAdd, Nat.reduceLeDiff, Nat.reduceMul, Nat.reduceSub, List.contains_cons, List.contains_nil, Nat.reduceBEq, Nat.reduceLT, List.length_map, lt_self, vout, vfin]
     · rcases vfold n.kids 0 T r hr2 with ⟨T', hq, hrr⟩ | ⟨j, x, T', hq, hrr⟩
       · rw [hq, hrr]
         simp only [vout, vstore, push_cast, hty, hal, h1, reduceCtorEq, Nat.reduceEqDiff, Nat.reduceAdd, Nat.reduceLeDiff, Nat.reduceMul, Nat.reduceSub, List.contains_cons, List.contains_nil, Nat.reduceBEq, Nat.reduceLT]
       · rw [hq, hrr]
         simp only [vout, vstore, push_cast, hty, hal, h1, reduceCtorEq, Nat.reduceEqDiff, Nat.reduceAdd, Nat.reduceLeDiff, Nat.reduceMul, Nat.reduceSub, List.contains_cons, List.contains_nil, Nat.reduceBEq, Nat.reduceLT]
noncomputable def gent74 : GEnt := ⟨74, Node, fun n => [.agg n.cells], fun n T => (vis n T).map fun r => (.bool r.1, r.2), fun x y h => by
 have h : [AV.agg x.cells] = [AV.agg y.cells] := h
 injection h with h; injection h with h; rw [Node.cells_inj x y h]⟩
theorem g74 : ∀ (m : Nat) (n : Node), n.size ≤ m → n.size < 4611686018427387904 → ∀ (T : Todo) (b : Bool) (T' : Todo), vis n T = some (b, T') → GuestOk Proofs.Tryz.prog 74 [.agg n.cells, .yfn Proofs.Tryz.prog] T (.bool b) T'
 | 0, n, h, _, _, _, _, _ => absurd (size_pos n) (by omega)
 | m + 1, n, h, hb, T, b, T', hv => by
   have hE := mkG_ok (P := Proofs.Tryz.prog) (n0 := 1) (e := gent74) tys_ok eqn_ok
   obtain ⟨σ', hev⟩ := ev74 (E := mkG Proofs.Tryz.prog 1 tys eqn gent74) (N := n.kids.length + 1) rfl rfl rfl n T (b, T') hv (Nat.lt_succ_self _) (by have := kids_len n; omega) fun k hk T2 b2 T2' rest hv2 => by
     have := kids_size hk
     exact tabG_hit (e := gent74) k (by show (vis k T2).map _ = _; rw [hv2]; rfl) (by show gArgs [AV.agg k.cells, .yfn Proofs.Tryz.prog] = true; simp only [gArgs, push_cast]) (g74 m k (by omega) (by omega) T2 b2 T2' hv2) rest
   exact guest_of hE mkG_seq rfl (chk := noDraw) noDraw_ok Proofs.Tryz.func74 (c := Proofs.Tryz.f74.body.get rfl) rfl (by decide) (by kernel_rfl) hev rfl
attribute [local push_cast] ty3 ty4 ty9 ty22 ty24
def H73 : Nat → Hint := fun _ => ⟨[], [], []⟩
theorem ev73 {E : Env} (hty : E.ty = tys) (hal : E.ali = noAli) (_h1 : E.n0 = 1) (n : Node) (T : Todo) (r : Bool × Todo) (htab : E.tab 74 [.agg n.cells, .yfn E.P] [.guest T] = some (.bool r.1, [.guest r.2])) :
   aFn E Proofs.Tryz.f73 H73 0 [.yfn E.P, .cref n.cells] [.guest T] = some ([], [.guest r.2]) := by
 show run (aFn E Proofs.Tryz.f73 H73 0 [.yfn E.P, .cref n.cells] [.guest T]) = _
 unfold aFn
 simp only [push_cast, hty, hal, _h1, Proofs.Tryz.f73, htab, reduceCtorEq, Nat.reduceEqDiff, Nat.reduceAdd, Nat.reduceLeDiff, Nat.reduceMul, Nat.reduceSub, List.contains_cons, List.contains_nil, Nat.reduceBEq, Nat.reduceLT]
mutual
def pre : Node → List (List AV)
  | ⟨o, s, nm, nu, ks⟩ => [.agg (Node.cells ⟨o, s, nm, nu, ks⟩)] :: preL ks
def preL : List Node → List (List AV)
  | [] => []
  | k :: ks => pre k ++ preL ks
end
mutual
theorem fits_vis : ∀ (n : Node) (rest : List (List AV)) (T : Todo), Fits (pre n ++ rest) T → (∃ T', vis n T = some (true, T') ∧ Fits rest T') ∨ vis n T = some (false, [])
  | ⟨o, s, nm, nu, ks⟩, rest, T, h => by
    simp only [pre, List.cons_append, Fits] at h
    rcases h with ⟨T', rfl, h⟩ | rfl
    · have := fits_visL ks rest T' h
      simpa only [vis, if_true] using this
    · exact .inr (by simp only [vis, if_true])
theorem fits_visL : ∀ (ks : List Node) (rest : List (List AV)) (T : Todo), Fits (preL ks ++ rest) T → (∃ T', visL ks T = some (true, T') ∧ Fits rest T') ∨ visL ks T = some (false, [])
  | [], rest, T, h => .inl ⟨T, by simp only [visL], by simpa only [preL, List.nil_append] using h⟩
  | k :: ks, rest, T, h => by
    simp only [preL, List.append_assoc] at h
    rcases fits_vis k (preL ks ++ rest) T h with ⟨T', h1, h2⟩ | h1
    · rcases fits_visL ks rest T' h2 with ⟨T2, h3, h4⟩ | h3
      · exact .inl ⟨T2, by simp only [visL, h1, h3], h4⟩
      · exact .inr (by simp only [visL, h1, h3])
    · exact .inr (by simp only [visL, h1])
end
theorem fits_all (n : Node) (T : Todo) (h : Fits (pre n) T) : ∃ b, vis n T = some (b, []) := by
 rcases fits_vis n [] T (by rw [List.append_nil]; exact h) with ⟨T', h1, h2⟩ | h1
 · have h2 : T' = [] := h2
   exact ⟨true, by rw [h1, h2]⟩
 · exact ⟨false, h1⟩
theorem seq73 (n : Node) (hn : n.size < 4611686018427387904) : SeqOk Proofs.Tryz.prog (.fn 73 [.cref n.cells]) (pre n) := by
 rintro g m val ⟨vs, rfl, hr⟩
 have henter := callFunc_enter (P := Proofs.Tryz.prog) Proofs.Tryz.func73 (c := Proofs.Tryz.f73.body.get rfl) rfl (by decide)
 refine ⟨73, vs.toArray, rfl, henter, fun G T F C W hP hy hfits hrel hC => ?_⟩
 obtain ⟨b, hv⟩ := fits_all n T hfits
 have hE := mkG_ok (P := Proofs.Tryz.prog) (n0 := 1) (e := gent74) tys_ok eqn_ok
 have hev := ev73 (E := mkG Proofs.Tryz.prog 1 tys eqn gent74) rfl rfl rfl n T (b, []) (tabG_hit (e := gent74) n (by show (vis n T).map _ = _; rw [hv]; rfl) (by show gArgs [AV.agg n.cells, .yfn Proofs.Tryz.prog] = true; simp only [gArgs, push_cast])
   (g74 n.size n (Nat.le_refl _) hn T b [] hv) [])
 have hg := guest_of hE mkG_seq rfl (chk := noDraw) noDraw_ok Proofs.Tryz.func73 (c := Proofs.Tryz.f73.body.get rfl) rfl (by decide) (by kernel_rfl) hev rfl
 obtain ⟨v, vs', rfl, h1, h2⟩ := hr
 have h2 : vs' = [] := h2
 subst h2
 have hargs : Reps (ghostG G F C W) [.yfn Proofs.Tryz.prog, .cref n.cells] 1 [.func (.yield G.l) #[] #[], v] :=
   ⟨_, _, rfl, ⟨Nat.one_pos, hP, rfl⟩, v, [], rfl, Rep.data (g := g) (g' := ghostG G F C W) hC (.cref n.cells) 1 v h1, rfl⟩
 refine ((hg G F C W _ hP hy hrel hargs).calls (henter _ _)).mono ?_
 rintro e W' ⟨u, rfl, u', hu, F', C', _, h3, _⟩
 exact ⟨u, rfl, F', C', h3⟩
attribute [local push_cast] ty3 ty4 ty9 ty22 ty24 ty70 ty49
def H0 : Nat → Hint := fun _ => ⟨[], [], []⟩
theorem ev46 {E : Env} (hty : E.ty = tys) (hal : E.ali = noAli) (_h0 : E.n0 = 0) (n : Node) : aPure E Proofs.Tryz.f46 H0 0 [.agg n.cells] = some (.fn 73 [.cref n.cells]) := by
 rw [r_pure]
 simp only [push_cast, hty, hal, _h0, Proofs.Tryz.f46, reduceCtorEq, Nat.reduceEqDiff, Nat.reduceAdd, Nat.reduceLeDiff, Nat.reduceMul, Nat.reduceSub, List.contains_cons, List.contains_nil, Nat.reduceBEq, Nat.reduceLT]
theorem c46 (n : Node) : Pure Proofs.Tryz.prog 46 [.agg n.cells] (.fn 73 [.cref n.cells]) :=
 pure_of (ty := tys) (eqt := eqn) (l := []) (s := []) tys_ok eqn_ok follows Proofs.Tryz.func46 (c := Proofs.Tryz.f46.body.get rfl) rfl (by decide) (by kernel_rfl) (H := H0) (N := 0) (ev46 rfl rfl rfl n) (by simp only [push_cast])
mutual
def nodes : Node → List Node
  | ⟨o, s, nm, nu, ks⟩ => ⟨o, s, nm, nu, ks⟩ :: nodesL ks
def nodesL : List Node → List Node
  | [] => []
  | k :: ks => nodes k ++ nodesL ks
end
mutual
theorem pre_nodes : ∀ n : Node, pre n = (nodes n).map fun k => [AV.agg k.cells]
  | ⟨o, s, nm, nu, ks⟩ => by simp only [pre, nodes, List.map_cons, preL_nodes ks]
theorem preL_nodes : ∀ ks : List Node, preL ks = (nodesL ks).map fun k => [AV.agg k.cells]
  | [] => rfl
  | k :: ks => by simp only [preL, nodesL, List.map_append, pre_nodes k, preL_nodes ks]
end
mutual
theorem nodes_len : ∀ n : Node, (nodes n).length = n.size
  | ⟨o, s, nm, nu, ks⟩ => by rw [Node.size_eq]; simp only [nodes, List.length_cons, nodesL_len ks]; omega
theorem nodesL_len : ∀ ks : List Node, (nodesL ks).length = (ks.map Node.size).sum
  | [] => rfl
  | k :: ks => by simp only [nodesL, List.length_append, nodes_len k, nodesL_len ks, List.map_cons, List.sum_cons]
end
end Go.Abs.Try
