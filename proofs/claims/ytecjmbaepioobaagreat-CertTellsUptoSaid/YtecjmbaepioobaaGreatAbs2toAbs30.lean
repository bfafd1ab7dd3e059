import Derived.Test.YtecjmbaepioobaaGreatAbs1toAbs5
import Derived.Test.YtecjmbaepioobaaGreatAbs24stoAbs25
set_option linter.unusedSimpArgs false
set_option linter.unusedVariables false
namespace Go.Abs
def run {α : Type} (x : Option α) : Option α := x
section
variable {α β : Type} {E : Env} {H : Nat → Hint} {N c : Nat} {fr : Fr} {σ : Store} {b f : Bool} {k : IntKind} {n : Int} {s : ByteArray} {sz : Nat} {es : List (List AV)}
@[push_cast] theorem r_some (a : α) : run (some a) = some a := rfl
@[push_cast] theorem r_bind (a : α) (f : α → Option β) : bindO (some a) f = run (f a) := rfl
@[push_cast] theorem r_bind2 (x : Option α) (f : α → Option β) : run (bindO x f) = bindO (run x) f := rfl
@[push_cast] theorem r_run (x : Option α) : run (run x) = run x := rfl
@[push_cast] theorem r_none : run (none : Option α) = none := rfl
@[push_cast] theorem r_true (x y : Option α) : run (iteO true x y) = run x := rfl
@[push_cast] theorem r_false (x y : Option α) : run (iteO false x y) = run y := rfl
@[push_cast] theorem b_true (x y : Option α) (f : α → Option β) : bindO (iteO true x y) f = bindO (run x) f := rfl
@[push_cast] theorem b_false (x y : Option α) (f : α → Option β) : bindO (iteO false x y) f = bindO (run y) f := rfl
attribute [push_cast] decide_true decide_false List.getD_cons_zero List.getD_cons_succ List.set_cons_zero List.set_cons_succ List.getElem?_cons_zero List.getElem?_cons_succ
 List.nil_append List.cons_append List.length_cons List.length_nil List.length_append List.append_nil AV.leaf allLeaf Nat.zero_add List.drop_zero List.drop_succ_cons List.take_succ_cons List.take_zero List.map_cons List.map_nil
 Bool.true_and Bool.and_true Bool.false_and Bool.and_false Bool.true_or Bool.or_true Bool.false_or Bool.or_false Bool.not_true Bool.not_false Option.isNone_none Option.isNone_some Option.isSome_some Option.isSome_none Option.getD_some Option.getD_none
 Int.toNat_natCast List.replicate List.take_nil List.drop_nil
@[push_cast] theorem r_skip : run (aev E H N c .skip fr σ) = some ⟨.normal, fr, σ⟩ := rfl
@[push_cast] theorem r_region (id : Nat) (ops : Array Oper) : run (aev E H N c (.region id ops false) fr σ) = aliB (E.ali id) (run (aOps E ops ops.toList fr σ)) := rfl
@[push_cast] theorem r_regionT (id : Nat) (ops : Array Oper) : run (aev E H N c (.region id ops true) fr σ) = run (aRegS E (E.ali id) ops fr σ (slotsOf (E.ali id))) := rfl
@[push_cast] theorem r_regS0 (l : List (Nat × Nat)) (ops : Array Oper) : run (aRegS E l ops fr σ []) = aliB l (run (aOps E ops ops.toList fr σ)) := rfl
@[push_cast] theorem r_regS1 (l : List (Nat × Nat)) (ops : Array Oper) (d : Nat) (D : List Nat) : run (aRegS E l ops fr σ (d :: D)) = aliB (pairsOf l) (run (bindO (opsSl E ops (d :: D) ops.toList (clearD (d :: D) fr) σ (List.replicate (d :: D).length none)) fun q => bindO (slotsAll q.2.2) fun os => some ⟨.normal, setD (d :: D) q.2.1.length q.1, q.2.1 ++ os⟩)) := rfl
@[push_cast] theorem r_opsSl0 (ops : Array Oper) (D : List Nat) (sl : Slots) : run (opsSl E ops D [] fr σ sl) = some (fr, σ, sl) := rfl
@[push_cast] theorem r_opsSl1 (ops : Array Oper) (D : List Nat) (sl : Slots) (dst : Option Tmp) (op : Op) (ty : TypeId) (pos : String) (after : Array Edge) (gd : Option (Nat × Bool)) (os : List Oper) :
   run (opsSl E ops D (⟨dst, op, ty, pos, after, gd⟩ :: os) fr σ sl) = bindO (run (stepSl E ops ⟨dst, op, ty, pos, after, gd⟩ fr σ sl (slotAct D dst op))) fun q => opsSl E ops D os q.1 q.2.1 q.2.2 := rfl
@[push_cast] theorem r_stepSl1 (ops : Array Oper) (sl : Slots) (o : Oper) (j d t : Nat) : run (stepSl E ops o fr σ sl (.al j d t)) = bindO (run (slotNew E fr sl j d t)) fun s => some (fr, σ, s) := rfl
@[push_cast] theorem r_stepSl2 (ops : Array Oper) (sl : Slots) (o : Oper) (j d t : Nat) (v : Operand) : run (stepSl E ops o fr σ sl (.st j d t v)) = bindO (run (slotPut E fr sl j d t (evalO fr v))) fun s => some (fr, σ, s) := rfl
@[push_cast] theorem r_stepSl3 (ops : Array Oper) (sl : Slots) (dst : Option Tmp) (op : Op) (ty : TypeId) (pos : String) (after : Array Edge) : run (stepSl E ops ⟨dst, op, ty, pos, after, none⟩ fr σ sl .no) = bindO (run (aOp E fr σ ty op)) fun p => some (setT fr dst p.1, p.2, sl) := rfl
@[push_cast] theorem r_stepSl4 (ops : Array Oper) (sl : Slots) (dst : Option Tmp) (op : Op) (ty : TypeId) (pos : String) (after : Array Edge) (gd : Nat × Bool) : run (stepSl E ops ⟨dst, op, ty, pos, after, some gd⟩ fr σ sl .no) = bindO (run (wants ops fr (some gd))) fun b => iteO b (bindO (aOp E fr σ ty op) fun p => some (setT fr dst p.1, p.2, sl)) (some (setT fr dst (.tuple []), σ, sl)) := rfl
@[push_cast] theorem r_slotNew (sl : Slots) (j d t : Nat) : run (slotNew E fr sl j d t) = bindO (E.ty t) fun ti => bindO fr[d]? fun _ => newIn sl j ti.zero sl[j]? := rfl
@[push_cast] theorem r_newIn (sl : Slots) (j : Nat) (z : List AV) : run (newIn sl j z (some none)) = some (sl.set j (some z)) := rfl
@[push_cast] theorem r_slotPut (sl : Slots) (j d t : Nat) (v : AV) : run (slotPut E fr sl j d t v) = bindO (E.ty t) fun ti => bindO (cellsOf v) fun us => bindO fr[d]? fun _ => putIn sl j ti.size us sl[j]? := rfl
@[push_cast] theorem r_putIn (sl : Slots) (j sz : Nat) (us cs : List AV) : run (putIn sl j sz us (some (some cs))) = iteO (decide (us.length = sz) && decide (us.length = cs.length)) (some (sl.set j (some us))) none := rfl
@[push_cast] theorem r_slotsAll0 : run (slotsAll []) = some [] := rfl
@[push_cast] theorem r_slotsAll1 (cs : List AV) (r : Slots) : run (slotsAll (some cs :: r)) = bindO (run (slotsAll r)) fun s => some (.var cs :: s) := rfl
attribute [push_cast] slotAct actAl actSt slotIx slotsOf pairsOf clearD setD
@[push_cast] theorem noAli_eq (id : Nat) : noAli id = [] := rfl
@[push_cast] theorem aliB_nil (x : Option ARes) : aliB [] x = x := by cases x <;> rfl
@[push_cast] theorem aliB_cons (q : Nat × Nat) (l : List (Nat × Nat)) (r : ARes) : aliB (q :: l) (some r) = iteO (aliP q r.fr && aliF l r.fr) (some r) none := rfl
@[push_cast] theorem aliB_bind {α : Type} (l : List (Nat × Nat)) (x : Option α) (f : α → Option ARes) : aliB l (bindO x f) = bindO x fun a => aliB l (f a) := by cases x <;> rfl
@[push_cast] theorem aliB_ite (l : List (Nat × Nat)) (b : Bool) (x y : Option ARes) : aliB l (iteO b x y) = iteO b (aliB l x) (aliB l y) := by cases b <;> rfl
@[push_cast] theorem aliB_none (l : List (Nat × Nat)) : aliB l none = none := rfl
@[push_cast] theorem r_aliB_ite (l : List (Nat × Nat)) (b : Bool) (x y : Option ARes) : aliB l (run (iteO b x y)) = run (iteO b (aliB l x) (aliB l y)) := by cases b <;> rfl
@[push_cast] theorem r_aliB_bind {α : Type} (l : List (Nat × Nat)) (x : Option α) (f : α → Option ARes) : aliB l (run (bindO x f)) = run (bindO x fun a => aliB l (f a)) := by cases x <;> rfl
@[push_cast] theorem r_aliB (l : List (Nat × Nat)) (x : Option ARes) : run (aliB l x) = aliB l (run x) := rfl
@[push_cast] theorem aliF_nil (fr : Fr) : aliF [] fr = true := rfl
@[push_cast] theorem aliF_cons (q : Nat × Nat) (l : List (Nat × Nat)) (fr : Fr) : aliF (q :: l) fr = (aliP q fr && aliF l fr) := rfl
@[push_cast] theorem aliP_eq (a b : Nat) (fr : Fr) : aliP (a, b) fr = match decide (a = b) with | true => isRd (fr.getD a .top) | false => aliV (fr.getD a .top) (fr.getD b .top) := rfl
@[push_cast] theorem isRd_ptr (i o : Nat) : isRd (.ptr i o) = true := rfl
@[push_cast] theorem isRd_sl (f : Bool) (n : Nat) (es : List (List AV)) : isRd (.sl f n es) = true := rfl
@[push_cast] theorem isRd_cref (cs : List AV) : isRd (.cref cs) = true := rfl
@[push_cast] theorem isRd_str (s : ByteArray) : isRd (.str s) = true := rfl
@[push_cast] theorem isRd_int (k : IntKind) (n : Int) : isRd (.int k n) = true := rfl
@[push_cast] theorem isRd_bool (b : Bool) : isRd (.bool b) = true := rfl
@[push_cast] theorem isRd_agg (cs : List AV) : isRd (.agg cs) = allDataL cs := rfl
@[push_cast] theorem isRd_tup (cs : List AV) : isRd (.tuple cs) = allDataL cs := rfl
@[push_cast] theorem aliV_pp (i j a b : Nat) : aliV (.ptr i a) (.ptr j b) = !(i == j) := rfl
@[push_cast] theorem r_seq (a b : Code) : run (aev E H N c (.seq a b) fr σ) = bindO (run (aev E H N c a fr σ)) fun r => thenO r fun fr' σ' => aev E H N c b fr' σ' := rfl
@[push_cast] theorem r_cond (x : Operand) (a b : Code) : run (aev E H N c (.cond x a b) fr σ) = bindO (asB (evalO fr x)) fun t => iteO t (aev E H N c a fr σ) (aev E H N c b fr σ) := rfl
@[push_cast] theorem r_block (id : Nat) (b : Code) : run (aev E H N c (.block id b) fr σ) = bindO (run (aev E H N id b fr σ)) (caught (H id).behind id) := rfl
@[push_cast] theorem r_loop (b : Code) : run (aev E H N c (.loop b) fr σ) = bindO (run (aFix (H c).fix fr σ)) fun q => aLoop E.n0 (aev E H N c b) (H c).head q.2.length N (keepFr E.n0 q.2.length q.2 (H c).head 0 q.1) (keepSl E.n0 q.2.length (H c).head q.2) := rfl
@[push_cast] theorem r_fix0 : run (aFix [] fr σ) = some (fr, σ) := rfl
@[push_cast] theorem r_fix1 (x : Fix) (l : List Fix) : run (aFix (x :: l) fr σ) = bindO (run (aFix1 fr σ x)) fun p => aFix l p.1 p.2 := rfl
@[push_cast] theorem r_fix2 (t sz : Nat) : run (aFix1 fr σ (.own t sz)) = bindO (nilSl (fr.getD t .top)) fun _ => some (fr.set t (.rs σ.length 0), σ ++ [.row sz 0 []]) := rfl
@[push_cast] theorem r_fix3 (id off sz : Nat) : run (aFix1 fr σ (.ownS id off sz)) = bindO (objVar σ[id]?) fun cs => bindO (nilSl (cs.getD off .top)) fun _ => some (fr, σ.set id (.var (cs.set off (.rs σ.length 0))) ++ [.row sz 0 []]) := rfl
@[push_cast] theorem r_fix4 (t : Nat) : run (aFix1 fr σ (.frz t)) = bindO (run (freeze σ (fr.getD t .top))) fun p => some (fr.set t p.1, p.2) := rfl
@[push_cast] theorem r_fix6 (t sz : Nat) : run (aFix1 fr σ (.app t sz)) = bindO (run (toApp σ sz (fr.getD t .top))) fun p => some (fr.set t p.1, p.2) := rfl
@[push_cast] theorem r_fix7 (id off sz : Nat) : run (aFix1 fr σ (.appS id off sz)) = bindO (objVar σ[id]?) fun cs => bindO (toApp σ sz (cs.getD off .top)) fun p => bindO (objVar p.2[id]?) fun cs2 => some (fr, p.2.set id (.var (cs2.set off p.1))) := rfl
@[push_cast] theorem reAp_row (id ver sz : Nat) (es xs : List (List AV)) (a b : Nat) (c : List (List AV)) : reAp σ id ver sz es xs (some (.row a b c)) = (.rs id (ver + 1), σ.set id (.row sz (ver + 1) (es ++ xs))) := rfl
@[push_cast] theorem reAp_app0 (id ver sz : Nat) (es : List (List AV)) (a b : Nat) (c : List (List AV)) : reAp σ id ver sz es [] (some (.app a b c)) = (.rs id ver, σ) := rfl
@[push_cast] theorem reAp_app1 (id ver sz : Nat) (es : List (List AV)) (x : List AV) (xs : List (List AV)) (a b : Nat) (c : List (List AV)) : reAp σ id ver sz es (x :: xs) (some (.app a b c)) = (.rs id (ver + 1), σ.set id (.app sz (ver + 1) (es ++ (x :: xs)))) := rfl
@[push_cast] theorem reAp_map {α : Type} (id ver sz : Nat) (es : List (List AV)) (f : α → List AV) (l : List α) (a b : Nat) (c : List (List AV)) : some (reAp σ id ver sz es (List.map f l) (some (.app a b c))) = iteO l.isEmpty (some (.rs id ver, σ)) (some (.rs id (ver + 1), σ.set id (.app sz (ver + 1) (es ++ List.map f l)))) := by cases l <;> rfl
@[push_cast] theorem apOf_row (id ver sz : Nat) (es : List (List AV)) (a b : Nat) (c : List (List AV)) : apOf σ id ver sz es (some (.row a b c)) = (.rs id (ver + 1), σ.set id (.app sz (ver + 1) es)) := rfl
@[push_cast] theorem apOf_app (id ver sz : Nat) (es : List (List AV)) (a b : Nat) (c : List (List AV)) : apOf σ id ver sz es (some (.app a b c)) = (.rs id ver, σ) := rfl
@[push_cast] theorem r_toApp1 (sz s : Nat) (es : List (List AV)) : run (toApp σ sz (.sl true s es)) = run (iteO (decide (s = sz) || es.isEmpty) (some (.rs σ.length 1, σ ++ [.app sz 1 es])) none) := rfl
@[push_cast] theorem r_toApp2 (sz id ver : Nat) : run (toApp σ sz (.rs id ver)) = bindO (curA σ id ver) fun p => iteO (decide (p.1 = sz)) (some (apOf σ id ver sz p.2 σ[id]?)) none := rfl
@[push_cast] theorem r_fix5 (id off : Nat) : run (aFix1 fr σ (.frzS id off)) = bindO (objVar σ[id]?) fun cs => bindO (freezeL σ (cs.getD off .top)) fun p => bindO (objVar p.2[id]?) fun cs2 => some (fr, p.2.set id (.var (cs2.set off p.1))) := rfl
@[push_cast] theorem r_nilSl (sz : Nat) : nilSl (.sl true sz []) = some () := rfl
@[push_cast] theorem r_exit (id : Nat) : run (aev E H N c (.exit id) fr σ) = some ⟨.exit id, fr, σ⟩ := rfl
@[push_cast] theorem r_ret : run (aev E H N c .ret fr σ) = some ⟨.ret, fr, σ⟩ := rfl
@[push_cast] theorem r_then1 (f : Fr → Store → Option ARes) : run (thenO ⟨.normal, fr, σ⟩ f) = run (f fr σ) := rfl
@[push_cast] theorem r_then2 (f : Fr → Store → Option ARes) (j : Nat) : run (thenO ⟨.exit j, fr, σ⟩ f) = some ⟨.exit j, fr, σ⟩ := rfl
@[push_cast] theorem r_then3 (f : Fr → Store → Option ARes) : run (thenO ⟨.ret, fr, σ⟩ f) = some ⟨.ret, fr, σ⟩ := rfl
@[push_cast] theorem r_caught1 (ks : List Nat) (id : Nat) : run (caught ks id ⟨.normal, fr, σ⟩) = some ⟨.normal, dropFr ks 0 fr, σ⟩ := rfl
@[push_cast] theorem r_caught2 (ks : List Nat) (id j : Nat) : run (caught ks id ⟨.exit j, fr, σ⟩) = run (iteO (decide (j = id)) (some ⟨.normal, dropFr ks 0 fr, σ⟩) (some ⟨.exit j, fr, σ⟩)) := rfl
@[push_cast] theorem r_caught3 (ks : List Nat) (id : Nat) : run (caught ks id ⟨.ret, fr, σ⟩) = some ⟨.ret, fr, σ⟩ := rfl
@[push_cast] theorem r_ops0 (ops : Array Oper) : run (aOps E ops [] fr σ) = some ⟨.normal, fr, σ⟩ := rfl
@[push_cast] theorem r_ops1 (ops : Array Oper) (dst : Option Tmp) (op : Op) (ty : TypeId) (pos : String) (after : Array Edge) (os : List Oper) :
   run (aOps E ops (⟨dst, op, ty, pos, after, none⟩ :: os) fr σ) = bindO (run (aOp E fr σ ty op)) fun p => aOps E ops os (setT fr dst p.1) p.2 := rfl
@[push_cast] theorem r_ops2 (ops : Array Oper) (dst : Option Tmp) (op : Op) (ty : TypeId) (pos : String) (after : Array Edge) (g : Nat × Bool) (os : List Oper) :
   run (aOps E ops (⟨dst, op, ty, pos, after, some g⟩ :: os) fr σ) = bindO (run (wants ops fr (some g))) fun b =>
   iteO b (bindO (aOp E fr σ ty op) fun p => aOps E ops os (setT fr dst p.1) p.2) (aOps E ops os (setT fr dst (.tuple [])) σ) := rfl
def dstAt : Option Oper → Option Tmp
 | some o => o.dst
 | none => none
@[push_cast] theorem dstAt_some (dst : Option Tmp) (op : Op) (ty : TypeId) (pos : String) (after : Array Edge) (g : Option (Nat × Bool)) : dstAt (some ⟨dst, op, ty, pos, after, g⟩) = dst := rfl
@[push_cast] theorem r_wants (ops : Array Oper) (j : Nat) (w : Bool) : run (wants ops fr (some (j, w))) = bindO (dstAt ops.toList[j]?) fun t => asG w (fr.getD t .top) := by
 have : dstAt ops.toList[j]? = (ops[j]?).bind (·.dst) := by
   rw [Array.getElem?_toList]
   cases ops[j]? <;> rfl
 rw [this]; rfl
@[push_cast] theorem asG_b (w b : Bool) : asG w (.bool b) = some (b == w) := rfl
@[push_cast] theorem asG_u (w : Bool) : asG w (.tuple []) = some false := rfl
attribute [push_cast] beq_true beq_false
attribute [push_cast] setT evalO evalOs evalPs ofValue ofLeaf asB keepFr keepFr0 looseFr AV.loose AV.looseL looseLs looseObj looseSt keepSl dropFr keepSt keepObjs AV.keep AV.keepL rowVer AObj.keep
@[push_cast] theorem r_move (ty : Nat) (x : Operand) : run (aOp E fr σ ty (.move x)) = some (evalO fr x, σ) := rfl
@[push_cast] theorem r_assign (ty : Nat) (x : Operand) : run (aOp E fr σ ty (.assign x)) = run (aAssign E fr σ ty x) := rfl
@[push_cast] theorem r_pick (ty : Nat) (c a b : Operand) : run (aOp E fr σ ty (.pick c a b)) = bindO (asB (evalO fr c)) fun c => iteO c (some (evalO fr a, σ)) (some (evalO fr b, σ)) := rfl
@[push_cast] theorem r_alloc (ty t : Nat) : run (aOp E fr σ ty (.alloc t)) = bindO (E.ty t) fun ti => newObj σ (.var ti.zero) (.ptr σ.length 0) := rfl
@[push_cast] theorem r_box (ty t : Nat) (x : Operand) : run (aOp E fr σ ty (.box t x)) = bindO (run (cellsOf (evalO fr x))) fun us => newObj σ (.var us) (.ptr σ.length 0) := rfl
@[push_cast] theorem r_build (ty t : Nat) (ps : Array (Nat × Operand)) : run (aOp E fr σ ty (.build t ps)) = bindO (E.ty t) fun ti => bindO (run (aggOk E ti.k)) fun _ => bindO (aBuildCells E ti.k (evalPs fr ps.toList) ti.zero) fun cs => some (.agg cs, σ) := rfl
@[push_cast] theorem r_buildSlice (ty t n : Nat) (ps : Array (Nat × Operand)) : run (aOp E fr σ ty (.buildSlice t n ps)) = run (aBuildSlice E fr σ t n ps) := rfl
@[push_cast] theorem r_load (ty t : Nat) (a : Operand) : run (aOp E fr σ ty (.load t a)) = bindO (run (aLoad E σ t (evalO fr a))) fun v => some (v, σ) := rfl
@[push_cast] theorem r_store (ty t : Nat) (a x : Operand) : run (aOp E fr σ ty (.store t a x)) = bindO (run (aStore E σ t (evalO fr a) (evalO fr x))) fun σ' => some (.top, σ') := rfl
@[push_cast] theorem r_nilCheck (ty : Nat) (x : Operand) : run (aOp E fr σ ty (.nilCheck x)) = bindO (run (aNilCheck (evalO fr x))) fun v => some (v, σ) := rfl
@[push_cast] theorem r_bin (ty t u : Nat) (op : BinOp) (x y : Operand) : run (aOp E fr σ ty (.binOp op t x y u)) = bindO (run (aBin E op t (evalO fr x) (evalO fr y))) fun v => some (v, σ) := rfl
@[push_cast] theorem r_un (ty t : Nat) (op : UnOp) (x : Operand) : run (aOp E fr σ ty (.unOp op t x)) = bindO (run (aUn op (evalO fr x))) fun v => some (v, σ) := rfl
@[push_cast] theorem r_conv (ty s d : Nat) (x : Operand) : run (aOp E fr σ ty (.convert s d x)) = bindO (run (aConvert E s d (evalO fr x))) fun v => some (v, σ) := rfl
@[push_cast] theorem r_makeFunc (ty : Nat) (f : Fn) (a cap : Array Operand) : run (aOp E fr σ ty (.makeFunc f a cap)) = bindO (fnFirst f a) fun f => some (.fn f (evalOs fr cap.toList), σ) := rfl
theorem r_makeMap (ty t : Nat) : run (aOp E fr σ ty (.makeMap t none)) = bindO (E.ty t) fun ti => bindO (tkMap ti.k) fun ke => bindO (E.ty ke.1) fun ki => newObj σ (.map ki.k fun _ => none) (.map σ.length) := rfl
@[push_cast] theorem r_makeSlice (ty t : Nat) (l c : Operand) : run (aOp E fr σ ty (.makeSlice t l c)) = run (aMakeSlice E fr σ t l c) := rfl
@[push_cast] theorem r_slice (ty t : Nat) (x : Operand) (lo hi mx : Option Operand) : run (aOp E fr σ ty (.slice t x lo hi mx)) = bindO (run (optI fr lo)) fun lo => bindO (optI fr hi) fun hi => bindO (optI fr mx) fun mx => aSlice E σ t (evalO fr x) lo hi mx := rfl
@[push_cast] theorem r_fieldAddr (ty s f : Nat) (x : Operand) : run (aOp E fr σ ty (.fieldAddr s x f)) = bindO (run (aFieldAddr E s (evalO fr x) f)) fun v => some (v, σ) := rfl
@[push_cast] theorem r_field (ty t f : Nat) (x : Operand) : run (aOp E fr σ ty (.field t x f)) = bindO (run (aField E t (evalO fr x) f)) fun v => some (v, σ) := rfl
@[push_cast] theorem r_indexAddr (ty t : Nat) (x i : Operand) : run (aOp E fr σ ty (.indexAddr t x i)) = bindO (run (aIndexAddr E σ t (evalO fr x) (evalO fr i))) fun v => some (v, σ) := rfl
@[push_cast] theorem r_index (ty t : Nat) (x i : Operand) : run (aOp E fr σ ty (.index t x i)) = bindO (run (aIndex E t (evalO fr x) (evalO fr i))) fun v => some (v, σ) := rfl
@[push_cast] theorem r_lookup (ty t : Nat) (m k : Operand) (ok : Bool) : run (aOp E fr σ ty (.lookup t m k ok)) = bindO (run (aLookup E σ t (evalO fr m) (evalO fr k) ok)) fun v => some (v, σ) := rfl
@[push_cast] theorem r_mapUpdate (ty t : Nat) (m k v : Operand) : run (aOp E fr σ ty (.mapUpdate t m k v)) = bindO (run (aMapUpdate E σ t (evalO fr m) (evalO fr k) (evalO fr v))) fun σ' => some (.top, σ') := rfl
@[push_cast] theorem r_extract (ty i : Nat) (x : Operand) : run (aOp E fr σ ty (.extract x i)) = bindO (tupleOf (evalO fr x)) fun vs => bindO (vs[i]?) fun v => some (v, σ) := rfl
@[push_cast] theorem r_call (ty : Nat) (cl : Callee) (args : Array Operand) (ts : Array TypeId) : run (aOp E fr σ ty (.call ⟨cl, args, ts⟩)) = run (aCallee E fr σ args ts cl) := rfl
@[push_cast] theorem r_callee1 (b : Builtin) (args : Array Operand) (ts : Array TypeId) : run (aCallee E fr σ args ts (.builtin b)) = run (aBuiltin E σ ts b (evalOs fr args.toList)) := rfl
@[push_cast] theorem r_callee2 (f : Operand) (args : Array Operand) (ts : Array TypeId) : run (aCallee E fr σ args ts (.value f)) = aCallV E σ (evalOs fr args.toList) (evalO fr f) := rfl
@[push_cast] theorem callV_fn (f : Nat) (cap args : List AV) : aCallV E σ args (.fn f cap) = E.tab f (args ++ cap) σ := rfl
@[push_cast] theorem callV_fnc (f : Nat) (args : List AV) : aCallV E σ args (.fnc f) = E.tab f args σ := rfl
@[push_cast] theorem callV_yfn (x : List AV) (b : Bool) (T : List (List AV × Bool)) (rest : Store) : aCallV E (.guest ((x, b) :: T) :: rest) x (.yfn E.P) = iteO (allData x) (some (.bool b, .guest T :: rest)) none := by
 show iteO (decYes (E.P = E.P ∧ x = x) && allData x) (some (AV.bool b, AObj.guest T :: rest)) none = _
 rw [decYes_true ⟨rfl, rfl⟩]
 rfl
@[push_cast] theorem r_newObj (o : AObj) (v : AV) : run (newObj σ o v) = some (v, σ ++ [o]) := rfl
@[push_cast] theorem r_assign1 (t x) : run (aAssign E fr σ t x) = bindO (some (isNilSlice x)) fun b => iteO b (bindO (E.ty t) fun ti => bindO (tkSlice ti.k) fun e => bindO (E.ty e) fun ei => newObj σ (.row ei.size 0 []) (.rs σ.length 0)) (some (evalO fr x, σ)) := by
 unfold aAssign run bindO iteO; cases isNilSlice x <;> rfl
@[push_cast] theorem r_aload (t : Nat) (a : AV) : run (aLoad E σ t a) = bindO (E.ty t) fun ti => aLoadV ti σ a := rfl
@[push_cast] theorem r_loadv1 (ti : TInfo) (id off : Nat) : run (aLoadV ti σ (.ptr id off)) = bindO (objVar σ[id]?) fun cs => partOf ti cs off := rfl
@[push_cast] theorem r_loadv2 (ti : TInfo) (cs : List AV) : run (aLoadV ti σ (.cref cs)) = run (partOf ti cs 0) := rfl
@[push_cast] theorem r_loadv3 (ti : TInfo) (id ver sz i off : Nat) : run (aLoadV ti σ (.rptr id ver sz i off)) = bindO (curR σ id ver) fun p => iteO (decide (p.1 = sz)) (bindO (p.2[i]?) fun cs => partOf ti cs off) none := rfl
attribute [push_cast] objVar objMap cur objRow curA objRowA curR objRowR tkStruct tkSlice tkMap TK.agg isNilSlice AV.dataL allDataL AV.data allData tupleOf slOf fnFirst asI toKey packed
@[push_cast] theorem r_part (ti : TInfo) (cs : List AV) (off : Nat) : run (partOf ti cs off) = run (partK ti.k.agg ti.size cs off) := rfl
@[push_cast] theorem r_part1 (size : Nat) (cs : List AV) (off : Nat) : run (partK true size cs off) = run (iteO (decide (off + size ≤ cs.length)) (some (.agg ((cs.drop off).take size))) none) := rfl
@[push_cast] theorem r_part2 (size : Nat) (cs : List AV) (off : Nat) : run (partK false size cs off) = cs[off]? := rfl
@[push_cast] theorem r_put (cs : List AV) (off : Nat) (vs : List AV) : putAt cs off vs = run (iteO (decide (off + vs.length ≤ cs.length)) (some (cs.take off ++ (vs ++ cs.drop (off + vs.length)))) none) := rfl
@[push_cast] theorem r_cells1 (cs : List AV) : run (cellsOf (.agg cs)) = run (iteO (allLeaf cs) (some cs) none) := rfl
@[push_cast] theorem r_cells2 : run (cellsOf (.bool b)) = some [.bool b] := rfl
@[push_cast] theorem r_cells3 : run (cellsOf (.int k n)) = some [.int k n] := rfl
@[push_cast] theorem r_cells4 : run (cellsOf (.str s)) = some [.str s] := rfl
@[push_cast] theorem r_cells5 : run (cellsOf (.sl f sz es)) = some [.sl f sz es] := rfl
@[push_cast] theorem r_cells6 (id off : Nat) : run (cellsOf (.ptr id off)) = some [.ptr id off] := rfl
@[push_cast] theorem r_cells7 (id ver : Nat) : run (cellsOf (.rs id ver)) = some [.rs id ver] := rfl
@[push_cast] theorem r_cells8 (id : Nat) : run (cellsOf (.map id)) = some [.map id] := rfl
@[push_cast] theorem r_cells9 (id : Nat) (cap : List AV) : run (cellsOf (.fn id cap)) = some [.fn id cap] := rfl
@[push_cast] theorem r_cells10 (cs : List AV) : run (cellsOf (.cref cs)) = some [.cref cs] := rfl
@[push_cast] theorem r_cells11 : run (cellsOf .nilp) = some [.nilp] := rfl
@[push_cast] theorem r_cells12 : run (cellsOf .nilmap) = some [.nilmap] := rfl
@[push_cast] theorem r_cells13 : run (cellsOf .nilfn) = some [.nilfn] := rfl
@[push_cast] theorem r_cells13c (f : Nat) : run (cellsOf (.fnc f)) = some [.fnc f] := rfl
@[push_cast] theorem r_cells14 : run (cellsOf .nilif) = some [.nilif] := rfl
@[push_cast] theorem r_cells15 (id ver sz i off : Nat) : run (cellsOf (.rptr id ver sz i off)) = some [.rptr id ver sz i off] := rfl
@[push_cast] theorem r_astore (t : Nat) (a v : AV) : run (aStore E σ t a v) = bindO (E.ty t) fun ti => aStoreV σ ti.size v a := rfl
@[push_cast] theorem r_storev1 (size : Nat) (v : AV) (id off : Nat) : run (aStoreV σ size v (.ptr id off)) = bindO (run (cellsOf v)) fun us => iteO (decide (us.length = size)) (bindO (objVar σ[id]?) fun cs => bindO (putAt cs off us) fun cs' => some (σ.set id (.var cs'))) none := rfl
@[push_cast] theorem r_storev2 (size : Nat) (v : AV) (id ver sz i off : Nat) : run (aStoreV σ size v (.rptr id ver sz i off)) = bindO (run (freeze σ v)) fun q => bindO (cellsOf q.1) fun us => iteO (decide (us.length = size)) (bindO (cur q.2 id ver) fun p => iteO (decide (p.1 = sz))
     (bindO (p.2[i]?) fun cs => bindO (putAt cs off us) fun cs' => some (q.2.set id (.row sz ver (p.2.set i cs')))) none) none := rfl
@[push_cast] theorem r_fa (s f : Nat) (a : AV) : run (aFieldAddr E s a f) = bindO (E.ty s) fun ti => bindO (tkStruct ti.k) fun fs => bindO (fs[f]?) fun fo => bindO (E.ty fo.1) fun fi =>
 iteO (decide (fi.size = 0)) none (aFieldAt fo.2 a) := rfl
@[push_cast] theorem r_fat1 (o id off : Nat) : run (aFieldAt o (.ptr id off)) = some (.ptr id (off + o)) := rfl
@[push_cast] theorem r_fat2 (o : Nat) (cs : List AV) : run (aFieldAt o (.cref cs)) = some (.cref (cs.drop o)) := rfl
@[push_cast] theorem r_fat3 (o id ver sz i off : Nat) : run (aFieldAt o (.rptr id ver sz i off)) = some (.rptr id ver sz i (off + o)) := rfl
@[push_cast] theorem r_fd (t f : Nat) (x : AV) : run (aField E t x f) = bindO (E.ty t) fun ti => bindO (tkStruct ti.k) fun fs => bindO (fs[f]?) fun fo => bindO (E.ty fo.1) fun fi => aFieldV fi fo.2 x := rfl
@[push_cast] theorem r_fdv (fi : TInfo) (o : Nat) (cs : List AV) : run (aFieldV fi o (.agg cs)) = run (partOf fi cs o) := rfl
@[push_cast] theorem r_ia (t : Nat) (x i : AV) : run (aIndexAddr E σ t x i) = bindO (E.ty t) fun ti => bindO (asI i) fun i => aIndexAddrK E σ x i ti.k := rfl
@[push_cast] theorem r_ia1 (x : AV) (i : Int) (e : Nat) : run (aIndexAddrK E σ x i (.slice e)) = bindO (E.ty e) fun ei => aAtSlice σ ei.size i x := rfl
@[push_cast] theorem r_ia2 (x : AV) (i : Int) (n e : Nat) : run (aIndexAddrK E σ x i (.array n e)) = bindO (E.ty e) fun ei => aAtArray n ei.size i x := rfl
@[push_cast] theorem r_as1 (size : Nat) (i : Int) (f : Bool) (sz : Nat) (es : List (List AV)) : run (aAtSlice σ size i (.sl f sz es)) = run (iteO (decide (sz = size)) (iteO (inB i es.length) (some (.cref (es.getD i.toNat []))) none) none) := rfl
@[push_cast] theorem r_as2 (size : Nat) (i : Int) (id ver : Nat) : run (aAtSlice σ size i (.rs id ver)) = bindO (curA σ id ver) fun p => iteO (decide (p.1 = size)) (iteO (inB i p.2.length) (some (.rptr id ver p.1 i.toNat 0)) none) none := rfl
@[push_cast] theorem r_ag1 (fs : List (Nat × Nat)) : run (aggOk E (.struct fs)) = some () := rfl
@[push_cast] theorem r_ag2 (n e : Nat) : run (aggOk E (.array n e)) = bindO (E.ty e) fun _ => some () := rfl
@[push_cast] theorem r_pla (n e i : Nat) : run (aPlace E (.array n e) i) = bindO (E.ty e) fun ei => some (i * ei.size, ei.size) := rfl
@[push_cast] theorem r_aa2 (size : Nat) (i : Int) (id off : Nat) : run (aAtArray 2 size i (.ptr id off)) = run (iteO (i == 0) (some (AV.ptr id off)) (iteO (i == 1) (some (AV.ptr id (off + size))) none)) := by
 show iteO (inB i 2) (some (AV.ptr id (off + i.toNat * size))) none = iteO (i == 0) (some (AV.ptr id off)) (iteO (i == 1) (some (AV.ptr id (off + size))) none)
 by_cases h0 : i = 0
 · subst h0; simp [inB, iteO]
 by_cases h1 : i = 1
 · subst h1; simp [inB, iteO]
 have : inB i 2 = false := by
   simp only [inB, decide_eq_false_iff_not]
   omega
 rw [this, beq_eq_false_iff_ne.2 h0, beq_eq_false_iff_ne.2 h1]; rfl
@[push_cast] theorem r_ix (t : Nat) (x i : AV) : run (aIndex E t x i) = bindO (E.ty t) fun ti => bindO (asI i) fun i => aIndexK E i ti.k x := rfl
@[push_cast] theorem r_ix1 (i : Int) (s : ByteArray) : run (aIndexK E i .string (.str s)) = run (iteO (inB i s.size) (some (.int .u8 (bt s i))) none) := rfl
@[push_cast] theorem r_ix2 (i : Int) (n e : Nat) (cs : List AV) : run (aIndexK E i (.array n e) (.agg cs)) = bindO (E.ty e) fun ei => iteO (inB i n) (partOf ei cs (i.toNat * ei.size)) none := rfl
@[push_cast] theorem r_opt0 : run (optI fr none) = some none := rfl
@[push_cast] theorem r_opt1 (o : Operand) : run (optI fr (some o)) = bindO (asI (evalO fr o)) fun i => some (some i) := rfl
@[push_cast] theorem r_sl (t : Nat) (x : AV) (lo hi mx : Option Int) : run (aSlice E σ t x lo hi mx) = bindO (E.ty t) fun ti => aSliceK E σ lo hi mx ti.k x := rfl
@[push_cast] theorem r_sl1 (s : ByteArray) (lo hi mx : Option Int) : run (aSliceK E σ lo hi mx .string (.str s)) = run (iteO (mx.isNone && inS (lo.getD 0) (hi.getD s.size) s.size) (some (.str (s.extract (lo.getD 0).toNat (hi.getD s.size).toNat), σ)) none) := rfl
@[push_cast] theorem r_sl2 (e : Nat) (f : Bool) (sz : Nat) (es : List (List AV)) (lo hi : Option Int) : run (aSliceK E σ lo hi none (.slice e) (.sl f sz es)) = bindO (E.ty e) fun ei => iteO ((decide (sz = ei.size) || es.isEmpty) && inS (lo.getD 0) (hi.getD es.length) es.length)
   (some (.sl (f && hi.isNone) sz (aCut es (lo.getD 0) (hi.getD es.length)), σ)) none := by cases lo <;> cases hi <;> rfl
@[push_cast] theorem r_sl3 (e : Nat) (f : Bool) (sz : Nat) (es : List (List AV)) (lo hi : Option Int) (m : Int) : run (aSliceK E σ lo hi (some m) (.slice e) (.sl f sz es)) = bindO (E.ty e) fun ei => iteO ((decide (sz = ei.size) || es.isEmpty) && inS (lo.getD 0) (hi.getD es.length) es.length)
   (iteO (decide (m = hi.getD es.length) && hi.isSome) (some (.sl true sz (aCut es (lo.getD 0) (hi.getD es.length)), σ)) none) none := by cases lo <;> cases hi <;> rfl
@[push_cast] theorem r_sl5 (e id ver : Nat) (l : Int) : run (aSliceK E σ (some l) none none (.slice e) (.rs id ver)) = bindO (E.ty e) fun _ => bindO (cur σ id ver) fun p => iteO (inS l p.2.length p.2.length) (some (.top, σ)) none := rfl
@[push_cast] theorem r_sl6 (e id ver : Nat) (h m : Int) : run (aSliceK E σ none (some h) (some m) (.slice e) (.rs id ver)) = bindO (E.ty e) fun ei => bindO (run (objFrz σ id ver σ[id]?)) fun q => bindO (slOf q.1) fun s => iteO (decide (m = h) && ((decide (s.1 = ei.size) || s.2.isEmpty) && inS 0 h s.2.length)) (some (.sl true s.1 (aCut s.2 0 h), q.2)) none := rfl
@[push_cast] theorem r_sl4 (e id ver : Nat) (h : Int) : run (aSliceK E σ none (some h) none (.slice e) (.rs id ver)) = bindO (E.ty e) fun _ => bindO (cur σ id ver) fun p => iteO (inS 0 h p.2.length) (some (.rs id (ver + 1), σ.set id (.row p.1 (ver + 1) (p.2.take h.toNat)))) none := rfl
@[push_cast] theorem r_bc0 (k : TK) (cs : List AV) : aBuildCells E k [] cs = some cs := rfl
@[push_cast] theorem r_bc1 (k : TK) (i : Nat) (v : AV) (ps : List (Nat × AV)) (cs : List AV) : aBuildCells E k ((i, v) :: ps) cs = bindO (run (aPlace E k i)) fun q => bindO (cellsOf v) fun us => iteO (decide (us.length = q.2)) (bindO (putAt cs q.1 us) (aBuildCells E k ps)) none := rfl
@[push_cast] theorem r_pl1 (fs : List (Nat × Nat)) (i : Nat) : run (aPlace E (.struct fs) i) = bindO (fs[i]?) fun fo => bindO (E.ty fo.1) fun fi => some (fo.2, fi.size) := rfl
@[push_cast] theorem r_bs (t n : Nat) (ps : Array (Nat × Operand)) : run (aBuildSlice E fr σ t n ps) = bindO (E.ty t) fun ti => bindO (tkSlice ti.k) fun e => bindO (E.ty e) fun ei =>
 iteO (decide (n * ei.size ≤ 16777216 ∧ ei.size ≠ 0)) (bindO (aBuildElems σ ei.size (evalPs fr ps.toList) (List.replicate n ei.zero)) fun q => some (.sl true ei.size q.1, q.2)) none := rfl
@[push_cast] theorem r_be0 (sz : Nat) (es : List (List AV)) : run (aBuildElems σ sz [] es) = some (es, σ) := rfl
@[push_cast] theorem r_be1 (sz i : Nat) (v : AV) (ps : List (Nat × AV)) (es : List (List AV)) : run (aBuildElems σ sz ((i, v) :: ps) es) = bindO (run (freeze σ v)) fun q => bindO (cellsOf q.1) fun us => iteO (decide (us.length = sz) && decide (i < es.length)) (aBuildElems q.2 sz ps (es.set i us)) none := rfl
@[push_cast] theorem r_ms (t : Nat) (l c : Operand) : run (aMakeSlice E fr σ t l c) = bindO (E.ty t) fun ti => bindO (tkSlice ti.k) fun e => bindO (E.ty e) fun ei => bindO (asI (evalO fr l)) fun l => bindO (asI (evalO fr c)) fun c =>
 iteO (decide (0 ≤ l ∧ l ≤ c ∧ c * ei.bytes ≤ 140737488355328 ∧ c ≤ 9223372036854775807)) (newObj σ (.row ei.size 0 (List.replicate l.toNat ei.zero)) (.rs σ.length 0)) none := rfl
attribute [push_cast] tkSame ofCellsK mapOf lookedUp
@[push_cast] theorem r_lk (t : Nat) (m k : AV) (ok : Bool) : run (aLookup E σ t m k ok) = bindO (E.ty t) fun ti => bindO (tkMap ti.k) fun ke => bindO (E.ty ke.1) fun ki => bindO (E.ty ke.2) fun ei => bindO (mapOf σ m) fun f => iteO (tkSame f.1 ki.k) (bindO (toKey ki.k k) fun key => foundOr ok ei (f.2 key)) none := rfl
@[push_cast] theorem r_fo1 (ok : Bool) (ei : TInfo) (v : AV) : run (foundOr ok ei (some v)) = some (lookedUp ok true v) := rfl
@[push_cast] theorem r_fo2 (ok : Bool) (ei : TInfo) : run (foundOr ok ei none) = bindO (ofCellsK ei.k.agg ei.zero) fun v => some (lookedUp ok false v) := rfl
@[push_cast] theorem r_mu (t : Nat) (m k v : AV) : run (aMapUpdate E σ t m k v) = bindO (E.ty t) fun ti => bindO (tkMap ti.k) fun ke => bindO (E.ty ke.1) fun ki => aMapUpdateV σ ki.k k v m := rfl
@[push_cast] theorem r_mu1 (kk : TK) (k v : AV) (id : Nat) : run (aMapUpdateV σ kk k v (.map id)) = bindO (toKey kk k) fun key => bindO (freeze σ v) fun q => bindO (objMap q.2[id]?) fun f => iteO (tkSame f.1 kk) (some (q.2.set id (.map f.1 (mapPut f.2 key q.1)))) none := rfl
@[push_cast] theorem r_ap (t : Nat) (s x : AV) : run (aAppend E σ t s x) = bindO (E.ty t) fun ti => bindO (tkSlice ti.k) fun e => bindO (E.ty e) fun ei => bindO (slOf x) fun q => iteO (decide (q.1 = ei.size)) (aAppendV σ ei.size ei.bytes q.2 s) none := rfl
@[push_cast] theorem r_ap1 (size bytes : Nat) (xs : List (List AV)) (id ver : Nat) : run (aAppendV σ size bytes xs (.rs id ver)) = bindO (curA σ id ver) fun p => iteO (decide (p.1 = size) && fits (p.2.length + xs.length) bytes) (some (reAp σ id ver p.1 p.2 xs σ[id]?)) none := rfl
@[push_cast] theorem r_ap2 (size bytes : Nat) (xs : List (List AV)) (sz : Nat) (es : List (List AV)) : run (aAppendV σ size bytes xs (.sl true sz es)) = run (iteO ((decide (sz = size) || es.isEmpty) && fits (es.length + xs.length) bytes) (grown σ size es xs) none) := rfl
@[push_cast] theorem r_gr0 (size : Nat) (es : List (List AV)) : run (grown σ size es []) = some (.sl true size es, σ) := rfl
@[push_cast] theorem r_gr1 (size : Nat) (es : List (List AV)) (x : List AV) (xs : List (List AV)) : run (grown σ size es (x :: xs)) = some (.rs σ.length 0, σ ++ [.row size 0 (es ++ (x :: xs))]) := rfl
@[push_cast] theorem r_len0 (t : TypeId) (x : AV) : run (aLen E σ [t] x) = bindO (E.ty t) fun ti => aLenK σ ti.k x := rfl
@[push_cast] theorem r_len1 (s : ByteArray) : run (aLenK σ .string (.str s)) = some (.int .i64 s.size) := rfl
@[push_cast] theorem r_len2 (e : Nat) (f : Bool) (sz : Nat) (es : List (List AV)) : run (aLenK σ (.slice e) (.sl f sz es)) = some (.int .i64 es.length) := rfl
@[push_cast] theorem r_len3 (e id ver : Nat) : run (aLenK σ (.slice e) (.rs id ver)) = bindO (curA σ id ver) fun p => some (.int .i64 p.2.length) := rfl
@[push_cast] theorem r_cv (s d : Nat) (x : AV) : run (aConvert E s d x) = bindO (E.ty s) fun si => bindO (E.ty d) fun di => aConvertK si.k di.k x := rfl
@[push_cast] theorem r_cv1 (j k l : IntKind) (n : Int) : run (aConvertK (.int j) (.int k) (.int l n)) = some (.int k (k.wrap n)) := rfl
@[push_cast] theorem r_cv2 (s : ByteArray) : run (aConvertK .string .string (.str s)) = some (.str s) := rfl
@[push_cast] theorem r_bu1 (ts : Array TypeId) (x : AV) : run (aBuiltin E σ ts .len [x]) = bindO (run (aLen E σ ts.toList x)) fun v => some (v, σ) := rfl
@[push_cast] theorem r_bu2 (ts : Array TypeId) (s x : AV) : run (aBuiltin E σ ts .append [s, x]) = bindO (run (sameTypes ts.toList)) fun t => aAppend E σ t s x := rfl
@[push_cast] theorem r_bu3 (ts : Array TypeId) (k j : IntKind) (a b : Int) : run (aBuiltin E σ ts .min [.int k a, .int j b]) = some (.int k (min a b), σ) := rfl
@[push_cast] theorem r_bu4 (ts : Array TypeId) (k j : IntKind) (a b : Int) : run (aBuiltin E σ ts .max [.int k a, .int j b]) = some (.int k (max a b), σ) := rfl
attribute [push_cast] BinOp.shifts sameTypes
@[push_cast] theorem r_bi1 (op : BinOp) (t : Nat) (k j : IntKind) (a b : Int) : run (aBin E op t (.int k a) (.int j b)) = run (iteO (BinOp.shifts op || decide (k = j)) (aArith op k a b) none) := rfl
@[push_cast] theorem r_bi2 (op : BinOp) (t : Nat) (a b : ByteArray) : run (aBin E op t (.str a) (.str b)) = run (aStr op a b) := rfl
@[push_cast] theorem r_bi3 (op : BinOp) (t : Nat) (a b : Bool) : run (aBin E op t (.bool a) (.bool b)) = bindO (E.ty t) fun ti => bindO (tkBool ti.k) fun _ => eqResult op (a == b) := rfl
@[push_cast] theorem r_bi4 (op : BinOp) (t : Nat) (xs ys : List AV) : run (aBin E op t (.agg xs) (.agg ys)) = bindO (E.eqt t) fun ss => bindO (eqCells ss xs ys) fun r => eqResult op r := rfl
attribute [push_cast] eqCells tkBool eqResult
attribute [push_cast] aArith aStr aUn aNilCheck aResult aResults
@[push_cast] theorem r_ended1 (rs : List ResultVar) : run (ended E rs ⟨.normal, fr, σ⟩) = bindO (run (aResults E fr σ rs)) fun vs => some (vs, σ) := rfl
@[push_cast] theorem r_ended2 (rs : List ResultVar) : run (ended E rs ⟨.ret, fr, σ⟩) = bindO (run (aResults E fr σ rs)) fun vs => some (vs, σ) := rfl
@[push_cast] theorem r_fz1 : run (freeze σ (.bool b)) = some (.bool b, σ) := rfl
@[push_cast] theorem r_fz2 : run (freeze σ (.int k n)) = some (.int k n, σ) := rfl
@[push_cast] theorem r_fz3 : run (freeze σ (.str s)) = some (.str s, σ) := rfl
@[push_cast] theorem r_fz4 : run (freeze σ (.sl f sz es)) = some (.sl false sz es, σ) := rfl
@[push_cast] theorem r_fz5 (cs : List AV) : run (freeze σ (.agg cs)) = bindO (run (freezeLs σ cs)) fun p => some (.agg p.1, p.2) := rfl
@[push_cast] theorem r_fz6 (id ver : Nat) : run (freeze σ (.rs id ver)) = run (objFrz σ id ver σ[id]?) := rfl
@[push_cast] theorem r_fz7 (id ver sz v : Nat) (es : List (List AV)) : run (objFrz σ id ver (some (.row sz v es))) = run (iteO (decide (v = ver)) (some (.sl false sz es, σ.set id (.frz sz v es))) none) := rfl
@[push_cast] theorem r_fz8 (id ver sz v : Nat) (es : List (List AV)) : run (objFrz σ id ver (some (.frz sz v es))) = run (iteO (decide (v = ver)) (some (.sl false sz es, σ)) none) := rfl
@[push_cast] theorem r_fz8a (id ver sz v : Nat) (es : List (List AV)) : run (objFrz σ id ver (some (.app sz v es))) = run (iteO (decide (v = ver)) (some (.sl false sz es, σ.set id (.frz sz v es))) none) := rfl
@[push_cast] theorem r_fzc (f : Nat) : run (freeze σ (.fnc f)) = some (.fnc f, σ) := rfl
@[push_cast] theorem r_fz9 : run (freezeLs σ []) = some ([], σ) := rfl
@[push_cast] theorem r_fz10 (c : AV) (cs : List AV) : run (freezeLs σ (c :: cs)) = bindO (run (freezeL σ c)) fun p => bindO (freezeLs p.2 cs) fun q => some (p.1 :: q.1, q.2) := rfl
@[push_cast] theorem r_fz11 : run (freezes σ []) = some ([], σ) := rfl
@[push_cast] theorem r_fz12 (c : AV) (cs : List AV) : run (freezes σ (c :: cs)) = bindO (run (freeze σ c)) fun p => bindO (freezes p.2 cs) fun q => some (p.1 :: q.1, q.2) := rfl
@[push_cast] theorem r_fz13 (id ver : Nat) : run (freezeL σ (.rs id ver)) = run (objFrz σ id ver σ[id]?) := rfl
@[push_cast] theorem r_fz14 : run (freezeL σ (.bool b)) = some (.bool b, σ) := rfl
@[push_cast] theorem r_fz15 : run (freezeL σ (.int k n)) = some (.int k n, σ) := rfl
@[push_cast] theorem r_fz16 : run (freezeL σ (.str s)) = some (.str s, σ) := rfl
@[push_cast] theorem r_fz17 : run (freezeL σ (.sl f sz es)) = some (.sl false sz es, σ) := rfl
@[push_cast] theorem r_fz18 : run (freeze σ .nilp) = some (.nilp, σ) := rfl
@[push_cast] theorem r_fz19 : run (freezeL σ .nilp) = some (.nilp, σ) := rfl
@[push_cast] theorem r_fz20 (cs : List AV) : run (freeze σ (.cref cs)) = some (.cref cs, σ) := rfl
@[push_cast] theorem r_sv0 : run (sealVs σ []) = some ([], σ) := rfl
@[push_cast] theorem r_sv1 (c : AV) (cs : List AV) : run (sealVs σ (c :: cs)) = bindO (run (sealV σ c)) fun p => bindO (sealVs p.2 cs) fun q => some (p.1 :: q.1, q.2) := rfl
@[push_cast] theorem r_sl0 : run (sealLs σ []) = some ([], σ) := rfl
@[push_cast] theorem r_sls (c : AV) (cs : List AV) : run (sealLs σ (c :: cs)) = bindO (run (sealL σ c)) fun p => bindO (sealLs p.2 cs) fun q => some (p.1 :: q.1, q.2) := rfl
@[push_cast] theorem r_sv2 (f : Nat) (cap : List AV) : run (sealV σ (.fn f cap)) = bindO (run (sealLs σ cap)) fun p => some (.fn f p.1, p.2) := rfl
@[push_cast] theorem r_sv3 (b : Bool) : run (sealV σ (.bool b)) = some (.bool b, σ) := rfl
@[push_cast] theorem r_sv4 (k : IntKind) (n : Int) : run (sealV σ (.int k n)) = some (.int k n, σ) := rfl
@[push_cast] theorem r_sv5 (s : ByteArray) : run (sealV σ (.str s)) = some (.str s, σ) := rfl
@[push_cast] theorem r_sv6 (f : Bool) (sz : Nat) (es : List (List AV)) : run (sealV σ (.sl f sz es)) = some (.sl false sz es, σ) := rfl
@[push_cast] theorem r_sv7 (cs : List AV) : run (sealV σ (.agg cs)) = run (freeze σ (.agg cs)) := rfl
@[push_cast] theorem r_sv8 (id ver : Nat) : run (sealV σ (.rs id ver)) = run (freeze σ (.rs id ver)) := rfl
@[push_cast] theorem r_sv9 (cs : List AV) : run (sealV σ (.cref cs)) = some (.cref cs, σ) := rfl
@[push_cast] theorem r_sv10 : run (sealV σ .nilp) = some (.nilp, σ) := rfl
@[push_cast] theorem r_sl1' (id off : Nat) : run (sealL σ (.ptr id off)) = run (sealVar σ id off σ[id]?) := rfl
@[push_cast] theorem r_sl2' (id off : Nat) (cs : List AV) : run (sealVar σ id off (some (.var cs))) = run (iteO (decide (off = 0) && allDataL cs) (some (.cref cs, σ.set id .dead)) none) := rfl
theorem r_pure (fn : Func) (args : List AV) : aPure E fn H N args = bindO (run (bindO fn.body fun c => bindO (aev E H N 0 c (args ++ List.replicate (fn.ntmps - args.length) .top) []) (ended E fn.results.toList))) fun q => bindO (sealVs q.2 q.1) fun p => some (packed p.1) := rfl
end
end Go.Abs
namespace Go.Abs
def stepOut (n0 n : Nat) (ks : List Nat) (r : ARes) : Option (Sum (Fr × Store) ARes) :=
 match r.e with
 | .normal => some (.inl (keepFr n0 n r.σ ks 0 r.fr, keepSl n0 n ks r.σ))
 | .exit id => some (.inr ⟨.exit id, r.fr, r.σ⟩)
 | .ret => some (.inr ⟨.ret, r.fr, r.σ⟩)
@[push_cast] theorem r_so1 (n0 n : Nat) (ks : List Nat) (fr : Fr) (σ : Store) : run (stepOut n0 n ks ⟨.normal, fr, σ⟩) = some (.inl (keepFr n0 n σ ks 0 fr, keepSl n0 n ks σ)) := rfl
@[push_cast] theorem r_so2 (n0 n : Nat) (ks : List Nat) (fr : Fr) (σ : Store) (id : Nat) : run (stepOut n0 n ks ⟨.exit id, fr, σ⟩) = some (.inr ⟨.exit id, fr, σ⟩) := rfl
@[push_cast] theorem r_so3 (n0 n : Nat) (ks : List Nat) (fr : Fr) (σ : Store) : run (stepOut n0 n ks ⟨.ret, fr, σ⟩) = some (.inr ⟨.ret, fr, σ⟩) := rfl
def round (n0 n : Nat) (ks : List Nat) (body : Fr → Store → Option ARes) (fr : Fr) (σ : Store) : Option (Sum (Fr × Store) ARes) := bindO (run (body fr σ)) (stepOut n0 n ks)
theorem loop_next {n0 n N : Nat} {ks : List Nat} {body : Fr → Store → Option ARes} {fr fr' : Fr} {σ σ' : Store} (h : round n0 n ks body fr σ = some (.inl (fr', σ'))) : aLoop n0 body ks n (N + 1) fr σ = aLoop n0 body ks n N fr' σ' := by
 obtain ⟨r, hr, h1⟩ := bindO_eq h
 have hr : body fr σ = some r := hr
 obtain ⟨e, f, s⟩ := r
 cases e with
 | normal =>
   injection h1 with h1
   injection h1 with h1
   injection h1 with h1 h2
   simp only [aLoop, hr, bindO_some, thenO, ← h1, ← h2]
 | exit _ => injection h1 with h1; cases h1
 | ret => injection h1 with h1; cases h1
theorem loop_stop {n0 n N : Nat} {ks : List Nat} {body : Fr → Store → Option ARes} {fr : Fr} {σ : Store} {r : ARes} (h : round n0 n ks body fr σ = some (.inr r)) : aLoop n0 body ks n (N + 1) fr σ = some r := by
 obtain ⟨r', hr, h1⟩ := bindO_eq h
 have hr : body fr σ = some r' := hr
 obtain ⟨e, f, s⟩ := r'
 cases e with
 | normal => injection h1 with h1; cases h1
 | exit _ => injection h1 with h1; injection h1 with h1; subst h1; simp only [aLoop, hr, bindO_some, thenO]
 | ret => injection h1 with h1; injection h1 with h1; subst h1; simp only [aLoop, hr, bindO_some, thenO]
def foldX {α S R : Type} (step : S → α → Sum S R) (fin : S → R) : List α → S → R
 | [], s => fin s
 | x :: xs, s => match step s x with
   | .inl s' => foldX step fin xs s'
   | .inr r => r
def nextX {S R : Type} (F : S → Fr) (G : S → Store) (out : R → ARes) : Sum S R → Sum (Fr × Store) ARes
 | .inl s => .inl (F s, G s)
 | .inr r => .inr (out r)
theorem loop_foldX {α S R : Type} {n0 n N : Nat} {ks : List Nat} {body : Fr → Store → Option ARes} (l : List α) (F : Nat → S → Fr) (G : Nat → S → Store) (I : Nat → S → Prop) (step : S → α → Sum S R) (fin : S → R) (out : R → ARes)
   (hs : ∀ i s x, l[i]? = some x → i < l.length → I i s → round n0 n ks body (F i s) (G i s) = some (nextX (F (i + 1)) (G (i + 1)) out (step s x)) ∧ ∀ s', step s x = .inl s' → I (i + 1) s')
   (he : ∀ s, I l.length s → round n0 n ks body (F l.length s) (G l.length s) = some (.inr (out (fin s)))) :
   ∀ (rest : List α) (i : Nat) (N : Nat) (s : S), l.drop i = rest → i + rest.length = l.length → rest.length < N → I i s → aLoop n0 body ks n N (F i s) (G i s) = some (out (foldX step fin rest s))
 | [], i, N, s, hd, hl, hN, hI => by
   obtain ⟨M, rfl⟩ : ∃ M, N = M + 1 := ⟨N - 1, by simp at hN; omega⟩
   have hi : i = l.length := by simpa using hl
   subst hi
   exact loop_stop (he s hI)
 | x :: rest, i, N, s, hd, hl, hN, hI => by
   obtain ⟨M, rfl⟩ : ∃ M, N = M + 1 := ⟨N - 1, by simp at hN; omega⟩
   have hx : l[i]? = some x := by
     have := congrArg List.head? hd
     simpa [List.head?_drop] using this
   have hlt : i < l.length := by simp at hl; omega
   obtain ⟨h1, h2⟩ := hs i s x hx hlt hI
   cases hst : step s x with
   | inl s' =>
     rw [hst] at h1
     rw [loop_next h1]
     have := loop_foldX (N := N) l F G I step fin out hs he rest (i + 1) M s' (by rw [← List.drop_drop, hd]; rfl) (by simp at hl; omega) (by simp at hN; omega) (h2 s' hst)
     rw [this]
     simp only [foldX, hst]
   | inr r =>
     rw [hst] at h1
     rw [loop_stop h1]
     simp only [foldX, hst]
theorem loop_list {α S R : Type} {n0 n N : Nat} {ks : List Nat} {body : Fr → Store → Option ARes} (l : List α) (F : Nat → S → Fr) (G : Nat → S → Store) (I : Nat → S → Prop) (step : S → α → Sum S R) (fin : S → R) (out : R → ARes) (s : S)
   (hN : l.length < N) (h0 : I 0 s)
   (hs : ∀ i s x, l[i]? = some x → i < l.length → I i s → round n0 n ks body (F i s) (G i s) = some (nextX (F (i + 1)) (G (i + 1)) out (step s x)) ∧ ∀ s', step s x = .inl s' → I (i + 1) s')
   (he : ∀ s, I l.length s → round n0 n ks body (F l.length s) (G l.length s) = some (.inr (out (fin s)))) :
   aLoop n0 body ks n N (F 0 s) (G 0 s) = some (out (foldX step fin l s)) :=
 loop_foldX (N := N) l F G I step fin out hs he l 0 N s rfl (by simp) hN h0
theorem at1 {α β : Type} {x : Option α} {k : α → Option β} {r : α} {y : Option β} (h : x = some r) (h' : bindO (some r) k = y) : bindO (run x) k = y := by
 subst h; exact h'
theorem bindO_assoc {α β γ : Type} (x : Option α) (f : α → Option β) (g : β → Option γ) : bindO (bindO x f) g = bindO x fun a => bindO (f a) g := by cases x <;> rfl
theorem inB_lt {i n : Nat} (h : i < n) : inB (i : Int) n = true := by simp [inB, h]
theorem wrap_id {n : Int} (h : -9223372036854775808 ≤ n ∧ n < 9223372036854775808) : IntKind.i64.wrap n = n := by
 have e1 : (2 : Int) ^ 64 = 18446744073709551616 := by decide
 have e2 : (2 : Int) ^ 63 = 9223372036854775808 := by decide
 simp only [IntKind.wrap, IntKind.bits, IntKind.signed, e1, Bool.true_and, Nat.reduceSub, e2, decide_eq_true_eq, ge_iff_le]
 split <;> omega
theorem lt_true {i n : Nat} (h : i < n) : decide ((i : Int) < (n : Int)) = true := by simp [h]
theorem lt_self {n : Nat} : decide ((n : Int) < (n : Int)) = false := by simp
end Go.Abs
namespace Go.Abs
open Go.RowKit
variable {P : Program} {E : Env} {g : Ghost} {σ : Store} {w : World}
def Pure (P : Program) (f : Nat) (args : List AV) (v : AV) : Prop := ∀ σ, CallOk P f args σ v σ
structure Ent where
 f : Nat
 X : Type
 emb : X → List AV
 res : X → AV
 inj : ∀ x y, emb x = emb y → res x = res y
open Classical in
noncomputable def entAt (P : Program) (e : Ent) (args : List AV) : Option AV :=
  if h : ∃ x, e.emb x = args ∧ Pure P e.f args (e.res x) then some (e.res (Classical.choose h)) else none
noncomputable def tabL (P : Program) : List Ent → Nat → List AV → Store → Option (AV × Store)
 | [], _, _, _ => none
 | e :: l, f, args, σ => if f = e.f then (entAt P e args).map fun v => (v, σ) else tabL P l f args σ
theorem tabL_ok : ∀ {l : List Ent} {f : Nat} {args : List AV} {v : AV} {σ' : Store}, tabL P l f args σ = some (v, σ') → CallOk P f args σ v σ'
 | [], _, _, _, _, h => by cases h
 | e :: l, f, args, v, σ', h => by
   simp only [tabL] at h
   split at h
   · rename_i hf
     subst hf
     obtain ⟨u, hu, h1⟩ := Option.map_eq_some_iff.1 h
     injection h1 with h2 h3
     subst h2; subst h3
     unfold entAt at hu
     split at hu
     · rename_i hx
       injection hu with hu
       obtain ⟨h4, h5⟩ := Classical.choose_spec hx
       rw [hu] at h5
       exact h5 σ
     · cases hu
   · exact tabL_ok h
theorem tabL_same : ∀ {l : List Ent} {f : Nat} {args : List AV} {v : AV} {σ' : Store}, tabL P l f args σ = some (v, σ') → σ' = σ ∧ ∀ σ2, tabL P l f args σ2 = some (v, σ2)
 | [], _, _, _, _, h => by cases h
 | e :: l, f, args, v, σ', h => by
   simp only [tabL] at h ⊢
   split at h
   · rename_i hf
     obtain ⟨u, hu, h1⟩ := Option.map_eq_some_iff.1 h
     injection h1 with h2 h3
     subst h2; subst h3
     exact ⟨rfl, fun σ2 => by rw [if_pos hf, hu]; rfl⟩
   · rename_i hf
     obtain ⟨h1, h2⟩ := tabL_same h
     exact ⟨h1, fun σ2 => by rw [if_neg hf]; exact h2 σ2⟩
structure SEnt where
 X : Type
 emb : X → AV
 out : X → List (List AV)
 inj : ∀ x y, emb x = emb y → out x = out y
open Classical in
noncomputable def seqAt (P : Program) (e : SEnt) (v : AV) : Option (List (List AV)) :=
  if h : ∃ x, e.emb x = v ∧ SeqOk P v (e.out x) then some (e.out (Classical.choose h)) else none
noncomputable def seqL (P : Program) : List SEnt → AV → Option (List (List AV))
 | [], _ => none
 | e :: l, v => match seqAt P e v with
   | some xs => some xs
   | none => seqL P l v
theorem seqL_ok : ∀ {l : List SEnt} {v : AV} {xs : List (List AV)}, seqL P l v = some xs → SeqOk P v xs
 | [], _, _, h => by cases h
 | e :: l, v, xs, h => by
   simp only [seqL] at h
   split at h
   · rename_i ys hy
     injection h with h
     subst h
     unfold seqAt at hy
     split at hy
     · rename_i hx
       injection hy with hy
       obtain ⟨h4, h5⟩ := Classical.choose_spec hx
       rw [hy] at h5
       exact h5
     · cases hy
   · exact seqL_ok h
noncomputable def mkE (P : Program) (n0 : Nat) (ty : Nat → Option TInfo) (eqt : Nat → Option (List TK)) (l : List Ent) (s : List SEnt) : Env := ⟨P, n0, ty, eqt, tabL P l, seqL P s, noAli⟩
@[push_cast] theorem mkE_ali {n0 : Nat} {ty : Nat → Option TInfo} {eqt : Nat → Option (List TK)} {l : List Ent} {s : List SEnt} : (mkE P n0 ty eqt l s).ali = noAli := rfl
theorem mkE_ok {n0 : Nat} {ty : Nat → Option TInfo} {eqt : Nat → Option (List TK)} {l : List Ent} {s : List SEnt} (hty : ∀ t i, ty t = some i → TyOk P t i) (heq : ∀ t ss, eqt t = some ss → EqOk P t ss) : EnvOk (mkE P n0 ty eqt l s) :=
 ⟨hty, heq, fun _ _ _ _ _ h => tabL_ok h⟩
theorem mkE_seq {n0 : Nat} {ty : Nat → Option TInfo} {eqt : Nat → Option (List TK)} {l : List Ent} {s : List SEnt} : SeqEnv (mkE P n0 ty eqt l s) := ⟨fun _ _ h => seqL_ok h⟩
theorem mkE_pure {n0 : Nat} {ty : Nat → Option TInfo} {eqt : Nat → Option (List TK)} {l : List Ent} {s : List SEnt} : PureTab (mkE P n0 ty eqt l s) (fun _ => true) := fun _ _ _ _ _ _ h => tabL_same h
def drawChk (_ : Nat) (ops : Array Oper) : Bool := regionOk (fun _ => true) ops ops.size
theorem pure_of {ty : Nat → Option TInfo} {eqt : Nat → Option (List TK)} {l : List Ent} {s : List SEnt} (hty : ∀ t i, ty t = some i → TyOk P t i) (heq : ∀ t ss, eqt t = some ss → EqOk P t ss) (hm : P.follows .mixedOrders = true)
   {f : Nat} {fn : Func} {c : Code} (hf : P.funcs[f]? = some fn) (hb : fn.body = some c) (hn : fn.name ≠ "runtime.NumGoroutine") (hd : drawsOk drawChk c = true) {H : Nat → Hint} {N : Nat} {args : List AV} {v : AV}
   (h : aPure (mkE P 0 ty eqt l s) fn H N args = some v) (ha : allData args = true) : Pure P f args v := by
 intro σ g w vs hI hr
 have hE := mkE_ok (n0 := 0) (l := l) (s := s) hty heq
 refine (pure_callOk hE mkE_seq rfl (chk := drawChk) (fun _ ops hc => draw_sound hE mkE_pure hm ops _ hc rfl) hf hb hn hd h hI (datas_rep hr ha)).mono ?_
 rintro val w' ⟨g', hm', hv⟩
 exact ⟨g', hm', Rep.mono (Ext.refl g' 0) v 0 _ val (Nat.le_refl _) (Nat.zero_le _) hv⟩
end Go.Abs
namespace Go.Abs
open Go.RowKit
variable {P : Program} {E : Env} {g : Ghost} {σ : Store} {w : World}
def ghostG (G : Guest) (F : Nat → Prop) (C : Nat → Nat → Option Value) (W : World) : Ghost := ⟨C, fun _ => 0, fun _ _ => none, F, ⟨W, C, G⟩⟩
theorem invG {G : Guest} {F : Nat → Prop} {C : Nat → Nat → Option Value} {W : World} {T : List (List AV × Bool)} (hy : YieldRule G) (h : G.rel T F C W) : Inv (ghostG G F C W) [.guest T] W := by
 have hown : ∀ (id : Nat) (o : AObj) (b : Nat), [AObj.guest T][id]? = some o → owned (ghostG G F C W) id o = some b → False := fun id o b ho hb => by
   cases id with
   | zero => simp at ho; subst ho; simp [owned] at hb
   | succ id => simp at ho
 refine ⟨G.comm T F C W h, fun id o ho => ?_, fun id o b ho hb => (hown id o b ho hb).elim, fun id id' o o' b ho _ hb _ => (hown id o b ho hb).elim, fun _ _ => rfl, Below.refl _ _, G.lt T F C W h, fun _ _ _ hv _ => hv, fun id T' hg => ?_⟩
 · cases id with
   | zero => simp at ho; subst ho; trivial
   | succ id => simp at ho
 · cases id with
   | zero =>
     simp at hg
     subst hg
     exact ⟨rfl, hy, F, h, fun id o b ho hb => (hown id o b ho hb).elim, fun _ h => h⟩
   | succ id => simp at hg
def GuestPost (G : Guest) (T' : List (List AV × Bool)) (v : AV) (F : Nat → Prop) (C : Nat → Nat → Option Value) (W : World) (e : Ending) (W' : World) : Prop :=
 ∃ val, e = .returned val ∧ ∃ F' C', (∃ g0 : Ghost, g0.C = C' ∧ Rep g0 v 0 val) ∧ G.rel T' F' C' W' ∧ (∀ k, F k → F' k) ∧ (∀ b o v, C b o = some v → C' b o = some v) ∧ (∀ b o v, C' b o = some v → F b → C b o = some v) ∧ (∀ k, F k → W'.heap[k]? = W.heap[k]?) ∧ Below 0 W W'
def GuestOk (P : Program) (f : Nat) (args : List AV) (T : List (List AV × Bool)) (v : AV) (T' : List (List AV × Bool)) : Prop :=
 ∀ (G : Guest) F C W vs, G.P = P → YieldRule G → G.rel T F C W → Reps (ghostG G F C W) args 1 vs → Yields P (callFunc f vs.toArray) W fun val W' => GuestPost G T' v F C W (.returned val) W'
theorem guest_of (hE : EnvOk E) (hS : SeqEnv E) (h1 : E.n0 = 1) {chk : Nat → Array Oper → Bool} (hchk : ∀ id ops, chk id ops = true → DrawSound E (E.ali id) ops) {f : Nat} {fn : Func} {c : Code} (hf : E.P.funcs[f]? = some fn) (hb : fn.body = some c) (hn : fn.name ≠ "runtime.NumGoroutine")
   (hd : drawsOk chk c = true) {H : Nat → Hint} {N : Nat} {args : List AV} {T T' : List (List AV × Bool)} {rs : List AV} {σ' : Store} (h : aFn E fn H N args [.guest T] = some (rs, .guest T' :: σ')) (hv : (packed rs).data = true) : GuestOk E.P f args T (packed rs) T' := by
 intro G F C W vs hP hy hrel hr
 refine Yields.of_calls (callFunc_enter hf hb hn _ _) ((fn_calls hE hS hchk hf hb hd h (by rw [h1]; exact Nat.le_refl _) (invG hy hrel) hr).mono ?_)
 rintro e W' ⟨v, rfl, g', he, hI, _, hrep, _⟩
 obtain ⟨_, _, F', hrel', _, hfF⟩ := hI.guest 0 T' rfl
 have hG : g'.w0.G = G := he.tie.G
 rw [hG] at hrel'
 refine ⟨v, rfl, v, rfl, F', g'.C, ⟨g', rfl, data_rep hrep hv⟩, hrel', fun k hk => hfF k (he.tie.fix k hk), fun b o v hv => he.C b o v hv, fun b o v hv hF => ?_, fun k hk => ?_, he.tie.str.trans hI.str⟩
 · exact he.tie.low b o v (hI.low b o v hv (he.tie.fix b hF)) hF
 · exact (hI.below k (he.tie.fix k hk)).trans (he.tie.same k hk)
def gArgs : List AV → Bool
 | [] => true
 | .yfn _ :: cs => gArgs cs
 | c :: cs => c.data && gArgs cs
theorem Yields.calls {f : Nat} {args : Array Value} {R : Value → World → Prop} (he : (callFunc f args).run P w = .ok (.enter f args) w) (h : Yields P (callFunc f args) w R) : Calls P f args w fun e w' => ∃ v, e = .returned v ∧ R v w' := by
 rcases h with ⟨v, w', e, _⟩ | ⟨w', e, _⟩ | ⟨f', args', w', e, h⟩ | ⟨l, f', tmps, asg, body, w', e, _⟩
 · rw [he] at e; injection e with e; cases e
 · rw [he] at e; injection e with e; cases e
 · rw [he] at e
   injection e with e1 e2
   injection e1 with e3 e4
   subst e3; subst e4; subst e2
   exact h
 · rw [he] at e; injection e with e; cases e
theorem gArgs_rep {G : Guest} {F : Nat → Prop} {W : World} (hG : g.w0.G = G) {n : Nat} : ∀ {cs : List AV} {vs : List Value}, gArgs cs = true → Reps g cs n vs → Reps (ghostG G F g.C W) cs 1 vs
 | [], _, _, hr => hr
 | c :: cs, _, h, ⟨v, vs', e, h1, h2⟩ => by
   have hd : ∀ {c : AV}, c.data = true → Rep g c n v → Rep (ghostG G F g.C W) c 1 v := fun hc hr => Rep.data (g := g) (g' := ghostG G F g.C W) (fun _ _ _ h => h) _ 1 v (data_rep hr hc)
   cases c with
   | yfn P => exact ⟨v, vs', e, ⟨Nat.one_pos, by rw [← hG]; exact h1.2⟩, gArgs_rep hG h h2⟩
   | _ =>
     simp only [gArgs, Bool.and_eq_true] at h
     exact ⟨v, vs', e, hd h.1 h1, gArgs_rep hG h.2 h2⟩
theorem guest_callOk {f : Nat} {args : List AV} {T T' : List (List AV × Bool)} {v : AV} (h : GuestOk P f args T v T') (ha : gArgs args = true) (rest : Store) (hP : ∀ g : Ghost, ∀ n vs, Reps g args n vs → g.w0.G.P = P) : CallOk P f args (.guest T :: rest) v (.guest T' :: rest) := by
 intro g w vs hI hr
 obtain ⟨_, hy, F, hrel, hF, hfF⟩ := hI.guest 0 T rfl
 refine (h g.w0.G F g.C w vs (hP g _ vs hr) hy hrel (gArgs_rep rfl ha hr)).mono ?_
 rintro val w' ⟨val', e, F', C', ⟨g0, hg0, hrep⟩, h1, h2, h3, h4, h5, h6⟩
 injection e with e
 subst e
 refine ⟨_, guest_moved hI hF hfF h2 h1 h3 h4 h5 h6, ?_⟩
 exact Rep.data (g := g0) (g' := { g with C := C' }) (by rw [hg0]; exact fun _ _ _ h => h) v _ val hrep
structure GEnt where
 f : Nat
 X : Type
 emb : X → List AV
 step : X → List (List AV × Bool) → Option (AV × List (List AV × Bool))
 inj : ∀ x y, emb x = emb y → step x = step y
open Classical in
noncomputable def tabG (P : Program) (e : GEnt) (f : Nat) (args : List AV) : Store → Option (AV × Store)
  | .guest T :: rest => if h : ∃ r : AV × List (List AV × Bool), (f = e.f ∧ ∃ x, e.emb x ++ [.yfn P] = args ∧ e.step x T = some r) ∧ gArgs args = true ∧ GuestOk P f args T r.1 r.2 then some ((Classical.choose h).1, .guest (Classical.choose h).2 :: rest) else none
  | _ => none
theorem yfn_P : ∀ (cs : List AV) (g : Ghost) (n : Nat) (vs : List Value), Reps g (cs ++ [.yfn P]) n vs → g.w0.G.P = P
 | [], _, _, _, ⟨_, _, _, h, _⟩ => h.2.1
 | _ :: cs, g, n, _, ⟨_, vs, _, _, h⟩ => yfn_P cs g n vs h
theorem tabG_ok {e : GEnt} {f : Nat} {args : List AV} {v : AV} {σ' : Store} (h : tabG P e f args σ = some (v, σ')) : CallOk P f args σ v σ' := by
 unfold tabG at h
 split at h
 · split at h
   · rename_i hx
     obtain ⟨h1, h2⟩ := pair_inj h
     obtain ⟨⟨_, x, hxx, _⟩, h4, h5⟩ := Classical.choose_spec hx
     subst h1; subst h2
     exact guest_callOk h5 h4 _ fun g n vs hr => by rw [← hxx] at hr; exact yfn_P _ g n vs hr
   · cases h
 · cases h
theorem append_one_inj {a b : List AV} {x : AV} (h : a ++ [x] = b ++ [x]) : a = b := List.append_cancel_right h
theorem tabG_hit {e : GEnt} (x : e.X) {T T' : List (List AV × Bool)} {v : AV} (hs : e.step x T = some (v, T')) (ha : gArgs (e.emb x ++ [.yfn P]) = true) (h : GuestOk P e.f (e.emb x ++ [.yfn P]) T v T') (rest : Store) :
   tabG P e e.f (e.emb x ++ [.yfn P]) (.guest T :: rest) = some (v, .guest T' :: rest) := by
 have hx : ∃ r : AV × List (List AV × Bool), (e.f = e.f ∧ ∃ y, e.emb y ++ [.yfn P] = e.emb x ++ [.yfn P] ∧ e.step y T = some r) ∧ gArgs (e.emb x ++ [.yfn P]) = true ∧ GuestOk P e.f (e.emb x ++ [.yfn P]) T r.1 r.2 := ⟨(v, T'), ⟨rfl, x, rfl, hs⟩, ha, h⟩
 obtain ⟨⟨_, y, hy, hys⟩, _⟩ := Classical.choose_spec hx
 rw [e.inj y x (append_one_inj hy), hs] at hys
 injection hys with hys
 have e1 : tabG P e e.f (e.emb x ++ [.yfn P]) (.guest T :: rest) = some ((Classical.choose hx).1, .guest (Classical.choose hx).2 :: rest) := dif_pos hx
 rw [e1, ← hys]
noncomputable def mkG (P : Program) (n0 : Nat) (ty : Nat → Option TInfo) (eqt : Nat → Option (List TK)) (e : GEnt) : Env := ⟨P, n0, ty, eqt, tabG P e, fun _ => none, noAli⟩
@[push_cast] theorem mkG_ali {n0 : Nat} {ty : Nat → Option TInfo} {eqt : Nat → Option (List TK)} {e : GEnt} : (mkG P n0 ty eqt e).ali = noAli := rfl
theorem mkG_ok {n0 : Nat} {ty : Nat → Option TInfo} {eqt : Nat → Option (List TK)} {e : GEnt} (hty : ∀ t i, ty t = some i → TyOk P t i) (heq : ∀ t ss, eqt t = some ss → EqOk P t ss) : EnvOk (mkG P n0 ty eqt e) :=
 ⟨hty, heq, fun _ _ _ _ _ h => tabG_ok h⟩
theorem mkG_seq {n0 : Nat} {ty : Nat → Option TInfo} {eqt : Nat → Option (List TK)} {e : GEnt} : SeqEnv (mkG P n0 ty eqt e) := ⟨fun _ _ h => by cases h⟩
def noDraw (_ : Nat) (_ : Array Oper) : Bool := false
theorem noDraw_ok (id : Nat) (ops : Array Oper) (h : noDraw id ops = true) : DrawSound E (E.ali id) ops := by cases h
end Go.Abs
namespace Go.Abs
section
variable {E : Env} {H : Nat → Hint} {N c : Nat} {fr : Fr} {σ : Store}
@[push_cast] theorem r_range (f : Operand) (ps : Array Tmp) (asg body : Code) : run (aev E H N c (.rangeFunc f ps asg body) fr σ) = bindO (run (aFix (H c).fix fr σ)) fun q => aevRange E (aev E H N c asg) (aev E H N c body) f ps.toList q.1 q.2 := rfl
@[push_cast] theorem r_range2 (fa fb : Fr → Store → Option ARes) (f : Operand) (ps : List Nat) : run (aevRange E fa fb f ps fr σ) = bindO (E.seq (evalO fr f)) fun xs =>
   bindO (aRange (aRound E.n0 fa fb ps (fr.map AV.noRow) σ.length) xs (keepSt E.n0 σ.length σ)) fun q => some ⟨q.1, fr.map AV.noRow, q.2⟩ := rfl
attribute [push_cast] AV.noRow AV.noRowL setPs
@[push_cast] theorem r_aRound (n0 : Nat) (fa fb : Fr → Store → Option ARes) (ps : List Nat) (m : Nat) (x : List AV) : run (aRound n0 fa fb ps fr m x σ) =
   run (iteO (decide (x.length = ps.length)) (bindO (run (fa (setPs ps x fr) σ)) fun r => thenR r fun fr' σ' => bindO (run (fb fr' σ')) fun r2 => some (r2.e, keepSt n0 m r2.σ)) none) := rfl
@[push_cast] theorem r_thenR (f : Fr → Store → Option (AExit × Store)) : run (thenR ⟨.normal, fr, σ⟩ f) = run (f fr σ) := rfl
end
end Go.Abs
namespace Go.Abs
section
variable {α β S : Type}
def stepK (n0 n : Nat) (ks : List Nat) (k : ARes → Option β) (r : ARes) : Option (Sum (Fr × Store) β) :=
 match r.e with
 | .normal => some (.inl (keepFr n0 n r.σ ks 0 r.fr, keepSl n0 n ks r.σ))
 | .exit id => bindO (run (k ⟨.exit id, r.fr, r.σ⟩)) fun y => some (.inr y)
 | .ret => bindO (run (k ⟨.ret, r.fr, r.σ⟩)) fun y => some (.inr y)
@[push_cast] theorem r_sk1 (n0 n : Nat) (ks : List Nat) (k : ARes → Option β) (fr : Fr) (σ : Store) : run (stepK n0 n ks k ⟨.normal, fr, σ⟩) = some (.inl (keepFr n0 n σ ks 0 fr, keepSl n0 n ks σ)) := rfl
@[push_cast] theorem r_sk2 (n0 n : Nat) (ks : List Nat) (k : ARes → Option β) (fr : Fr) (σ : Store) (id : Nat) : run (stepK n0 n ks k ⟨.exit id, fr, σ⟩) = bindO (run (k ⟨.exit id, fr, σ⟩)) fun y => some (.inr y) := rfl
@[push_cast] theorem r_sk3 (n0 n : Nat) (ks : List Nat) (k : ARes → Option β) (fr : Fr) (σ : Store) : run (stepK n0 n ks k ⟨.ret, fr, σ⟩) = bindO (run (k ⟨.ret, fr, σ⟩)) fun y => some (.inr y) := rfl
def nextK (F : S → Fr) (G : S → Store) : Sum S β → Sum (Fr × Store) β
 | .inl s => .inl (F s, G s)
 | .inr r => .inr r
@[push_cast] theorem nextK_l (F : S → Fr) (G : S → Store) (s : S) : nextK F G (.inl s : Sum S β) = .inl (F s, G s) := rfl
@[push_cast] theorem nextK_r (F : S → Fr) (G : S → Store) (y : β) : nextK F G (.inr y : Sum S β) = .inr y := rfl
end
end Go.Abs
