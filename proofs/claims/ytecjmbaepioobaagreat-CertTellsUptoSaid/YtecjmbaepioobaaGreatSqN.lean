import Derived.Test.YtecjmbaepioobaaGreatAbs2toAbs30
import Derived.Test.YtecjmbaepioobaaGreatSqTys
import Derived.KernelRfl
set_option linter.unusedSimpArgs false
set_option linter.unusedVariables false
namespace Go.Abs.Try
open Go.RowKit
theorem follows : Proofs.Tryz.prog.follows .mixedOrders = true := by kernel_rfl
structure Node where
 op : Int
 sortf : Int
 name : ByteArray
 num : Int
 kids : List Node
 deriving Inhabited
mutual
def Node.cells : Node → List AV
  | ⟨o, s, nm, nu, ks⟩ => [.int .i64 o, .int .i64 s, .str nm, .int .i64 nu, .sl false 5 (Node.cellsL ks)]
def Node.cellsL : List Node → List (List AV)
  | [] => []
  | k :: ks => k.cells :: Node.cellsL ks
end
theorem Node.cellsL_eq : ∀ l : List Node, Node.cellsL l = List.map Node.cells l
 | [] => by simp only [Node.cellsL, List.map_nil]
 | k :: ks => by simp only [Node.cellsL, List.map_cons, Node.cellsL_eq ks]
theorem Node.cells_eq (x : Node) : Node.cells x = [.int .i64 x.op, .int .i64 x.sortf, .str x.name, .int .i64 x.num, .sl false 5 (List.map Node.cells x.kids)] := by
 cases x; simp only [Node.cells, Node.cellsL_eq]
theorem Node.ext' {a b : Node} (h0 : a.op = b.op) (h1 : a.sortf = b.sortf) (h2 : a.name = b.name) (h3 : a.num = b.num) (h4 : a.kids = b.kids) : a = b := by
 cases a; cases b; simp_all
theorem Node.eta (n : Node) : (⟨n.op, n.sortf, n.name, n.num, n.kids⟩ : Node) = n := by cases n; rfl
mutual
theorem Node.cells_inj : ∀ (a b : Node), Node.cells a = Node.cells b → a = b
  | ⟨o, s, nm, nu, ks⟩, ⟨o', s', nm', nu', ks'⟩, h => by
    simp only [Node.cells, List.cons.injEq, AV.int.injEq, AV.str.injEq, AV.sl.injEq, true_and, and_true] at h
    obtain ⟨h1, h2, h3, h4, h5⟩ := h
    rw [h1, h2, h3, h4, Node.cellsL_inj ks ks' h5]
theorem Node.cellsL_inj : ∀ (a b : List Node), Node.cellsL a = Node.cellsL b → a = b
  | [], [], _ => rfl
  | [], _ :: _, h => by simp only [Node.cellsL] at h; cases h
  | _ :: _, [], h => by simp only [Node.cellsL] at h; cases h
  | k :: ks, k' :: ks', h => by
    simp only [Node.cellsL, List.cons.injEq] at h
    rw [Node.cells_inj k k' h.1, Node.cellsL_inj ks ks' h.2]
end
mutual
def Node.size : Node → Nat
  | ⟨_, _, _, _, ks⟩ => 1 + Node.sizeL ks
def Node.sizeL : List Node → Nat
  | [] => 0
  | k :: ks => k.size + Node.sizeL ks
end
theorem Node.sizeL_eq : ∀ l : List Node, Node.sizeL l = (l.map Node.size).sum
 | [] => by simp only [Node.sizeL, List.map_nil, List.sum_nil]
 | k :: ks => by simp only [Node.sizeL, List.map_cons, List.sum_cons, Node.sizeL_eq ks]
theorem Node.size_eq (n : Node) : n.size = 1 + (n.kids.map Node.size).sum := by
 cases n; simp only [Node.size, Node.sizeL_eq]
theorem mem_size {k : Node} : ∀ {l : List Node}, k ∈ l → k.size ≤ (l.map Node.size).sum
 | x :: xs, h => by
   rcases List.mem_cons.1 h with rfl | h
   · simp
   · have := mem_size h; simp; omega
theorem kids_size {n k : Node} (h : k ∈ n.kids) : k.size < n.size := by
 have := mem_size h
 rw [n.size_eq]; omega
theorem size_pos (n : Node) : 1 ≤ n.size := by rw [n.size_eq]; omega
theorem len_sum : ∀ (l : List Node), l.length ≤ (l.map Node.size).sum
 | [] => by simp
 | x :: xs => by have := size_pos x; have := len_sum xs; simp; omega
theorem kids_len (n : Node) : n.kids.length < n.size := by
 have := len_sum n.kids
 rw [n.size_eq]; omega
theorem kids_get (l : List Node) (i : Nat) : (l.map Node.cells)[i]? = (l[i]?).map Node.cells := by simp
end Go.Abs.Try
