import Derived.Test.YtecjmbaepioobaaGreatAbs24z
import Derived.Test.YtecjmbaepioobaaGreatAbs19ftoAbs24
import Derived.KernelRfl
set_option linter.unusedSimpArgs false
set_option linter.unusedVariables false
namespace Go.Abs
open Go.RowKit
variable {E : Env} {g : Ghost} {σ : Store} {w : World}
end Go.Abs
namespace Go.Abs
open Go.RowKit
def zChk : AV → Value → Bool
 | .int k n, .int k' n' => decide (k = k') && decide (n = n')
 | .bool b, .bool b' => b == b'
 | .str s, .string s' => s.data.toList.isEmpty && s'.data.toList.isEmpty
 | .sl true _ [], .slice none 0 0 => true
 | .nilfn, .nilFunc => true
 | .nilp, .pointer none => true
 | .nilmap, .map none => true
 | .nilif, .nilIface => true
 | _, _ => false
def zsChk : List AV → List Value → Bool
 | [], [] => true
 | c :: cs, v :: vs => zChk c v && zsChk cs vs
 | _, _ => false
theorem bytes_empty {s : ByteArray} (h : s.data.toList.isEmpty = true) : s = ⟨#[]⟩ := by
 obtain ⟨⟨l⟩⟩ := s
 simp at h
 rw [h]
theorem zChk_rep {c : AV} {v : Value} (h : zChk c v = true) (g : Ghost) (n : Nat) : Rep g c n v := by
 unfold zChk at h
 split at h <;> try (cases h; done)
 · simp only [Bool.and_eq_true, decide_eq_true_eq] at h; show _ = _; rw [h.1, h.2]
 · show _ = _; rw [eq_of_beq h]
 · simp only [Bool.and_eq_true] at h; show _ = _; rw [bytes_empty h.1, bytes_empty h.2]
 · exact ⟨none, 0, rfl, Nat.le_refl _, fun _ => rfl, .inl rfl⟩
 · rfl
 · rfl
 · rfl
 · rfl
theorem zChk_leaf {c : AV} {v : Value} (h : zChk c v = true) : c.leaf = true := by
 unfold zChk at h
 split at h <;> first | rfl | cases h
theorem zsChk_rep : ∀ {cs : List AV} {vs : List Value}, zsChk cs vs = true → ∀ (g : Ghost) (n : Nat), Reps g cs n vs
 | [], [], _, _, _ => rfl
 | c :: cs, v :: vs, h, g, n => by
   simp only [zsChk, Bool.and_eq_true] at h
   exact ⟨v, vs, rfl, zChk_rep h.1 g n, zsChk_rep h.2 g n⟩
 | [], _ :: _, h, _, _ => by cases h
 | _ :: _, [], h, _, _ => by cases h
theorem zsChk_leaf : ∀ {cs : List AV} {vs : List Value}, zsChk cs vs = true → allLeaf cs = true
 | [], [], _ => rfl
 | c :: cs, v :: vs, h => by
   simp only [zsChk, Bool.and_eq_true] at h
   simp only [allLeaf, zChk_leaf h.1, zsChk_leaf h.2, Bool.and_self]
 | [], _ :: _, h => by cases h
 | _ :: _, [], h => by cases h
def fsChk : List Field → List (Nat × Nat) → Bool
 | [], [] => true
 | f :: fs, p :: ps => decide (f.type = p.1) && decide (f.offset = p.2) && fsChk fs ps
 | _, _ => false
theorem fsChk_eq : ∀ {fs : List Field} {ps : List (Nat × Nat)}, fsChk fs ps = true → fs.map (fun f => (f.type, f.offset)) = ps
 | [], [], _ => rfl
 | f :: fs, p :: ps, h => by
   simp only [fsChk, Bool.and_eq_true, decide_eq_true_eq] at h
   rw [List.map_cons, fsChk_eq h.2, h.1.1, h.1.2]
 | [], _ :: _, h => by cases h
 | _ :: _, [], h => by cases h
def descChk : TypeDesc → TK → Bool
 | .int k, .int k' => decide (k = k')
 | .bool, .bool => true
 | .string, .string => true
 | .struct fs, .struct gs => fsChk fs.toList gs
 | .array n e, .array n' e' => decide (n = n') && decide (e = e')
 | .slice e, .slice e' => decide (e = e')
 | .map k e, .map k' e' => decide (k = k') && decide (e = e')
 | .func _ _ _, .other => true
 | .pointer _, .other => true
 | .interface _, .other => true
 | .tuple _, .other => true
 | _, _ => false
theorem descChk_ok {d : TypeDesc} {k : TK} (h : descChk d k = true) : descOk d k := by
 unfold descChk at h
 split at h <;> first | trivial | exact fsChk_eq h | (cases h; done) | (simp only [Bool.and_eq_true, decide_eq_true_eq] at h; exact h)
def subsChk (P : Program) : List (Nat × Nat) → Bool
 | [] => true
 | f :: fs => (P.info? f.1).isSome && subsChk P fs
theorem subsChk_ok {P : Program} : ∀ {fs : List (Nat × Nat)}, subsChk P fs = true → ∀ f ∈ fs, (P.info? f.1).isSome = true
 | [], _, _, h => by simp at h
 | f :: fs, h, f', hf => by
   simp only [subsChk, Bool.and_eq_true] at h
   rcases List.mem_cons.1 hf with rfl | hf
   · exact h.1
   · exact subsChk_ok h.2 f' hf
def subChk (P : Program) : TK → Bool
 | .struct gs => subsChk P gs
 | _ => true
def aggZ : Value → Bool
 | .agg _ => true
 | _ => false
def tyChk (P : Program) (t : Nat) (i : TInfo) : Bool :=
 match P.info? t, P.underlying t with
 | some ti, some d => (match ti.zero with
   | some z => decide (ti.size = i.size) && decide (ti.bytes = i.bytes) && zsChk i.zero z.cells.toList && z.cells.toList.all (·.oneCell') && decide (i.zero.length = i.size) && (match i.k.agg with | true => aggZ z | false => z.oneCell')
   | none => false) && descChk d i.k && subChk P i.k
 | _, _ => false
theorem tyChk_ok {P : Program} {t : Nat} {i : TInfo} (h : tyChk P t i = true) : TyOk P t i := by
 unfold tyChk at h
 split at h
 · rename_i ti d hi hu
   simp only [Bool.and_eq_true] at h
   obtain ⟨⟨h1, h2⟩, h3⟩ := h
   split at h1
   · rename_i z hz
     simp only [Bool.and_eq_true, decide_eq_true_eq] at h1
     obtain ⟨⟨⟨⟨⟨ha, hb⟩, hc⟩, hd⟩, he⟩, hf⟩ := h1
     refine ⟨⟨ti, z, hi, ha, hb, hz, zsChk_rep hc, hd, he, zsChk_leaf hc, ?_⟩, ⟨d, hu, descChk_ok h2⟩, fun gs hgs => ?_⟩
     · cases hk : i.k.agg with
       | true => rw [hk] at hf; cases z <;> first | rfl | cases hf
       | false => rw [hk] at hf; exact hf
     · rw [hgs] at h3; exact subsChk_ok h3
   · cases h1
 · cases h
def tysChk (P : Program) : Nat → List (Option TInfo) → Bool
 | _, [] => true
 | t, none :: is => tysChk P (t + 1) is
 | t, some i :: is => tyChk P t i && tysChk P (t + 1) is
def tyAt (l : List (Option TInfo)) (t : Nat) : Option TInfo := l.getD t none
theorem tysChk_ok {P : Program} : ∀ (l : List (Option TInfo)) (k : Nat), tysChk P k l = true → ∀ t i, tyAt l t = some i → TyOk P (k + t) i
 | [], _, _, _, _, h => by simp [tyAt] at h
 | none :: is, k, h, 0, i, hi => by simp [tyAt] at hi
 | none :: is, k, h, t + 1, i, hi => by
   have := tysChk_ok is (k + 1) h t i (by simpa [tyAt] using hi)
   rwa [show k + 1 + t = k + (t + 1) by omega] at this
 | some i' :: is, k, h, 0, i, hi => by
   simp only [tysChk, Bool.and_eq_true] at h
   simp [tyAt] at hi
   subst hi
   exact tyChk_ok h.1
 | some i' :: is, k, h, t + 1, i, hi => by
   simp only [tysChk, Bool.and_eq_true] at h
   have := tysChk_ok is (k + 1) h.2 t i (by simpa [tyAt] using hi)
   rwa [show k + 1 + t = k + (t + 1) by omega] at this
end Go.Abs
