import Derived.Test.YtjjajifecniidaaGreatAbs7toAbs13
import Derived.OrdersIn
import Derived.LoopNIn
import Derived.RangeFuncOwn
namespace Go.Abs
open Go.RowKit
variable {E : Env} {g : Ghost} {σ : Store} {w : World}

theorem beq_bytes (a b : ByteArray) : (a == b) = true ↔ a = b := by
  cases a; cases b
  show ByteArray.beq _ _ = true ↔ _
  simp [ByteArray.beq]
theorem keyEq_iff {a b : MKey} : keyEq a b = true ↔ a = b := by
  cases a <;> cases b <;> simp [keyEq, beq_bytes]
theorem keyEq_refl (a : MKey) : keyEq a a = true := keyEq_iff.2 rfl
theorem keyEq_false {a b : MKey} : keyEq a b = false ↔ a ≠ b := by
  rw [← Bool.not_eq_true, keyEq_iff]
theorem mapPut_same (f : MKey → Option AV) (k : MKey) (v : AV) : mapPut f k v k = some v := by simp [mapPut, keyEq_refl]
theorem mapPut_other (f : MKey → Option AV) (k k' : MKey) (v : AV) (h : k' ≠ k) : mapPut f k v k' = f k' := by simp [mapPut, keyEq_false.2 h]
theorem tkSame_eq {a b : TK} (h : tkSame a b = true) : a = b := by
  cases a <;> cases b <;> simp [tkSame] at h <;> simp_all
theorem toKey_rep {kk : TK} {x : AV} {key : MKey} {n : Nat} {v : Value} (h : toKey kk x = some key) (hr : Rep g x n v) : keyVal kk key v := by
  cases kk <;> cases x <;> simp [toKey] at h
  · obtain ⟨h1, h2⟩ := iteO_none h
    injection h2 with h2
    have := of_decide_eq_true h1
    subst h2; subst this
    exact hr
  · subst h; exact hr
  · subst h; exact hr
theorem sameNow_key {d : TypeDesc} {kk : TK} (hd : descOk d kk) {a b : MKey} {v u : Value} (ha : keyVal kk a v) (hb : keyVal kk b u) : Instr.sameNow d v u = some (keyEq a b) := by
  cases kk <;> cases a <;> simp [keyVal] at ha <;> cases b <;> simp [keyVal] at hb
  · have := desc_int hd; subst this; subst ha; subst hb; simp [Instr.sameNow, keyEq]
  · have := desc_bool hd; subst this; subst ha; subst hb; simp [Instr.sameNow, keyEq]
  · have := desc_string hd; subst this; subst ha; subst hb; simp [Instr.sameNow, keyEq]
theorem sameBits_key {kk : TK} {a : MKey} {v u : Value} (ha : keyVal kk a v) (hb : keyVal kk a u) : Instr.sameBits 10000 v u = true := by
  cases kk <;> cases a <;> simp [keyVal] at ha hb <;> subst ha <;> subst hb <;> simp [Instr.sameBits, beq_bytes]

theorem find_ok {d : TypeDesc} {kk : TK} (hd : descOk d kk) {key : MKey} {kv : Value} (hk : keyVal kk key kv) : ∀ {es : List MapEntry} {m : MKey → Option AV} (i : Nat), MapOk g kk m es →
    (Instr.findNow d kv es i = some none ∧ m key = none) ∨ (∃ j e v, es[j]? = some e ∧ keyVal kk key e.key ∧ Instr.findNow d kv es i = some (some (i + j, e.val)) ∧ m key = some v ∧ Rep g v 0 e.val)
  | [], m, i, h => .inl ⟨rfl, h key⟩
  | e :: es, m, i, ⟨key', hk', ⟨v, hv, hr⟩, m', hm, he⟩ => by
    have hs := sameNow_key hd hk hk'
    cases hq : keyEq key key' with
    | true =>
      have := keyEq_iff.1 hq
      subst this
      exact .inr ⟨0, e, v, rfl, hk', by simp [Instr.findNow, hs, hq], hv, hr⟩
    | false =>
      rcases find_ok hd hk (i + 1) hm with ⟨h1, h2⟩ | ⟨j, e', v', h1, h2, h3, h4, h5⟩
      · exact .inl ⟨by simp [Instr.findNow, hs, hq, h1], by rw [he key hq]; exact h2⟩
      · exact .inr ⟨j + 1, e', v', by simpa using h1, h2, by simp [Instr.findNow, hs, hq, h3]; omega, by rw [he key hq]; exact h4, h5⟩

theorem MapOk.push {kk : TK} {key : MKey} {kv : Value} (hk : keyVal kk key kv) {v : AV} {val : Value} (hr : Rep g v 0 val) (born : Nat) : ∀ {es : List MapEntry} {m : MKey → Option AV}, m key = none → MapOk g kk m es →
    MapOk g kk (mapPut m key v) (es ++ [⟨kv, val, born⟩])
  | [], m, _, h => ⟨key, hk, ⟨v, mapPut_same m key v, hr⟩, fun _ => none, fun _ => rfl, fun k hkk => by rw [mapPut_other _ _ _ _ (keyEq_false.1 hkk), h k]⟩
  | e :: es, m, hn, ⟨key', hk', ⟨v', hv, hr'⟩, m', hm, he⟩ => by
    have hne : key ≠ key' := fun e => by rw [e, hv] at hn; cases hn
    refine ⟨key', hk', ⟨v', by rw [mapPut_other _ _ _ _ hne.symm]; exact hv, hr'⟩, mapPut m' key v, MapOk.push hk hr born (by rw [← he key (keyEq_false.2 hne)]; exact hn) hm, fun k hkk => ?_⟩
    by_cases h : k = key
    · subst h; rw [mapPut_same, mapPut_same]
    · rw [mapPut_other _ _ _ _ h, mapPut_other _ _ _ _ h, he k hkk]
theorem MapOk.set {kk : TK} {key : MKey} {kv : Value} (hk : keyVal kk key kv) {v : AV} {val : Value} (hr : Rep g v 0 val) : ∀ {es : List MapEntry} {m : MKey → Option AV} {j : Nat} {e : MapEntry}, es[j]? = some e → keyVal kk key e.key →
    MapOk g kk m es → (∀ i, i < j → ∀ e', es[i]? = some e' → ¬ keyVal kk key e'.key) → MapOk g kk (mapPut m key v) (es.modify j fun e => { e with key := kv, val := val })
  | [], _, _, _, h, _, _, _ => by simp at h
  | e :: es, m, 0, _, h, hke, ⟨key', hk', ⟨v', hv, hr'⟩, m', hm, he⟩, _ => by
    simp at h
    subst h
    have : key' = key := by
      cases kk <;> cases key <;> simp [keyVal] at hke <;> cases key' <;> simp [keyVal] at hk' <;> simp_all
    subst this
    refine ⟨key', hk, ⟨v, mapPut_same m key' v, hr⟩, m', hm, fun k hkk => ?_⟩
    rw [mapPut_other _ _ _ _ (keyEq_false.1 hkk), he k hkk]
  | e :: es, m, j + 1, e', h, hke, ⟨key', hk', ⟨v', hv, hr'⟩, m', hm, he⟩, hlt => by
    have hne : key' ≠ key := fun h => hlt 0 (by omega) e rfl (h ▸ hk')
    rw [List.modify_succ_cons]
    refine ⟨key', hk', ⟨v', by rw [mapPut_other _ _ _ _ hne]; exact hv, hr'⟩, mapPut m' key v,
      MapOk.set hk hr (by simpa using h) hke hm (fun i hi e'' he'' => hlt (i + 1) (by omega) e'' (by simpa using he'')), fun k hkk => ?_⟩
    by_cases h : k = key
    · subst h; rw [mapPut_same, mapPut_same]
    · rw [mapPut_other _ _ _ _ h, mapPut_other _ _ _ _ h, he k hkk]
/-- Behind the first entry of a key stands no other. -/
theorem find_first {d : TypeDesc} {kk : TK} (hd : descOk d kk) {key : MKey} {kv : Value} (hk : keyVal kk key kv) : ∀ {es : List MapEntry} {m : MKey → Option AV} (i j : Nat) (v : Value), MapOk g kk m es →
    Instr.findNow d kv es i = some (some (i + j, v)) → ∀ k, k < j → ∀ e', es[k]? = some e' → ¬ keyVal kk key e'.key
  | [], _, i, j, v, _, h => by simp [Instr.findNow] at h
  | e :: es, m, i, j, v, ⟨key', hk', _, m', hm, _⟩, h => by
    have hs := sameNow_key hd hk hk'
    intro k hkj e' he' hke
    simp only [Instr.findNow, hs] at h
    cases hq : keyEq key key' with
    | true => rw [hq] at h; simp at h; omega
    | false =>
      rw [hq] at h
      simp only at h
      cases k with
      | zero =>
        simp at he'
        subst he'
        have : key = key' := by
          cases kk <;> cases key <;> simp [keyVal] at hke <;> cases key' <;> simp [keyVal] at hk' <;> simp_all
        exact keyEq_false.1 hq this
      | succ k =>
        obtain ⟨j', rfl⟩ : ∃ j', j = j' + 1 := ⟨j - 1, by omega⟩
        exact find_first hd hk (i + 1) j' v hm (by rw [h]; congr 3; omega) k (by omega) e' (by simpa using he') hke

theorem checkKey_ok {P : Program} {t : TypeId} {d : TypeDesc} (hd1 : P.underlying t = some d) {kk : TK} (hd : descOk d kk) {key : MKey} {kv : Value} (hk : keyVal kk key kv) (b : Bool) :
    (Instr.checkKey b 10000 t kv).run P w = .ok () w := by
  show (Instr.checkKey b (9999 + 1) t kv).run P w = .ok () w
  unfold Instr.checkKey
  rw [Sem.run_bind, run_underlying hd1 w]
  cases kk <;> cases key <;> simp [keyVal] at hk <;> subst hk
  · have := desc_int hd; subst this; rfl
  · have := desc_bool hd; subst this; rfl
  · have := desc_string hd; subst this; rfl

theorem getObj_map {P : Program} {r : Nat} {es : Array MapEntry} {c : Nat} (h : w.heap[r]? = some (.map es c)) : (getObj r).run P w = .ok (.map es c) w := by
  simp [getObj, Sem.run, h]

theorem lookup_sound (hty : ∀ t i, E.ty t = some i → TyOk E.P t i) (hI : Inv g σ w) {t : Nat} {m k v : AV} {ok : Bool} {n : Nat} {mv kv : Value} (h : aLookup E σ t m k ok = some v) (hm : Rep g m n mv) (hk : Rep g k n kv) :
    ∃ u, (Instr.lookup t mv kv ok).run E.P w = .ok u w ∧ Rep g v n u := by
  obtain ⟨ti, ht, h⟩ := bindO_eq h
  obtain ⟨ke, hke, h⟩ := bindO_eq h
  obtain ⟨ki, hki, h⟩ := bindO_eq h
  obtain ⟨ei, hei, h⟩ := bindO_eq h
  obtain ⟨f, hf, h⟩ := bindO_eq h
  obtain ⟨hsame, h⟩ := iteO_none h
  obtain ⟨key, hkey, h⟩ := bindO_eq h
  have hsame := tkSame_eq hsame
  obtain ⟨d, hd1, hd2⟩ := (hty t ti ht).und
  rw [tkMap_eq hke] at hd2
  have := desc_map hd2
  subst this
  obtain ⟨dk, hdk1, hdk2⟩ := (hty _ ki hki).und
  obtain ⟨tinf, z, hinfo, hts, htb, htz, hzr, hz1, hzl, hzleaf, hshape⟩ := (hty _ ei hei).info
  have hkv := toKey_rep hkey hk
  cases m with
  | map id =>
    have hf := objMap_eq hf
    obtain ⟨hid, rfl⟩ := hm
    obtain ⟨ents, clock, hheap, hmok⟩ := hI.objs id _ hf
    rw [hsame] at hmok
    have hck := checkKey_ok (w := w) hdk1 hdk2 hkv ents.isEmpty
    have hfk : ∀ r, Instr.findNow dk kv ents.toList 0 = some r → (Instr.findKey ke.1 kv ents.toList).run E.P w = .ok r w := fun r hr => by
      simp [Instr.findKey, run_underlying hdk1, hr]
    rcases find_ok hdk2 hkv 0 hmok with ⟨h1, h2⟩ | ⟨j, e, v', h1, h2, h3, h4, h5⟩
    · have h : foundOr ok ei (f.2 key) = some v := by assumption
      rw [h2] at h
      obtain ⟨v0, hv0, h⟩ := bindO_eq h
      injection h with h
      subst h
      have hz : Rep g v0 n z := by
        cases hagg : ei.k.agg with
        | true =>
          rw [hagg] at hv0 hshape
          simp [ofCellsK] at hv0
          subst hv0
          rw [hshape]
          exact ⟨z.cells.toList, by simp, hzr g n⟩
        | false =>
          rw [hagg] at hv0 hshape
          cases hzz : ei.zero with
          | nil => rw [hzz] at hv0; simp [ofCellsK] at hv0
          | cons c cs =>
            cases cs with
            | cons _ _ => rw [hzz] at hv0; simp [ofCellsK] at hv0
            | nil =>
              rw [hzz] at hv0
              simp [ofCellsK] at hv0
              subst hv0
              have hr := hzr g n
              rw [hzz, cells_one hshape] at hr
              obtain ⟨u, us, e, hu, _⟩ := hr
              simp at e
              rw [e.1]; exact hu
      have hrun : (Instr.lookup t (.map (some (g.blk id))) kv ok).run E.P w = .ok (if ok then .tuple #[z, .bool false] else z) w := by
        simp [Instr.lookup, run_underlying hd1, getObj_map hheap, hck, hfk _ h1, zeroValue, typeInfo, hinfo, htz]
      refine ⟨_, hrun, ?_⟩
      cases ok with
      | true => exact ⟨[z, .bool false], rfl, z, _, rfl, hz, _, _, rfl, rfl, rfl⟩
      | false => exact hz
    · have h : foundOr ok ei (f.2 key) = some v := by assumption
      rw [h4] at h
      injection h with h
      subst h
      have hv : Rep g v' n e.val := Rep.mono (Ext.refl g n) _ 0 n _ (Nat.zero_le _) (Nat.zero_le _) h5
      have hrun : (Instr.lookup t (.map (some (g.blk id))) kv ok).run E.P w = .ok (if ok then .tuple #[e.val, .bool true] else e.val) w := by
        simp [Instr.lookup, run_underlying hd1, getObj_map hheap, hck, hfk _ h3]
      refine ⟨_, hrun, ?_⟩
      cases ok with
      | true => exact ⟨[e.val, .bool true], rfl, e.val, _, rfl, hv, _, _, rfl, rfl, rfl⟩
      | false => exact hv
  | _ => simp [mapOf] at hf
end Go.Abs
namespace Go.Abs
open Go.RowKit
variable {E : Env} {g : Ghost} {σ : Store} {w : World}

theorem Inv.newMap (h : Inv g σ w) (kk : TK) : Moved g (g.push σ.length w.heap.size) σ (σ ++ [.map kk fun _ => none]) (w.alloc (.map #[] 0)) := by
  have he := g.push_ext σ.length w.heap.size σ.length (Nat.le_refl _)
  refine ⟨he, h.change σ.length he (by simp) (fun j hj => push_get j hj) (fun _ _ => rfl) (fun k hk _ => Below.heap_alloc w _ k hk) ((Below.refl _ w).alloc (Nat.zero_le _) _) (by simp) (fun _ _ _ hv => .inl hv) (fun o ho => ?_), by simp⟩
  rw [push_last] at ho
  injection ho with ho
  subst ho
  refine ⟨⟨#[], 0, ?_, fun _ => rfl⟩, fun b hb => ?_⟩
  · simp only [Ghost.push, if_true]; exact heap_new w _
  · simp [owned, Ghost.push] at hb
    subst hb
    refine ⟨.inl (Nat.le_refl _), by simp, fun off => ?_⟩
    cases hc : g.C w.heap.size off with
    | none => exact hc
    | some v => have := h.lt hc; omega

def World.putObj' (w : World) (r : Nat) (o : Obj) : World := { w with heap := w.heap.setIfInBounds r o }
theorem putObj_get (w : World) (r : Nat) (o : Obj) (k : Nat) (h : k ≠ r) : (World.putObj' w r o).heap[k]? = w.heap[k]? := by
  simp [World.putObj', Ne.symm h]
theorem putObj_same (w : World) (r : Nat) (o : Obj) (h : r < w.heap.size) : (World.putObj' w r o).heap[r]? = some o := by
  simp [World.putObj', h]

theorem mapUpdate_sound (hty : ∀ t i, E.ty t = some i → TyOk E.P t i) (hI : Inv g σ w) {t : Nat} {m k v : AV} {σ' : Store} {mv kv vv : Value} (h : aMapUpdate E σ t m k v = some σ')
    (hm : Rep g m σ.length mv) (hk : Rep g k σ.length kv) (hv : Rep g v σ.length vv) :
    ∃ g' w', (Instr.mapUpdate t mv kv vv).run E.P w = .ok () w' ∧ Moved g g' σ σ' w' := by
  obtain ⟨ti, ht, h⟩ := bindO_eq h
  obtain ⟨ke, hke, h⟩ := bindO_eq h
  obtain ⟨ki, hki, h⟩ := bindO_eq h
  obtain ⟨d, hd1, hd2⟩ := (hty t ti ht).und
  rw [tkMap_eq hke] at hd2
  have := desc_map hd2
  subst this
  obtain ⟨dk, hdk1, hdk2⟩ := (hty _ ki hki).und
  cases m with
  | map id =>
    obtain ⟨key, hkey, h⟩ := bindO_eq h
    obtain ⟨q, hq, h⟩ := bindO_eq h
    obtain ⟨f, hf, h⟩ := bindO_eq h
    obtain ⟨hsame, h⟩ := iteO_none h
    injection h with h
    subst h
    have hsame := tkSame_eq hsame
    have hf := objMap_eq hf
    have hkv := toKey_rep hkey hk
    obtain ⟨g1, f1, r1⟩ := freeze_sound hI (Nat.le_refl _) hq hv
    obtain ⟨hid, rfl⟩ := hm
    rw [← f1.blk]
    obtain ⟨ents, clock, hheap, hmok⟩ := f1.inv.objs id _ hf
    rw [hsame] at hmok
    have hsep := f1.inv.sep id _ _ hf rfl
    have hid1 : id < q.2.length := by rw [f1.len]; exact hid
    have hck := checkKey_ok (w := w) hdk1 hdk2 hkv false
    have hfk : ∀ r, Instr.findNow dk kv ents.toList 0 = some r → (Instr.findKey ke.1 kv ents.toList).run E.P w = .ok r w := fun r hr => by
      simp [Instr.findKey, run_underlying hdk1, hr]
    have hset : ∀ o : Obj, (setObj (g1.blk id) o).run E.P w = .ok () (World.putObj' w (g1.blk id) o) := fun o => by
      simp [setObj, Sem.run, hheap, World.putObj']
    have fin : ∀ (es' : Array MapEntry) (c' : Nat), MapOk g1 ki.k (mapPut f.2 key q.1) es'.toList →
        Moved g g1 σ (q.2.set id (.map f.1 (mapPut f.2 key q.1))) (World.putObj' w (g1.blk id) (.map es' c')) := fun es' c' hok => by
      refine ⟨f1.ext, ?_, by simp [f1.len]⟩
      refine f1.inv.change id (Ext.refl g1 _) (by simp) (fun j hj => set_other j hj) (fun _ _ => rfl) (fun k' _ hk' => putObj_get _ _ _ _ fun e => hk' _ hf (by rw [e]; rfl))
        ⟨rfl, rfl, rfl, by simp [World.putObj'], fun k' hk' => absurd hk' (Nat.not_lt_zero _)⟩ (by simp [World.putObj']) (fun _ _ _ h => .inl h) (fun o ho => ?_)
      rw [set_same hf] at ho
      injection ho with ho
      subst ho
      refine ⟨⟨es', c', putObj_same _ _ _ hsep.2.1, by rw [hsame]; exact hok⟩, fun b hb => ⟨.inr ⟨_, hf, hb⟩, ?_, ?_⟩⟩
      · simp [owned] at hb; subst hb; simpa [World.putObj'] using hsep.2.1
      · simp [owned] at hb; subst hb; exact hsep.2.2
    rcases find_ok hdk2 hkv 0 hmok with ⟨h1, h2⟩ | ⟨j, e, v', h1, h2, h3, h4, h5⟩
    · refine ⟨g1, _, ?_, fin (ents.push { key := kv, val := vv, born := clock }) (clock + 1) (by rw [Array.toList_push]; exact MapOk.push hkv r1 clock h2 hmok)⟩
      simp [Instr.mapUpdate, run_underlying hd1, getObj_map hheap, hck, hfk _ h1, hset]
    · have hfirst := find_first hdk2 hkv 0 j e.val hmok h3
      refine ⟨g1, _, ?_, fin (ents.modify j fun e => { e with key := kv, val := vv }) clock (by rw [Array.toList_modify]; exact MapOk.set hkv r1 h1 h2 hmok hfirst)⟩
      have he : ents[j]? = some e := by simpa using h1
      have hstay : (Instr.keyThatStays e.key kv).run E.P w = .ok kv w := by
        simp [Instr.keyThatStays, sameBits_key h2 hkv]
      simp [Instr.mapUpdate, run_underlying hd1, getObj_map hheap, hck, hfk _ h3, he, hstay, hset]
  | _ => simp [aMapUpdateV] at h

theorem len_sound (hty : ∀ t i, E.ty t = some i → TyOk E.P t i) (hI : Inv g σ w) {ts : Array TypeId} {x v : AV} {n ty : Nat} {xv : Value} (h : aLen E σ ts.toList x = some v) (hx : Rep g x n xv) :
    ∃ u, (Builtin.len_ ts ty #[xv]).run E.P w = .ok u w ∧ Rep g v n u := by
  obtain ⟨t, ht, h1⟩ := bindO_eq h
  obtain ⟨ti, hti, h2⟩ := bindO_eq h1
  clear h h1
  have hts : ts = #[t] := by
    cases hl : ts.toList with
    | nil => rw [hl] at ht; simp [oneType] at ht
    | cons a l =>
      cases l with
      | nil => rw [hl] at ht; simp [oneType] at ht; subst ht; exact Array.ext' hl
      | cons _ _ => rw [hl] at ht; simp [oneType] at ht
  subst hts
  obtain ⟨d, hd1, hd2⟩ := (hty t ti hti).und
  cases hk : ti.k with
  | string =>
    rw [hk] at h2 hd2
    have := desc_string hd2; subst this
    cases x with
    | str s =>
      simp [aLenK] at h2
      subst h2
      have hx : xv = _ := hx
      subst hx
      exact ⟨_, by simp [Builtin.len_, run_underlying hd1]; rfl, rfl⟩
    | _ => simp [aLenK] at h2
  | slice e =>
    rw [hk] at h2 hd2
    have := desc_slice hd2; subst this
    cases x with
    | sl f sz es =>
      simp [aLenK] at h2
      subst h2
      obtain ⟨a, cap, rfl, _⟩ := hx
      exact ⟨_, by simp [Builtin.len_, run_underlying hd1]; rfl, rfl⟩
    | rs id ver =>
      obtain ⟨p, hc, h3⟩ := bindO_eq h2
      injection h3 with h3
      subst h3
      obtain ⟨_, hh, _⟩ := hx
      obtain ⟨⟨a, cap, hh', _⟩, _⟩ := hI.objs id _ (cur_eq hc)
      rw [hh] at hh'
      injection hh' with hh'
      subst hh'
      exact ⟨_, by simp [Builtin.len_, run_underlying hd1]; rfl, rfl⟩
    | _ => simp [aLenK] at h2
  | _ => rw [hk] at h2; simp [aLenK] at h2

theorem minmax_sound {P : Program} {ts : Array TypeId} {ty : Nat} {mx : Bool} {x y v : AV} {n : Nat} {xv yv : Value} (h : aMinMax mx x y = some v) (hx : Rep g x n xv) (hy : Rep g y n yv) :
    ∃ u, ((match mx with | true => Builtin.max_ | false => Builtin.min_) ts ty #[xv, yv]).run P w = .ok u w ∧ Rep g v n u := by
  cases x <;> cases y <;> simp [aMinMax] at h
  rename_i k a j b
  subst h
  have hx : xv = _ := hx
  have hy : yv = _ := hy
  subst hx; subst hy
  cases mx with
  | true =>
    refine ⟨.int k (max a b), ?_, rfl⟩
    have : (if b > a then b else a) = max a b := by rw [Int.max_def]; split <;> split <;> omega
    simp [Builtin.max_, Builtin.max2, ← this]
  | false =>
    refine ⟨.int k (min a b), ?_, rfl⟩
    have : (if b < a then b else a) = min a b := by rw [Int.min_def]; split <;> split <;> omega
    simp [Builtin.min_, Builtin.min2, ← this]

theorem optI_rep {n : Nat} {fr : Fr} {a : Act} (h : FrOk g n fr a.tmps) {o : Option Operand} {i : Option Int} (hi : optI fr o = some i) :
    (i = none ∧ o.map a.eval = none) ∨ (∃ j k, i = some j ∧ o.map a.eval = some (.int k j)) := by
  cases o with
  | none => simp [optI] at hi; exact .inl ⟨hi.symm, rfl⟩
  | some x =>
    obtain ⟨j, hj, hi⟩ := bindO_eq hi
    injection hi with hi
    obtain ⟨k, hk⟩ := asI_rep hj (evalO_rep h x)
    exact .inr ⟨j, k, hi.symm, by simp [hk]⟩

theorem bound_ok {P : Program} {k : IntKind} {i : Int} {y : Nat} {c : BoundsCode} (h : 0 ≤ i ∧ i ≤ (y : Int)) : (Instr.sliceBound (.int k i) y c).run P w = .ok i.toNat w := by
  simp [Instr.sliceBound, asIntOf, h]

/-- The bounds of a slice expression, as the model reckons them. -/
theorem bounds_ok {P : Program} {isS : Bool} {len cap : Nat} {lo hi mx : Option Int} {vl vh vm : Option Value} (hl : (lo = none ∧ vl = none) ∨ (∃ j k, lo = some j ∧ vl = some (.int k j))) (hh : (hi = none ∧ vh = none) ∨ (∃ j k, hi = some j ∧ vh = some (.int k j)))
    (hm : (mx = none ∧ vm = none) ∨ (∃ j k, mx = some j ∧ vm = some (.int k j))) (hb : 0 ≤ lo.getD 0 ∧ lo.getD 0 ≤ hi.getD len ∧ hi.getD len ≤ (len : Int)) (hlc : len ≤ cap) (hmx : ∀ m, mx = some m → m = hi.getD len ∧ hi ≠ none) :
    (Instr.sliceBounds isS len cap vl vh vm).run P w = .ok ((lo.getD 0).toNat, (hi.getD len).toNat, match mx with | some m => m.toNat | none => cap) w := by
  rcases hl with ⟨rfl, rfl⟩ | ⟨l, kl, rfl, rfl⟩ <;> rcases hh with ⟨rfl, rfl⟩ | ⟨h, kh, rfl, rfl⟩ <;> rcases hm with ⟨rfl, rfl⟩ | ⟨m, km, rfl, rfl⟩ <;> simp only [Option.getD_some, Option.getD_none] at hb hmx ⊢
  all_goals first
    | exact absurd rfl (hmx _ rfl).2
    | skip
  · simp [Instr.sliceBounds]
  · simp only [Instr.sliceBounds, Sem.run_bind, Sem.run_pure, Result.andThen_ok]
    rw [bound_ok (by omega)]
    simp
  · have := (hmx m rfl).1
    subst this
    simp only [Instr.sliceBounds, Sem.run_bind, Sem.run_pure, Result.andThen_ok]
    rw [bound_ok (by omega)]
    simp only [Result.andThen_ok]
    rw [bound_ok (by omega)]
    simp
  · simp only [Instr.sliceBounds, Sem.run_bind, Sem.run_pure, Result.andThen_ok]
    rw [bound_ok (by omega)]
    simp
  · simp only [Instr.sliceBounds, Sem.run_bind, Sem.run_pure, Result.andThen_ok]
    rw [bound_ok (by omega)]
    simp only [Result.andThen_ok]
    rw [bound_ok (by omega)]
    simp
  · have := (hmx m rfl).1
    subst this
    simp only [Instr.sliceBounds, Sem.run_bind, Sem.run_pure]
    rw [bound_ok (by omega)]
    simp only [Result.andThen_ok]
    rw [bound_ok (by omega)]
    simp only [Result.andThen_ok]
    rw [bound_ok (by omega)]
    simp
end Go.Abs
namespace Go.Abs
open Go.RowKit
variable {E : Env} {g : Ghost} {σ : Store} {w : World}

theorem aCut_length {es : List (List AV)} {l h : Int} (hb : 0 ≤ l ∧ l ≤ h ∧ h ≤ (es.length : Int)) : (aCut es l h).length = h.toNat - l.toNat := by
  simp [aCut]; omega
theorem RepE.cut {sz b o : Nat} {es : List (List AV)} {l h : Int} (hr : RepE g es sz b o) (hb : 0 ≤ l ∧ l ≤ h ∧ h ≤ (es.length : Int)) : RepE g (aCut es l h) sz b (o + l.toNat * sz) :=
  RepE.take _ (RepE.drop _ (by omega) hr)

theorem slice_sound (hty : ∀ t i, E.ty t = some i → TyOk E.P t i) (hI : Inv g σ w) {t : Nat} {x v : AV} {σ' : Store} {lo hi mx : Option Int} {xv : Value} {vl vh vm : Option Value} (h : aSlice E σ t x lo hi mx = some (v, σ')) (hx : Rep g x σ.length xv)
    (hl : (lo = none ∧ vl = none) ∨ (∃ j k, lo = some j ∧ vl = some (.int k j))) (hh : (hi = none ∧ vh = none) ∨ (∃ j k, hi = some j ∧ vh = some (.int k j)))
    (hm : (mx = none ∧ vm = none) ∨ (∃ j k, mx = some j ∧ vm = some (.int k j))) :
    ∃ g' u, (Instr.sliceAt t xv vl vh vm).run E.P w = .ok u w ∧ Moved g g' σ σ' w ∧ Rep g' v σ'.length u := by
  obtain ⟨ti, ht, h2⟩ := bindO_eq h
  clear h
  obtain ⟨d, hd1, hd2⟩ := (hty t ti ht).und
  have hstay : Moved g g σ σ w := ⟨Ext.refl g _, hI, Nat.le_refl _⟩
  cases hk : ti.k with
  | string =>
    rw [hk] at h2 hd2
    have := desc_string hd2; subst this
    cases x with
    | str s =>
      obtain ⟨hc, h3⟩ := iteO_none h2
      injection h3 with h3
      injection h3 with h4 h5
      subst h4; subst h5
      simp only [Bool.and_eq_true] at hc
      have hb := inS_eq hc.2
      have hx : xv = _ := hx
      subst hx
      have hmn : mx = none ∧ vm = none := by
        rcases hm with hm | ⟨j, k, rfl, _⟩
        · exact hm
        · simp at hc
      obtain ⟨rfl, rfl⟩ := hmn
      have hbo := bounds_ok (P := E.P) (w := w) (isS := false) (cap := s.size) hl hh (.inl ⟨rfl, rfl⟩) hb (Nat.le_refl _) (fun m hm => by cases hm)
      refine ⟨g, _, ?_, hstay, rfl⟩
      simp [Instr.sliceAt, run_underlying hd1, Instr.slice, hbo]
    | _ => simp [aSliceK] at h2
  | slice e =>
    rw [hk] at h2 hd2
    have := desc_slice hd2; subst this
    cases x with
    | sl f sz es =>
      obtain ⟨ei, hei, h3⟩ := bindO_eq h2
      obtain ⟨hc, h4⟩ := iteO_none h3
      simp only [Bool.and_eq_true, Bool.or_eq_true, decide_eq_true_eq, List.isEmpty_iff] at hc
      have hb := inS_eq hc.2
      have hsz := hc.1
      have hso := run_sizeOf' (hty e ei hei) w
      obtain ⟨a, cap, rfl, hlc, hfull, hr⟩ := hx
      have hcl := aCut_length hb
      have key : ∀ (m : Nat) (f' : Bool), (hi.getD es.length).toNat ≤ m → (f' = true → m - (lo.getD 0).toNat = (hi.getD es.length).toNat - (lo.getD 0).toNat) →
          Rep g (.sl f' sz (aCut es (lo.getD 0) (hi.getD es.length))) σ.length
            (.slice (if m = (lo.getD 0).toNat then a else a.map (·.add ((lo.getD 0).toNat * ei.size))) ((hi.getD es.length).toNat - (lo.getD 0).toNat) (m - (lo.getD 0).toNat)) := by
        intro m f' hm hf'
        refine ⟨_, m - (lo.getD 0).toNat, by rw [hcl], by rw [hcl]; omega, fun h => by rw [hcl]; exact hf' h, ?_⟩
        by_cases hnil : aCut es (lo.getD 0) (hi.getD es.length) = []
        · exact .inl hnil
        · have hpos : 0 < (aCut es (lo.getD 0) (hi.getD es.length)).length := List.length_pos_iff.2 hnil
          rw [hcl] at hpos
          rcases hr with rfl | ⟨b, o, rfl, hr⟩
          · simp [aCut] at hnil
          · refine .inr ⟨b, o + (lo.getD 0).toNat * sz, ?_, RepE.cut hr hb⟩
            have hsz' : sz = ei.size := by
              rcases hsz with h | h
              · exact h
              · exact absurd (by rw [h]; simp [aCut]) hnil
            rw [if_neg (by omega), hsz']
            simp [Addr.add_mid]
      rcases hm with ⟨rfl, rfl⟩ | ⟨m, km, rfl, rfl⟩
      · have hbo := bounds_ok (P := E.P) (w := w) (isS := true) (cap := cap) hl hh (.inl ⟨rfl, rfl⟩) hb hlc (fun m hm => by cases hm)
        simp only at h4 hbo
        injection h4 with h4
        injection h4 with h5 h6
        subst h5; subst h6
        refine ⟨g, _, ?_, hstay, key cap (f && hi.isNone) (by omega) (fun hf => ?_)⟩
        · simp [Instr.sliceAt, run_underlying hd1, Instr.slice, hbo, hso]
        · simp only [Bool.and_eq_true, Option.isNone_iff_eq_none] at hf
          rw [hf.2]
          have := hfull hf.1
          simp; omega
      · simp only at h4
        obtain ⟨hmc, h4⟩ := iteO_none h4
        simp only [Bool.and_eq_true, decide_eq_true_eq] at hmc
        obtain ⟨hme, his⟩ := hmc
        have hbo := bounds_ok (P := E.P) (w := w) (isS := true) (cap := cap) hl hh (.inr ⟨m, km, rfl, rfl⟩) hb hlc (fun m' hm' => by injection hm' with hm'; subst hm'; exact ⟨hme, fun h => by rw [h] at his; cases his⟩)
        simp only at hbo
        injection h4 with h4
        injection h4 with h5 h6
        subst h5; subst h6
        refine ⟨g, _, ?_, hstay, key m.toNat true (by omega) (fun _ => by omega)⟩
        simp [Instr.sliceAt, run_underlying hd1, Instr.slice, hbo, hso]
    | rs id ver =>
      by_cases hcase : ∃ l, lo = some l ∧ hi = none ∧ mx = none
      · obtain ⟨l, rfl, rfl, rfl⟩ := hcase
        have hvh : vh = none := by
          rcases hh with ⟨_, h⟩ | ⟨_, _, h, _⟩
          · exact h
          · cases h
        have hvm : vm = none := by
          rcases hm with ⟨_, h⟩ | ⟨_, _, h, _⟩
          · exact h
          · cases h
        subst hvh; subst hvm
        obtain ⟨ei, hei, h2⟩ := bindO_eq h2
        obtain ⟨p, hc, h3⟩ := bindO_eq h2
        obtain ⟨hb, h4⟩ := iteO_none h3
        injection h4 with h4
        injection h4 with h5 h6
        subst h5; subst h6
        have hb := inS_eq hb
        have hc := cur_eq hc
        obtain ⟨hid, hhd, _⟩ := hx
        obtain ⟨⟨a, cap, hh', hrow⟩, hes, hfresh⟩ := hI.objs id _ hc
        rw [hhd] at hh'
        injection hh' with hh'
        subst hh'
        have hlc : p.2.length ≤ cap := by
          rcases hrow with ⟨h1, h2⟩ | ⟨_, h2, _⟩
          · rw [h1]; simp
          · exact h2
        have hesz := run_sizeOf' (hty e ei hei) w
        have hbo := bounds_ok (P := E.P) (w := w) (isS := true) (len := p.2.length) (cap := cap) hl (.inl ⟨rfl, rfl⟩) (.inl ⟨rfl, rfl⟩) (by simpa using hb) hlc (fun m hm => by cases hm)
        simp only [Option.getD_some, Option.getD_none] at hbo
        have hu : ∃ u, (Instr.sliceAt t (.slice a p.2.length cap) vl none none).run E.P w = .ok u w := by
          simp [Instr.sliceAt, run_underlying hd1, Instr.slice, hbo, hesz]
        obtain ⟨u, hu⟩ := hu
        exact ⟨g, u, hu, hstay, trivial⟩
      have hlo : lo = none ∧ vl = none := by
        rcases hl with h | ⟨l, kl, rfl, rfl⟩
        · exact h
        · cases hi with
          | some _ => cases mx <;> simp [aSliceK] at h2
          | none => cases mx with
            | some _ => simp [aSliceK] at h2
            | none => exact absurd ⟨l, rfl, rfl, rfl⟩ hcase
      have hmo : mx = none ∧ vm = none := by
        rcases hm with h | ⟨l, kl, rfl, rfl⟩
        · exact h
        · cases hi <;> cases lo <;> simp [aSliceK] at h2
      obtain ⟨rfl, rfl⟩ := hlo
      obtain ⟨rfl, rfl⟩ := hmo
      have hho : ∃ hv kh, hi = some hv ∧ vh = some (.int kh hv) := by
        rcases hh with ⟨rfl, rfl⟩ | h
        · simp [aSliceK] at h2
        · obtain ⟨j, k, h1, h2⟩ := h; exact ⟨j, k, h1, h2⟩
      obtain ⟨hv, kh, rfl, rfl⟩ := hho
      obtain ⟨ei, hei, h2⟩ := bindO_eq h2
      obtain ⟨p, hc, h3⟩ := bindO_eq h2
      obtain ⟨hb, h4⟩ := iteO_none h3
      injection h4 with h4
      injection h4 with h5 h6
      subst h5; subst h6
      have hb := inS_eq hb
      have hc := cur_eq hc
      obtain ⟨hid, hhd, _⟩ := hx
      obtain ⟨⟨a, cap, hh', hrow⟩, hes, hfresh⟩ := hI.objs id _ hc
      rw [hhd] at hh'
      injection hh' with hh'
      subst hh'
      have hnone := hfresh (ver + 1) (by omega)
      have hlc : p.2.length ≤ cap := by
        rcases hrow with ⟨h1, h2⟩ | ⟨_, h2, _⟩
        · rw [h1]; simp
        · exact h2
      have hesz := run_sizeOf' (hty e ei hei) w
      have hbo := bounds_ok (P := E.P) (w := w) (isS := true) (len := p.2.length) (cap := cap) (lo := none) (vl := none) (.inl ⟨rfl, rfl⟩) (.inr ⟨hv, kh, rfl, rfl⟩) (.inl ⟨rfl, rfl⟩) (by simpa using hb) hlc (fun m hm => by cases hm)
      simp only [Option.getD_some, Option.getD_none] at hbo
      let u : Value := .slice a hv.toNat cap
      have he := g.ver_ext id (ver + 1) σ.length u hnone
      have htl : (p.2.take hv.toNat).length = hv.toNat := by simp; omega
      refine ⟨g.ver id (ver + 1) u, u, ?_, ⟨he, ?_, by simp⟩, by simpa using hid, g.ver_same id (ver + 1) u, rfl⟩
      · have ha : (if cap = 0 then a else a.map (·.add 0)) = a := by cases a <;> simp [Addr.add]
        simp only [Instr.sliceAt, Sem.run_bind, run_underlying hd1, Result.andThen_ok, Instr.slice]
        rw [hbo]
        simp [hesz, Addr.add, u]
      · refine hI.change id he (by simp) (fun j hj => set_other j hj) (fun j hj => g.ver_other id _ u j hj) (fun _ _ _ => rfl) (Below.refl _ _) (Nat.le_refl _) (fun _ _ _ h => .inl h) (fun o ho => ?_)
        rw [set_same hc] at ho
        injection ho with ho
        subst ho
        refine ⟨⟨⟨a, cap, by rw [htl]; exact g.ver_same id (ver + 1) u, ?_⟩, fun e he => hes e (List.mem_of_mem_take he), fun k hk => ?_⟩, fun b hb' => ?_⟩
        · rcases hrow with ⟨h1, h2⟩ | ⟨h1, h2, b, vs, tt, h3, h4, h5, h6⟩
          · exact .inl ⟨by rw [h1]; simp, h2⟩
          · refine .inr ⟨h1, by rw [htl]; omega, b, vs, tt, h3, h4, h5, ?_⟩
            have hr := Reps.take (hv.toNat * p.1) (Reps.mono he _ 0 0 _ (Nat.zero_le _) (Nat.le_refl _) h6)
            have hle : hv.toNat * p.1 ≤ p.2.length * p.1 := Nat.mul_le_mul_right _ (by omega)
            rw [List.take_take, Nat.min_eq_left hle] at hr
            rw [htl]
            have hfl : (p.2.take hv.toNat).flatten = p.2.flatten.take (hv.toNat * p.1) := by
              have h7 : p.2.flatten = (p.2.take hv.toNat).flatten ++ (p.2.drop hv.toNat).flatten := by rw [← List.flatten_append, List.take_append_drop]
              rw [h7, List.take_left']
              rw [ElemOk.flatten_len (fun e he => hes e (List.mem_of_mem_take he)), htl]
            rw [hfl]; exact hr
        · rw [g.ver_later id (ver + 1) u k hk]; exact hfresh k (by omega)
        · have hold : owned g id (.row p.1 ver p.2) = some b := by
            simp only [owned, rowBlock, g.ver_same id (ver + 1) u, hhd] at hb' ⊢
            simp only [u] at hb'
            cases a with
            | none => simp at hb'
            | some ad => exact hb'
          obtain ⟨h1, h2, h3⟩ := hI.sep id _ b hc hold
          exact ⟨.inr ⟨_, hc, hold⟩, h2, h3⟩
    | _ => simp [aSliceK] at h2
  | _ => rw [hk] at h2; simp [aSliceK] at h2
end Go.Abs
namespace Go.Abs
open Go.RowKit
variable {E : Env} {g : Ghost} {σ : Store} {w : World}

def CallOk (P : Program) (f : Nat) (args : List AV) (σ : Store) (v : AV) (σ' : Store) : Prop :=
  ∀ (g : Ghost) (w : World) (vs : List Value), Inv g σ w → Reps g args σ.length vs →
    Yields P (callFunc f vs.toArray) w fun val w' => ∃ g', Moved g g' σ σ' w' ∧ Rep g' v σ'.length val
structure EnvOk (E : Env) : Prop where
  ty : ∀ t i, E.ty t = some i → TyOk E.P t i
  eqt : ∀ t ss, E.eqt t = some ss → EqOk E.P t ss
  tab : ∀ f args σ v σ', E.tab f args σ = some (v, σ') → CallOk E.P f args σ v σ'

def Done (g : Ghost) (σ : Store) (v : AV) (σ' : Store) (val : Value) (w' : World) : Prop := ∃ g', Moved g g' σ σ' w' ∧ Rep g' v σ'.length val
theorem Moved.stay (hI : Inv g σ w) : Moved g g σ σ w := ⟨Ext.refl g _, hI, Nat.le_refl _⟩
theorem keepS_eq {x : Option AV} {v : AV} {σ' : Store} (h : keepS σ x = some (v, σ')) : x = some v ∧ σ' = σ := by
  obtain ⟨u, hu, h⟩ := bindO_eq h
  injection h with h
  injection h with h1 h2
  subst h1; exact ⟨hu, h2.symm⟩
theorem pair_inj {α β : Type} {a a' : α} {b b' : β} (h : some (a, b) = some (a', b')) : a = a' ∧ b = b' := by
  injection h with h; injection h with h1 h2; exact ⟨h1, h2⟩
/-! ### yield -/
/-- The other party has moved. -/
theorem guest_moved {T T' : List (List AV × Bool)} {rest : Store} (hI : Inv g (.guest T :: rest) w) {F F' : Nat → Prop} {C' : Nat → Nat → Option Value} {w' : World}
    (hF : ∀ id' o' b, (AObj.guest T :: rest)[id']? = some o' → owned g id' o' = some b → F b) (hfF : ∀ k, g.fixed k → F k) (hFF : ∀ k, F k → F' k)
    (hrel : g.w0.G.rel T' F' C' w') (up : ∀ b o v, g.C b o = some v → C' b o = some v) (low : ∀ b o v, C' b o = some v → F b → g.C b o = some v) (same : ∀ k, F k → w'.heap[k]? = w.heap[k]?) (hb : Below 0 w w') :
    Moved g { g with C := C' } (.guest T :: rest) (.guest T' :: rest) w' := by
  have he : Ext g { g with C := C' } (AObj.guest T :: rest).length := ⟨up, fun _ _ => rfl, fun _ _ _ _ h => h, Tie.refl _ _⟩
  have hother : ∀ (id : Nat) (o : AObj), (AObj.guest T' :: rest)[id]? = some o → (∃ T, o = AObj.guest T) ∨ (AObj.guest T :: rest)[id]? = some o := fun id o ho => by
    cases id with
    | zero => simp at ho; exact .inl ⟨_, ho.symm⟩
    | succ id => exact .inr (by simpa using ho)
  have hown : ∀ (id : Nat) (o : AObj) (b : Nat), (AObj.guest T' :: rest)[id]? = some o → owned g id o = some b → (AObj.guest T :: rest)[id]? = some o := fun id o b ho hb => by
    rcases hother id o ho with ⟨T, rfl⟩ | h
    · simp [owned] at hb
    · exact h
  refine ⟨he, ?_, by simp⟩
  refine ⟨g.w0.G.comm T' F' C' w' hrel, fun id o ho => ?_, fun id o b ho hb' => ?_, fun id id' o o' b ho ho' hb1 hb2 => ?_, fun k hk => ?_, hI.str.trans hb, fun k hk => ?_, fun b o v hv hf => ?_, fun id T2 hj => ?_⟩
  · rcases hother id o ho with ⟨T, rfl⟩ | h
    · trivial
    · have := ObjOk.keep (w' := w') he.up (List.getElem?_eq_some_iff.1 h).1 (Nat.le_refl _) rfl (fun b hb => same b (hF id o b h hb)) (hI.objs id o h)
      simpa using this
  · have ho2 := hown id o b ho hb'
    obtain ⟨h1, h2, h3⟩ := hI.sep id o b ho2 hb'
    refine ⟨h1, Nat.lt_of_lt_of_le h2 hb.size, fun off => ?_⟩
    cases hc : C' b off with
    | none => exact hc
    | some v => have := low b off v hc (hF id o b ho2 hb'); rw [h3 off] at this; cases this
  · exact hI.inj id id' o o' b (hown id o b ho hb1) (hown id' o' b ho' hb2) hb1 hb2
  · exact (same k (hfF k hk)).trans (hI.below k hk)
  · exact Nat.lt_of_lt_of_le (hI.base k hk) hb.size
  · exact hI.low b o v (low b o v hv (hfF b hf)) hf
  · cases id with
    | zero =>
      simp at hj
      subst hj
      exact ⟨rfl, (hI.guest 0 T rfl).2.1, F', hrel, fun id' o' b ho' hb' => hFF b (hF id' o' b (hown id' o' b ho' hb') hb'), fun k hk => hFF k (hfF k hk)⟩
    | succ id => exact absurd (hI.guest (id + 1) T2 (by simpa using hj)).1 (by omega)
theorem yield_sound {Q : Program} {args : List AV} {v : AV} {σ' : Store} {vals : List Value} (hI : Inv g σ w) (hP : g.w0.G.P = Q) (h : aYield E Q args σ = some (v, σ')) (hr : Reps g args σ.length vals) :
    Yields E.P (Instr.yield g.w0.G.l vals.toArray) w (Done g σ v σ') := by
  unfold aYield at h
  split at h
  · rename_i q T rest
    obtain ⟨hc, h⟩ := iteO_none h
    obtain ⟨h1, h2⟩ := pair_inj h
    subst h1; subst h2
    simp only [Bool.and_eq_true] at hc
    obtain ⟨hPE, rfl⟩ := decYes_of hc.1
    obtain ⟨_, hy, F, hrel, hF, hfF⟩ := hI.guest 0 _ rfl
    obtain ⟨x, b⟩ := q
    have hy := hy x b T F g.C w vals hrel ⟨g, rfl, datas_rep hr hc.2⟩
    obtain ⟨fn, tmps, asg, body, hrun, _⟩ := hy 0 none
    rw [hP, hPE] at hrun hy
    refine .inr (.inr (.inr ⟨_, fn, tmps, asg, body, w, hrun, fun n r => ?_⟩))
    obtain ⟨fn', tmps', asg', body', hrun', hR⟩ := hy n r
    rw [hrun] at hrun'
    injection hrun' with e1 e2
    injection e1 with e3 e4 e5 e6 e7
    subst e4; subst e5; subst e6; subst e7
    refine hR.mono ?_
    rintro e w' ⟨rfl, C', h1, h2, h3, h4, h5⟩
    exact ⟨_, rfl, _, guest_moved hI hF hfF (fun _ h => h) h1 h2 h3 h4 h5, rfl⟩
  · cases h

/-- An operation that leaves the world alone. -/
theorem y_stay {P : Program} {s : Sem Value} {x : Option AV} {v : AV} {σ' : Store} (hI : Inv g σ w) (h : keepS σ x = some (v, σ')) (hs : ∀ v, x = some v → ∃ u, s.run P w = .ok u w ∧ Rep g v σ.length u) :
    Yields P (do pure (.value (← s))) w (Done g σ v σ') := by
  obtain ⟨hx, rfl⟩ := keepS_eq h
  obtain ⟨u, hu, hr⟩ := hs v hx
  exact Yields.value hu ⟨g, Moved.stay hI, hr⟩
theorem evalPs_toList (fr : Fr) (a : Act) (ps : Array (Nat × Operand)) (n : Nat) (h : FrOk g n fr a.tmps) : PartsRep g n (evalPs fr ps.toList) (ps.map fun (i, x) => (i, a.eval x)).toList := by
  have := evalPs_rep h ps.toList
  simpa using this

theorem rs_rep {id ver n : Nat} {u : Value} (h1 : id < n) (h2 : g.hd id ver = some u) (h3 : u.oneCell' = true) : Rep g (.rs id ver) n u := ⟨h1, h2, h3⟩

theorem append_cases (hty : ∀ t i, E.ty t = some i → TyOk E.P t i) (hI : Inv g σ w) {t e : Nat} {ei : TInfo} (ty : TypeId) (hd1 : E.P.underlying t = some (.slice e)) (hei : E.ty e = some ei)
    {xs : List (List AV)} {f : Bool} {s v : AV} {σ' : Store} {sv xv : Value} (h : aAppendV σ ei.size ei.bytes xs s = some (v, σ')) (hs : Rep g s σ.length sv) (hx : Rep g (.sl f ei.size xs) σ.length xv) :
    Yields E.P (do pure (.value (← Builtin.append_ #[t, t] ty #[sv, xv]))) w (Done g σ v σ') := by
  cases s with
  | rs id ver =>
    obtain ⟨p, hc, h⟩ := bindO_eq h
    obtain ⟨hcond, h⟩ := iteO_none h
    obtain ⟨h1, h2⟩ := pair_inj h
    subst h1; subst h2
    simp only [Bool.and_eq_true, decide_eq_true_eq] at hcond
    obtain ⟨hid, hh, _⟩ := hs
    obtain ⟨g', w', u, hrun, hm, hh', h1⟩ := append_rs hty hI ty hd1 hei (cur_eq hc) hcond.1 hcond.2 hh hx
    refine Yields.value hrun ⟨g', hm, rs_rep (by simpa using hid) hh' h1⟩
  | sl full sz es =>
    cases full with
    | false => simp [aAppendV] at h
    | true =>
      obtain ⟨hcond, h⟩ := iteO_none h
      simp only [Bool.and_eq_true, Bool.or_eq_true, decide_eq_true_eq, List.isEmpty_iff] at hcond
      cases xs with
      | nil =>
        obtain ⟨h1, h2⟩ := pair_inj h
        subst h1; subst h2
        obtain ⟨hrun, hr⟩ := append_none hty hI ty hd1 hei hcond.1 hs hx
        exact Yields.value hrun ⟨g, Moved.stay hI, hr⟩
      | cons x0 xs0 =>
        obtain ⟨h1, h2⟩ := pair_inj h
        subst h1; subst h2
        obtain ⟨g', w', u, hrun, hm, hh', h1⟩ := append_full hty hI ty hd1 hei hcond.1 hcond.2 (by simp) hs hx
        exact Yields.value hrun ⟨g', hm, rs_rep (by simp) hh' h1⟩
  | _ => simp [aAppendV] at h

theorem builtin_sound (hE : EnvOk E) (hI : Inv g σ w) {b : Builtin} {ts : Array TypeId} {ty : Nat} {consts : Array Bool} {args : List AV} {vs : List Value} {v : AV} {σ' : Store} (h : aBuiltin E σ ts b args = some (v, σ')) (hr : Reps g args σ.length vs) :
    Yields E.P (builtin b ts ty consts vs.toArray) w (Done g σ v σ') := by
  cases b <;> (try (simp [aBuiltin] at h; done))
  case len =>
    cases args with
    | nil => simp [aBuiltin] at h
    | cons x l =>
      cases l with
      | cons _ _ => simp [aBuiltin] at h
      | nil =>
        obtain ⟨xv, _, rfl, hx, rfl⟩ := hr
        exact y_stay hI h fun v hv => len_sound hE.ty hI hv hx
  case append =>
    cases args with
    | nil => simp [aBuiltin] at h
    | cons s l =>
      cases l with
      | nil => simp [aBuiltin] at h
      | cons x l =>
        cases l with
        | cons _ _ => simp [aBuiltin] at h
        | nil =>
          obtain ⟨sv, _, rfl, hs, xv, _, rfl, hx, rfl⟩ := hr
          obtain ⟨t, ht, h2⟩ := bindO_eq h
          clear h
          rename aAppend E σ t s x = some (v, σ') => h
          have hts : ts = #[t, t] := by
            cases hl : ts.toList with
            | nil => rw [hl] at ht; simp [sameTypes] at ht
            | cons a l =>
              cases l with
              | nil => rw [hl] at ht; simp [sameTypes] at ht
              | cons b l =>
                cases l with
                | cons _ _ => rw [hl] at ht; simp [sameTypes] at ht
                | nil =>
                  rw [hl] at ht
                  obtain ⟨hab, ht2⟩ := iteO_none ht
                  injection ht2 with ht2
                  have hab := of_decide_eq_true hab
                  rw [← hab, ht2] at hl
                  exact Array.ext' hl
          subst hts
          obtain ⟨ti, hti, h⟩ := bindO_eq h
          obtain ⟨e, he, h⟩ := bindO_eq h
          obtain ⟨ei, hei, h⟩ := bindO_eq h
          obtain ⟨q, hq, h⟩ := bindO_eq h
          obtain ⟨hsz, h⟩ := iteO_none h
          have hsz := of_decide_eq_true hsz
          obtain ⟨d, hd1, hd2⟩ := (hE.ty t ti hti).und
          rw [tkSlice_eq he] at hd2
          have := desc_slice hd2
          subst this
          cases x with
          | sl f sx xs =>
           simp [slOf] at hq
           subst hq
           simp only at hsz
           rename aAppendV σ ei.size ei.bytes xs s = some (v, σ') => h9
           subst hsz
           exact append_cases hE.ty hI ty hd1 hei h9 hs hx
          | _ => simp [slOf] at hq
  case min =>
    cases args with
    | nil => simp [aBuiltin] at h
    | cons x l =>
      cases l with
      | nil => simp [aBuiltin] at h
      | cons y l =>
        cases l with
        | cons _ _ => simp [aBuiltin] at h
        | nil =>
          obtain ⟨xv, _, rfl, hx, yv, _, rfl, hy, rfl⟩ := hr
          exact y_stay hI h fun v hv => minmax_sound (mx := false) hv hx hy
  case max =>
    cases args with
    | nil => simp [aBuiltin] at h
    | cons x l =>
      cases l with
      | nil => simp [aBuiltin] at h
      | cons y l =>
        cases l with
        | cons _ _ => simp [aBuiltin] at h
        | nil =>
          obtain ⟨xv, _, rfl, hx, yv, _, rfl, hy, rfl⟩ := hr
          exact y_stay hI h fun v hv => minmax_sound (mx := true) hv hx hy

theorem evalOs_map {n : Nat} {fr : Fr} {a : Act} (h : FrOk g n fr a.tmps) (xs : Array Operand) : Reps g (evalOs fr xs.toList) n (xs.map a.eval).toList := by
  rw [Array.toList_map]; exact evalOs_rep h xs.toList

theorem op_sound (hE : EnvOk E) (hI : Inv g σ w) {fr : Fr} {a : Act} (hfr : FrOk g σ.length fr a.tmps) (o : Oper) {v : AV} {σ' : Store} (h : aOp E fr σ o.type o.op = some (v, σ')) :
    Yields E.P (execOp a.eval o) w (Done g σ v σ') := by
  obtain ⟨dst, op, ty, pos, after, guard⟩ := o
  simp only at h
  unfold execOp
  cases op <;> (try (simp [aOp] at h; done)) <;> simp only
  case move x =>
    obtain ⟨h1, h2⟩ := pair_inj h
    subst h1; subst h2
    exact .inl ⟨_, w, rfl, g, Moved.stay hI, evalO_rep hfr x⟩
  case assign x =>
    simp only [aOp, aAssign] at h
    cases hn : isNilSlice x with
    | false =>
      rw [hn] at h
      obtain ⟨h1, h2⟩ := pair_inj h
      subst h1; subst h2
      exact .inl ⟨_, w, rfl, g, Moved.stay hI, evalO_rep hfr x⟩
    | true =>
      rw [hn] at h
      obtain ⟨ti, _, h⟩ := bindO_eq h
      obtain ⟨e, _, h⟩ := bindO_eq h
      obtain ⟨ei, _, h⟩ := bindO_eq h
      obtain ⟨h1, h2⟩ := pair_inj h
      subst h1; subst h2
      have hx : a.eval x = .slice none 0 0 := by
        unfold isNilSlice at hn
        split at hn
        · rfl
        · cases hn
      obtain ⟨g', hm, hh⟩ := nilRow_sound hI ei.size
      exact .inl ⟨_, w, by rw [hx]; rfl, g', hm, rs_rep (by simp) hh rfl⟩
  case pick c x y =>
    obtain ⟨cb, hc, h⟩ := bindO_eq h
    have hcv : a.eval c = .bool cb := by
      have := evalO_rep hfr c
      cases hcc : evalO fr c <;> rw [hcc] at hc this <;> simp [asB] at hc
      subst hc; exact this
    rcases iteO_eq h with ⟨hb, h⟩ | ⟨hb, h⟩ <;> obtain ⟨h1, h2⟩ := pair_inj h <;> subst h1 <;> subst h2
    · exact .inl ⟨_, w, by simp [hcv, hb, asBool], g, Moved.stay hI, evalO_rep hfr x⟩
    · exact .inl ⟨_, w, by simp [hcv, hb, asBool], g, Moved.stay hI, evalO_rep hfr y⟩
  case alloc t =>
    obtain ⟨ti, ht, h⟩ := bindO_eq h
    obtain ⟨h1, h2⟩ := pair_inj h
    subst h1; subst h2
    obtain ⟨tinf, z, hinfo, hts, htb, htz, hzr, _⟩ := (hE.ty t ti ht).info
    have hI' := hI.newVar ti.zero z.cells t (hzr g σ.length)
    refine Yields.value (v := .pointer (some ⟨w.heap.size, 0, none⟩)) (w' := w.alloc (.cells z.cells t)) ?_ ⟨_, ⟨g.push_ext _ _ _ (Nat.le_refl _), hI', by simp⟩, by simp, by simp [Ghost.push]⟩
    simp [Instr.alloc, zeroValue, typeInfo, hinfo, htz, newVar, newRow]
  case box t x =>
    obtain ⟨us, hu, h⟩ := bindO_eq h
    obtain ⟨h1, h2⟩ := pair_inj h
    subst h1; subst h2
    obtain ⟨hur, _⟩ := cellsOf_rep hu (evalO_rep hfr x)
    have hI' := hI.newVar us (a.eval x).cells t hur
    refine Yields.value (v := .pointer (some ⟨w.heap.size, 0, none⟩)) (w' := w.alloc (.cells (a.eval x).cells t)) ?_ ⟨_, ⟨g.push_ext _ _ _ (Nat.le_refl _), hI', by simp⟩, by simp, by simp [Ghost.push]⟩
    simp [Instr.box, newVar, newRow]
  case build t ps =>
    obtain ⟨ti, ht, h⟩ := bindO_eq h
    obtain ⟨fs, hfs, h⟩ := bindO_eq h
    obtain ⟨cs, hc, h⟩ := bindO_eq h
    obtain ⟨h1, h2⟩ := pair_inj h
    subst h1; subst h2
    obtain ⟨u, hu, hr⟩ := build_sound (w := w) hE.ty ht hfs hc (evalPs_toList fr a ps _ hfr)
    exact Yields.value hu ⟨g, Moved.stay hI, hr⟩
  case buildSlice t n ps =>
    obtain ⟨ti, ht, h⟩ := bindO_eq h
    obtain ⟨e, he, h⟩ := bindO_eq h
    obtain ⟨ei, hei, h⟩ := bindO_eq h
    obtain ⟨hn, h⟩ := iteO_none h
    obtain ⟨q, hq, h⟩ := bindO_eq h
    obtain ⟨h1, h2⟩ := pair_inj h
    subst h1; subst h2
    obtain ⟨d, hd1, hd2⟩ := (hE.ty t ti ht).und
    rw [tkSlice_eq he] at hd2
    have := desc_slice hd2
    subst this
    obtain ⟨g', w', u, hrun, hm, hr⟩ := buildSlice_sound hE.ty hI hd1 hei (of_decide_eq_true hn) hq (evalPs_toList fr a ps _ hfr)
    exact Yields.value hrun ⟨g', hm, Rep.mono (Ext.refl g' 0) _ 0 _ _ (Nat.le_refl _) (Nat.zero_le _) hr⟩
  case load t x => exact y_stay hI h fun v hv => load_sound hE.ty hI hv (evalO_rep hfr x)
  case store t x y =>
    obtain ⟨σ1, hs, h⟩ := bindO_eq h
    obtain ⟨h1, h2⟩ := pair_inj h
    subst h1; subst h2
    obtain ⟨g', w', hrun, hm⟩ := store_sound hE.ty hI hs (evalO_rep hfr x) (evalO_rep hfr y)
    exact .inr (.inl ⟨w', by rw [Sem.run_bind, hrun]; rfl, g', hm, trivial⟩)
  case nilCheck x =>
    obtain ⟨hx, rfl⟩ := keepS_eq h
    have hr := evalO_rep hfr x
    cases hxx : evalO fr x <;> rw [hxx] at hx hr <;> simp [aNilCheck] at hx <;> subst hx
    · have hr0 := hr
      obtain ⟨_, hv⟩ := hr
      exact .inl ⟨_, w, by rw [hv]; rfl, g, Moved.stay hI, by rw [← hv]; exact hr0⟩
    · have hr0 := hr
      obtain ⟨b, o, hv, _⟩ := hr
      exact .inl ⟨_, w, by rw [hv]; rfl, g, Moved.stay hI, by rw [← hv]; exact hr0⟩
    · have hr0 := hr
      obtain ⟨_, b, l, c, _, hv⟩ := hr
      exact .inl ⟨_, w, by rw [hv]; rfl, g, Moved.stay hI, by rw [← hv]; exact hr0⟩
    · have hr0 := hr
      obtain ⟨vs, hv, _⟩ := hr
      exact .inl ⟨_, w, by rw [hv]; rfl, g, Moved.stay hI, by rw [← hv]; exact hr0⟩
  case binOp op t x y u => exact y_stay hI h fun v hv => bin_sound hE.ty hE.eqt hv (evalO_rep hfr x) (evalO_rep hfr y)
  case unOp op t x => exact y_stay hI h fun v hv => un_sound hv (evalO_rep hfr x)
  case convert s d x => exact y_stay hI h fun v hv => conv_sound hE.ty hv (evalO_rep hfr x)
  case makeFunc f first cap =>
    obtain ⟨k, hk, h⟩ := bindO_eq h
    obtain ⟨h1, h2⟩ := pair_inj h
    subst h1; subst h2
    unfold fnFirst at hk
    split at hk
    · rename_i f0
      injection hk with hk
      subst hk
      exact .inl ⟨.func (.func f0) #[] (cap.map a.eval), w, by simp [Instr.makeFunc], g, Moved.stay hI, (cap.map a.eval).toList, by rw [Array.toArray_toList], evalOs_map hfr cap⟩
    · cases hk
  case makeMap t r =>
    cases r with
    | some _ => simp [aOp] at h
    | none =>
      obtain ⟨ti, _, h⟩ := bindO_eq h
      obtain ⟨ke, _, h⟩ := bindO_eq h
      obtain ⟨ki, _, h⟩ := bindO_eq h
      obtain ⟨h1, h2⟩ := pair_inj h
      subst h1; subst h2
      exact Yields.value (v := .map (some w.heap.size)) (w' := w.alloc (.map #[] 0)) rfl ⟨_, hI.newMap ki.k, by simp, by simp [Ghost.push]⟩
  case makeSlice t l c =>
    obtain ⟨ti, ht, h⟩ := bindO_eq h
    obtain ⟨e, he, h⟩ := bindO_eq h
    obtain ⟨ei, hei, h⟩ := bindO_eq h
    obtain ⟨li, hl, h⟩ := bindO_eq h
    obtain ⟨ci, hc, h⟩ := bindO_eq h
    obtain ⟨hn, h⟩ := iteO_none h
    obtain ⟨h1, h2⟩ := pair_inj h
    subst h1; subst h2
    obtain ⟨d, hd1, hd2⟩ := (hE.ty t ti ht).und
    rw [tkSlice_eq he] at hd2
    have := desc_slice hd2
    subst this
    obtain ⟨kl, hkl⟩ := asI_rep hl (evalO_rep hfr l)
    obtain ⟨kc, hkc⟩ := asI_rep hc (evalO_rep hfr c)
    have hn := of_decide_eq_true hn
    obtain ⟨g', w', u, hrun, hm, hh, h1⟩ := makeSlice_sound (kl := kl) (kc := kc) hE.ty hI hd1 hei ⟨hn.1, hn.2.1, hn.2.2.1⟩ hn.2.2.2
    rw [hkl, hkc]
    exact Yields.value hrun ⟨g', hm, rs_rep (by simp) hh h1⟩
  case slice t x lo hi mx =>
    obtain ⟨l, hl, h⟩ := bindO_eq h
    obtain ⟨hh, hhi, h⟩ := bindO_eq h
    obtain ⟨m, hm, h⟩ := bindO_eq h
    obtain ⟨g', u, hrun, hmv, hr⟩ := slice_sound hE.ty hI h (evalO_rep hfr x) (optI_rep hfr hl) (optI_rep hfr hhi) (optI_rep hfr hm)
    exact Yields.value hrun ⟨g', hmv, hr⟩
  case fieldAddr s x f => exact y_stay hI h fun v hv => fieldAddr_sound hE.ty hv (evalO_rep hfr x)
  case field t x f => exact y_stay hI h fun v hv => field_sound hE.ty hv (evalO_rep hfr x)
  case indexAddr t x i => exact y_stay hI h fun v hv => indexAddr_sound hE.ty hI hv (evalO_rep hfr x) (evalO_rep hfr i)
  case index t x i => exact y_stay hI h fun v hv => index_sound hE.ty hv (evalO_rep hfr x) (evalO_rep hfr i)
  case lookup t m k ok => exact y_stay hI h fun v hv => lookup_sound hE.ty hI hv (evalO_rep hfr m) (evalO_rep hfr k)
  case mapUpdate t m k x =>
    obtain ⟨σ1, hs, h⟩ := bindO_eq h
    obtain ⟨h1, h2⟩ := pair_inj h
    subst h1; subst h2
    obtain ⟨g', w', hrun, hm⟩ := mapUpdate_sound hE.ty hI hs (evalO_rep hfr m) (evalO_rep hfr k) (evalO_rep hfr x)
    exact .inr (.inl ⟨w', by rw [Sem.run_bind, hrun]; rfl, g', hm, trivial⟩)
  case extract x i =>
    obtain ⟨vs, hv, h⟩ := bindO_eq h
    obtain ⟨u, hu, h⟩ := bindO_eq h
    obtain ⟨h1, h2⟩ := pair_inj h
    subst h1; subst h2
    have hr := evalO_rep hfr x
    cases hxx : evalO fr x <;> rw [hxx] at hv hr <;> simp [tupleOf] at hv
    subst hv
    obtain ⟨ws, hw, hr⟩ := hr
    obtain ⟨val, h1, h2⟩ := Reps.get hr hu
    exact Yields.value (v := val) (w' := w) (by rw [hw]; simp [Instr.extract, h1]) ⟨g, Moved.stay hI, h2⟩
  case call c =>
    obtain ⟨callee, args, ts⟩ := c
    have hargs := evalOs_map hfr args
    cases callee with
    | builtin b =>
      have := builtin_sound (ty := ty) (consts := args.map fun | .const _ => true | _ => false) hE hI h hargs
      rw [Array.toArray_toList] at this
      exact this
    | value f =>
      have hf := evalO_rep hfr f
      have h : aCallV E σ (evalOs fr args.toList) (evalO fr f) = some (v, σ') := h
      cases hff : evalO fr f <;> rw [hff] at h hf <;> simp only [aCallV] at h <;> try (cases h; done)
      case fn k cap =>
        obtain ⟨cs, hcs, hcr⟩ := hf
        have := hE.tab _ _ _ _ _ h g w _ hI (Reps.append hargs hcr)
        refine (show Yields E.P _ w _ from ?_)
        have he : (do let d ← resolve a.eval { callee := .value f, args, argTypes := ts } ty; invoke d.target d.args : Sem Next) = callFunc k (args.map a.eval ++ cs.toArray) := by
          simp [resolve, hcs, Deferred.ofValue, invoke]
        rw [he]
        have h2 : ((args.map a.eval).toList ++ cs).toArray = args.map a.eval ++ cs.toArray := by apply Array.ext'; simp
        rw [h2] at this
        exact this
      case yfn Q =>
        obtain ⟨_, hP, hval⟩ := hf
        have he : (do let d ← resolve a.eval { callee := .value f, args, argTypes := ts } ty; invoke d.target d.args : Sem Next) = Instr.yield g.w0.G.l (args.map a.eval) := by
          simp [resolve, hval, Deferred.ofValue, invoke]
        refine (show Yields E.P _ w _ from ?_)
        rw [he]
        have h2 : (args.map a.eval).toList.toArray = args.map a.eval := Array.toArray_toList ..
        rw [← h2]
        exact yield_sound hI hP h hargs
    | invoke _ _ => simp [aOp, aCallee] at h
end Go.Abs
namespace Go.Abs
open Go.RowKit
variable {E : Env} {g : Ghost} {σ : Store} {w : World}

noncomputable def stepI (E : Env) (ops : Array Oper) (i : Nat) (s : Fr × Store) : Option (Fr × Store) :=
  match ops[i]? with
  | none => some s
  | some o => bindO (wants ops s.1 o.guard) fun b => iteO b (bindO (aOp E s.1 s.2 o.type o.op) fun p => some (setT s.1 o.dst p.1, p.2)) (some (setT s.1 o.dst (.tuple []), s.2))
noncomputable def runI (E : Env) (ops : Array Oper) : List Nat → Fr × Store → Option (Fr × Store)
  | [], s => some s
  | i :: L, s => bindO (stepI E ops i s) (runI E ops L)

theorem aOps_runI (ops : Array Oper) : ∀ (os : List Oper) (k : Nat) (fr : Fr) (σ : Store) (r : ARes), (∀ j, os[j]? = ops[k + j]?) → aOps E ops os fr σ = some r →
    r.e = .normal ∧ runI E ops (List.range' k os.length) (fr, σ) = some (r.fr, r.σ)
  | [], k, fr, σ, r, _, h => by
    simp [aOps] at h
    subst h
    exact ⟨rfl, rfl⟩
  | o :: os, k, fr, σ, r, hj, h => by
    have ho : ops[k]? = some o := by have := hj 0; simpa using this.symm
    have hj' : ∀ j, os[j]? = ops[k + 1 + j]? := fun j => by have := hj (j + 1); rw [show k + 1 + j = k + (j + 1) by omega, ← this]; simp
    obtain ⟨b, hb, h1⟩ := bindO_eq h
    rw [List.length_cons, List.range'_succ]
    simp only [runI, stepI, ho, hb, bindO_some]
    rcases iteO_eq h1 with ⟨rfl, h2⟩ | ⟨rfl, h2⟩
    · obtain ⟨p, hp, h3⟩ := bindO_eq h2
      obtain ⟨h4, h5⟩ := aOps_runI ops os (k + 1) _ _ r hj' h3
      exact ⟨h4, by simp only [iteO_true, hp, bindO_some]; exact h5⟩
    · obtain ⟨h4, h5⟩ := aOps_runI ops os (k + 1) _ _ r hj' h2
      exact ⟨h4, by simp only [iteO_false, bindO_some]; exact h5⟩

theorem asB_eq {x : AV} {b : Bool} (h : asB x = some b) : x = .bool b := by
  cases x <;> simp [asB] at h; rw [h]
theorem wants_sound {ops : Array Oper} {fr : Fr} {tmps : Array Value} {n : Nat} (hfr : FrOk g n fr tmps) {o : Oper} {b : Bool} (h : wants ops fr o.guard = some b) : Region.wanted o (yielded ops tmps) = b := by
  unfold Region.wanted
  cases hg : o.guard with
  | none => rw [hg] at h; injection h
  | some q =>
    rw [hg] at h
    obtain ⟨t, ht, h1⟩ := bindO_eq h
    have hr := hfr.getD t
    have hy : ∀ v, tmps.getD t undef = v → yielded ops tmps q.1 = match v with | .bool b => some b | _ => none := fun v hv => by
      simp only [yielded, ht, Option.bind_some]
      rw [Array.getD_eq_getD_getElem?] at hv
      cases hx : tmps[t]? with
      | none => rw [hx] at hv; subst hv; rfl
      | some u => rw [hx] at hv; simp at hv; subst hv; cases u <;> rfl
    cases hc : fr.getD t .top with
    | bool b' =>
      rw [hc] at h1 hr
      injection h1 with h1
      have hr : tmps.getD t undef = .bool b' := hr
      simp only [hy _ hr, ← h1]
      cases b' <;> cases q.2 <;> rfl
    | tuple cs =>
      rw [hc] at h1 hr
      cases cs with
      | nil =>
        injection h1 with h1
        obtain ⟨vs, e, h2⟩ := hr
        simp only [hy _ e, ← h1]
        rfl
      | cons c cs => cases h1
    | _ => rw [hc] at h1; cases h1

/-- The store of the caller stays known. -/
theorem not_defer {fr : Fr} {o : Oper} {p : AV × Store} (h : aOp E fr σ o.type o.op = some p) : ∀ c, o.op ≠ .defer c := fun c hc => by rw [hc] at h; simp [aOp] at h

theorem step_wp (hE : EnvOk E) (hI : Inv g σ w) {ops : Array Oper} {i n : Nat} {r : Option Nat} {fr fr' : Fr} {σ' : Store} {a : Act} {K : Act → World → Prop} {Q : Exit → Act → World → Prop} (hfr : FrOk g σ.length fr a.tmps)
    (h : stepI E ops i (fr, σ) = some (fr', σ')) (hK : ∀ g' a' w', Moved g g' σ σ' w' → FrOk g' σ'.length fr' a'.tmps → a'.defers = a.defers → K a' w') : wpOpIn (wideR r) n E.P ops Q i K a w := by
  unfold wpOpIn
  unfold stepI at h
  cases ho : ops[i]? with
  | none =>
    rw [ho] at h
    obtain ⟨h1, h2⟩ := pair_inj h
    subst h1; subst h2
    exact hK g a w (Moved.stay hI) hfr rfl
  | some o =>
    rw [ho] at h
    obtain ⟨b, hb, h1⟩ := bindO_eq h
    have hw := wants_sound hfr hb
    simp only [hw]
    rcases iteO_eq h1 with ⟨rfl, h2⟩ | ⟨rfl, h2⟩
    · obtain ⟨p, hp, h3⟩ := bindO_eq h2
      obtain ⟨h4, h5⟩ := pair_inj h3
      subst h4; subst h5
      simp only [if_true]
      refine wpIn_of_yields (not_defer hp) ((op_sound hE hI hfr o (v := p.1) (σ' := p.2) hp).mono ?_)
      rintro v w' ⟨g', hm, hr⟩
      refine hK g' _ w' hm ((hfr.mono hm.ext hm.len).put o.dst hr) ?_
      cases o.dst <;> rfl
    · obtain ⟨h4, h5⟩ := pair_inj h2
      subst h4; subst h5
      simp only [Bool.false_eq_true, if_false]
      refine ⟨fun _ _ => trivial, hK g _ w (Moved.stay hI) (hfr.put o.dst (c := .tuple []) ⟨[], rfl, rfl⟩) ?_⟩
      cases o.dst <;> rfl

theorem Moved.trans {g g' g'' : Ghost} {σ σ' σ'' : Store} {w' w'' : World} (h : Moved g g' σ σ' w') (h' : Moved g' g'' σ' σ'' w'') : Moved g g'' σ σ'' w'' :=
  ⟨h.ext.trans h'.ext h.len, h'.inv, Nat.le_trans h.len h'.len⟩

theorem ops_wp (hE : EnvOk E) {ops : Array Oper} {n : Nat} {r : Option Nat} {Q : Exit → Act → World → Prop} : ∀ (L : List Nat) (g : Ghost) (σ σ' : Store) (w : World) (fr fr' : Fr) (a : Act), Inv g σ w → FrOk g σ.length fr a.tmps →
    runI E ops L (fr, σ) = some (fr', σ') → (∀ g' a' w', Moved g g' σ σ' w' → FrOk g' σ'.length fr' a'.tmps → a'.defers = a.defers → Q .normal a' w') → wpOpsIn (wideR r) n E.P ops Q L a w
  | [], g, σ, σ', w, fr, fr', a, hI, hfr, h, hQ => by
    obtain ⟨h1, h2⟩ := pair_inj h
    subst h1; subst h2
    exact hQ g a w (Moved.stay hI) hfr rfl
  | i :: L, g, σ, σ', w, fr, fr', a, hI, hfr, h, hQ => by
    obtain ⟨s, hs, h1⟩ := bindO_eq h
    rw [wpOpsIn_cons]
    refine step_wp (fr' := s.1) (σ' := s.2) hE hI hfr hs fun g' a' w' hm hf hd => ?_
    exact ops_wp hE L g' s.2 σ' w' s.1 fr' a' hm.inv hf h1 fun g'' a'' w'' hm' hf' hd' => hQ g'' a'' w'' (hm.trans hm') hf' (hd'.trans hd)

theorem region_wp (hE : EnvOk E) (hI : Inv g σ w) {id : Nat} {ops : Array Oper} {n : Nat} {r : Option Nat} {Q : Exit → Act → World → Prop} {fr : Fr} {a : Act} {res : ARes} (hfr : FrOk g σ.length fr a.tmps)
    (h : aOps E ops ops.toList fr σ = some res) (hQ : ∀ g' a' w', Moved g g' σ res.σ w' → FrOk g' res.σ.length res.fr a'.tmps → a'.defers = a.defers → Q .normal a' w') : (Code.region id ops false).wpIn (wideR r) n E.P Q a w := by
  refine wpIn_region ?_
  have hr := (aOps_runI (E := E) ops ops.toList 0 fr σ res (fun j => by simp) h).2
  rw [Array.length_toList, ← List.range_eq_range'] at hr
  exact ops_wp hE _ g σ res.σ w fr res.fr a hI hfr hr hQ
end Go.Abs
namespace Go.Abs
open Go.RowKit
variable {E : Env} {g : Ghost} {σ : Store} {w : World}

theorem keepObjs_get (n0 n : Nat) (σ : Store) : ∀ (os : Store) (id j : Nat), (keepObjs n0 n σ id os)[j]? = (os[j]?).map (AObj.keep n0 n σ (id + j))
  | [], id, j => by simp [keepObjs]
  | o :: os, id, 0 => by simp [keepObjs]
  | o :: os, id, j + 1 => by
    simp only [keepObjs, List.getElem?_cons_succ]
    rw [keepObjs_get n0 n σ os (id + 1) j, show id + 1 + j = id + (j + 1) by omega]
theorem keepObjs_length (n0 n : Nat) (σ : Store) : ∀ (os : Store) (id : Nat), (keepObjs n0 n σ id os).length = os.length
  | [], _ => rfl
  | _ :: os, id => by simp [keepObjs, keepObjs_length n0 n σ os (id + 1)]
theorem keepSt_length (n0 n : Nat) (σ : Store) (h : n ≤ σ.length) : (keepSt n0 n σ).length = n := by
  simp [keepSt, keepObjs_length]; omega
theorem keepSt_get (n0 n : Nat) (σ : Store) (j : Nat) {o : AObj} (h : (keepSt n0 n σ)[j]? = some o) : j < n ∧ ∃ o', σ[j]? = some o' ∧ o = o'.keep n0 n σ j := by
  simp only [keepSt, keepObjs_get, Nat.zero_add] at h
  obtain ⟨o', h1, h2⟩ := Option.map_eq_some_iff.1 h
  rw [List.getElem?_take] at h1
  split at h1
  · exact ⟨by assumption, o', h1, h2.symm⟩
  · cases h1

def Ghost.keep (g : Ghost) (n0 : Nat) (σ : Store) : Ghost :=
  { g with hd := fun id ver => if id < n0 then g.hd id ver else if ver = 0 then (match σ[id]? with | some (.row _ v _) => g.hd id v | _ => none) else none }
theorem Ghost.keep_ext (g : Ghost) (n0 : Nat) (σ : Store) : Ext g (g.keep n0 σ) n0 :=
  ⟨fun _ _ _ h => h, fun _ _ => rfl, fun id hid ver v h => by simp only [Ghost.keep]; rw [if_pos hid]; exact h, Tie.refl _ _⟩

theorem keepL_rep {n0 n : Nat} {c : AV} {v : Value} (h : Rep g c σ.length v) : Rep (g.keep n0 σ) (c.keepL n0 n σ) n v := by
  have up : ∀ {c : AV}, Rep g c 0 v → Rep (g.keep n0 σ) c n v := fun h => Rep.mono (g.keep_ext n0 σ) _ 0 n v (Nat.zero_le _) (Nat.zero_le _) h
  cases c with
  | ptr id off =>
    simp only [AV.keepL]
    split
    · rename_i hd
      exact ⟨of_decide_eq_true hd, h.2⟩
    · trivial
  | map id =>
    simp only [AV.keepL]
    split
    · rename_i hd
      exact ⟨of_decide_eq_true hd, h.2⟩
    · trivial
  | rs id ver =>
    simp only [AV.keepL]
    split
    · rename_i hd
      have hd := of_decide_eq_true hd
      obtain ⟨_, h2, h3⟩ := h
      split
      · rename_i h0
        have h0 := of_decide_eq_true h0
        exact ⟨hd, by simp only [Ghost.keep]; rw [if_pos h0]; exact h2, h3⟩
      · rename_i h0
        have h0 := of_decide_eq_false h0
        cases ho : σ[id]? with
        | none => trivial
        | some o =>
          cases o with
          | row sz v' es =>
            simp only [rowVer]
            split
            · rename_i hv
              simp only [Bool.and_eq_true, decide_eq_true_eq] at hv
              refine ⟨hd, ?_, h3⟩
              simp only [Ghost.keep]
              rw [if_neg h0, if_pos trivial, ho]
              simp only
              rw [hv.2]; exact h2
            · trivial
          | _ => trivial
    · trivial
  | bool _ => exact h
  | int _ _ => exact h
  | str _ => exact h
  | sl _ _ _ => exact up h
  | cref _ => exact up h
  | nilfn => exact h
  | nilp => exact h
  | nilmap => exact h
  | nilif => exact h
  | yfn P =>
    simp only [AV.keepL]
    split
    · rename_i hd
      exact ⟨of_decide_eq_true hd, h.2⟩
    · trivial
  | _ => trivial
theorem keepLs_rep {n0 n : Nat} : ∀ {cs : List AV} {vs : List Value}, Reps g cs σ.length vs → Reps (g.keep n0 σ) (cs.map (AV.keepL n0 n σ)) n vs
  | [], _, h => h
  | _ :: _, _, ⟨v, vs', e, h1, h2⟩ => ⟨v, vs', e, keepL_rep h1, keepLs_rep h2⟩
theorem keep_rep {n0 n : Nat} {c : AV} {v : Value} (h : Rep g c σ.length v) : Rep (g.keep n0 σ) (c.keep n0 n σ) n v := by
  cases c with
  | agg cs => obtain ⟨vs, e, hr⟩ := h; exact ⟨vs, e, keepLs_rep hr⟩
  | tuple cs => obtain ⟨vs, e, hr⟩ := h; exact ⟨vs, e, keepLs_rep hr⟩
  | fn f cs => obtain ⟨vs, e, hr⟩ := h; exact ⟨vs, e, keepLs_rep hr⟩
  | _ => exact keepL_rep h
theorem keepFr_get (n0 n : Nat) (σ : Store) (ks : List Nat) : ∀ (fr : Fr) (i j : Nat), (keepFr n0 n σ ks i fr)[j]? = (fr[j]?).map fun v => match ks.contains (i + j) with | true => v.keep n0 n σ | false => .top
  | [], _, _ => by simp [keepFr]
  | v :: fr, i, 0 => by simp only [keepFr, List.getElem?_cons_zero, Option.map_some, Nat.add_zero]; rfl
  | v :: fr, i, j + 1 => by
    simp only [keepFr, List.getElem?_cons_succ]
    rw [keepFr_get n0 n σ ks fr (i + 1) j, show i + 1 + j = i + (j + 1) by omega]
theorem keepFr_length (n0 n : Nat) (σ : Store) (ks : List Nat) : ∀ (fr : Fr) (i : Nat), (keepFr n0 n σ ks i fr).length = fr.length
  | [], _ => rfl
  | _ :: fr, i => by simp [keepFr, keepFr_length n0 n σ ks fr (i + 1)]
theorem keepFr_ok {n0 n : Nat} {ks : List Nat} {fr : Fr} {tmps : Array Value} (h : FrOk g σ.length fr tmps) : FrOk (g.keep n0 σ) n (keepFr n0 n σ ks 0 fr) tmps := by
  refine ⟨by rw [keepFr_length]; exact h.size, fun i c hi => ?_⟩
  rw [keepFr_get] at hi
  obtain ⟨v, hv, hc⟩ := Option.map_eq_some_iff.1 hi
  split at hc
  · subst hc; exact keep_rep (h.get i v hv)
  · subst hc; trivial
theorem dropFr_get (ks : List Nat) : ∀ (fr : Fr) (i j : Nat), (dropFr ks i fr)[j]? = (fr[j]?).map fun v => match ks.contains (i + j) with | true => v | false => .top
  | [], _, _ => by simp [dropFr]
  | v :: fr, i, 0 => by simp only [dropFr, List.getElem?_cons_zero, Option.map_some, Nat.add_zero]; rfl
  | v :: fr, i, j + 1 => by
    simp only [dropFr, List.getElem?_cons_succ]
    rw [dropFr_get ks fr (i + 1) j, show i + 1 + j = i + (j + 1) by omega]
theorem dropFr_length (ks : List Nat) : ∀ (fr : Fr) (i : Nat), (dropFr ks i fr).length = fr.length
  | [], _ => rfl
  | _ :: fr, i => by simp [dropFr, dropFr_length ks fr (i + 1)]
theorem dropFr_ok {n : Nat} {ks : List Nat} {fr : Fr} {tmps : Array Value} (h : FrOk g n fr tmps) : FrOk g n (dropFr ks 0 fr) tmps := by
  refine ⟨by rw [dropFr_length]; exact h.size, fun i c hi => ?_⟩
  rw [dropFr_get] at hi
  obtain ⟨v, hv, hc⟩ := Option.map_eq_some_iff.1 hi
  split at hc
  · subst hc; exact h.get i v hv
  · subst hc; trivial

theorem owned_keep' {n0 n : Nat} {id : Nat} {o : AObj} {b : Nat} (ho : σ[id]? = some o) (h : owned (g.keep n0 σ) id (o.keep n0 n σ id) = some b) : owned g id o = some b := by
  cases o with
  | row sz ver es =>
    simp only [AObj.keep] at h
    by_cases h0 : id < n0
    · simp only [h0, decide_true, owned, rowBlock, Ghost.keep, if_true] at h ⊢
      exact h
    · simp only [h0, decide_false, owned, rowBlock, Ghost.keep, if_false, if_true, ho] at h ⊢
      exact h
  | var cs => exact h
  | map kk m => exact h
  | frz _ _ _ => simp [AObj.keep, owned] at h
  | dead => simp [AObj.keep, owned] at h
  | guest _ => exact h

theorem keep_inv {n0 n : Nat} (hI : Inv g σ w) (hn : n ≤ σ.length) : Inv (g.keep n0 σ) (keepSt n0 n σ) w := by
  have he := g.keep_ext n0 σ
  refine ⟨hI.comm, fun id o ho => ?_, fun id o b ho hb => ?_, fun id id' o o' b ho ho' hb hb' => ?_, hI.below, hI.str, hI.base, hI.low, fun id T hg => ?_⟩
  · obtain ⟨hid, o', ho', rfl⟩ := keepSt_get n0 n σ id ho
    have hobj := hI.objs id o' ho'
    rw [keepSt_length n0 n σ hn]
    cases o' with
    | var cs =>
      obtain ⟨vs, t, h1, h2⟩ := hobj
      exact ⟨vs, t, h1, keepLs_rep h2⟩
    | row sz ver es =>
      obtain ⟨⟨a, cap, h1, h2⟩, h3, h4⟩ := hobj
      have hrow : RowOk (g.keep n0 σ) w sz es a cap := by
        rcases h2 with h2 | ⟨h5, h6, b, vs, t, h7, h8, h9, h10⟩
        · exact .inl h2
        · exact .inr ⟨h5, h6, b, vs, t, h7, h8, h9, Reps.mono he _ 0 0 _ (Nat.zero_le _) (Nat.le_refl _) h10⟩
      simp only [AObj.keep]
      by_cases h0 : id < n0
      · simp only [h0, decide_true]
        refine ⟨⟨a, cap, ?_, hrow⟩, h3, fun k hk => ?_⟩
        · simp only [Ghost.keep]; rw [if_pos h0]; exact h1
        · simp only [Ghost.keep]; rw [if_pos h0]; exact h4 k hk
      · simp only [h0, decide_false]
        refine ⟨⟨a, cap, ?_, hrow⟩, h3, fun k hk => ?_⟩
        · simp only [Ghost.keep]; rw [if_neg h0, if_pos trivial, ho']; exact h1
        · simp only [Ghost.keep]; rw [if_neg h0, if_neg (by omega)]
    | map kk m =>
      obtain ⟨ents, clock, h1, h2⟩ := hobj
      exact ⟨ents, clock, h1, MapOk.mono he h2⟩
    | frz _ _ _ => trivial
    | dead => trivial
    | guest _ => trivial
  · obtain ⟨hid, o', ho', rfl⟩ := keepSt_get n0 n σ id ho
    exact hI.sep id o' b ho' (owned_keep' ho' hb)
  · obtain ⟨_, p, hp, rfl⟩ := keepSt_get n0 n σ id ho
    obtain ⟨_, p', hp', rfl⟩ := keepSt_get n0 n σ id' ho'
    exact hI.inj id id' p p' b hp hp' (owned_keep' hp hb) (owned_keep' hp' hb')
  · obtain ⟨_, p, hp, hpe⟩ := keepSt_get n0 n σ id hg
    have hpg : p = .guest T := by cases p <;> simp only [AObj.keep] at hpe <;> first | (injection hpe with hpe; rw [hpe]) | (split at hpe <;> cases hpe) | cases hpe
    subst hpg
    obtain ⟨h0, hy, F, hrel, hF, hfF⟩ := hI.guest id T hp
    refine ⟨h0, hy, F, hrel, fun id' o' b ho' hb' => ?_, hfF⟩
    obtain ⟨_, p', hp', rfl⟩ := keepSt_get n0 n σ id' ho'
    exact hF id' p' b hp' (owned_keep' hp' hb')

/-! ### Code -/
def exitOf : AExit → Exit
  | .normal => .normal
  | .exit id => .exit id
  | .ret => .ret
/-- The marks that ranges over functions leave among the deferred calls. -/
def mark (D : Nat) : Deferred := { target := .collected D, args := #[] }
def MarksOk (g g' : Ghost) (ds ds' : List Deferred) : Prop :=
  ∃ ms : List Nat, ds' = ms.map mark ++ ds ∧ ms.Nodup ∧ ∀ D ∈ ms, g'.fixed D ∧ ¬ g.fixed D ∧ g'.w0.w.heap[D]? = some (.deferred (some []))
theorem MarksOk.of_eq {g g' : Ghost} {ds ds' : List Deferred} (h : ds' = ds) : MarksOk g g' ds ds' := ⟨[], h, List.nodup_nil, fun _ h => by simp at h⟩
theorem MarksOk.trans {g g' g'' : Ghost} {ds ds' ds'' : List Deferred} (h : MarksOk g g' ds ds') (h' : MarksOk g' g'' ds' ds'') (t : Tie g.fixed g.w0 g'.fixed g'.w0) (t' : Tie g'.fixed g'.w0 g''.fixed g''.w0) : MarksOk g g'' ds ds'' := by
  obtain ⟨ms, rfl, h1, h2⟩ := h
  obtain ⟨ms', rfl, h3, h4⟩ := h'
  refine ⟨ms' ++ ms, by simp, List.nodup_append.2 ⟨h3, h1, fun a ha b hb e => ?_⟩, fun D hD => ?_⟩
  · subst e; exact (h4 a ha).2.1 (h2 a hb).1
  · rcases List.mem_append.1 hD with hD | hD
    · obtain ⟨h5, h6, h7⟩ := h4 D hD
      exact ⟨h5, fun hf => h6 (t.fix D hf), h7⟩
    · obtain ⟨h5, h6, h7⟩ := h2 D hD
      exact ⟨t'.fix D h5, h6, (t'.same D h5).trans h7⟩
/-- What the evaluation says of the end of a run. -/
structure Ends (E : Env) (len0 : Nat) (g : Ghost) (a : Act) (r : ARes) (g' : Ghost) (a' : Act) (w' : World) : Prop where
  ext : Ext g g' E.n0
  inv : Inv g' r.σ w'
  len : len0 ≤ r.σ.length
  fr : FrOk g' r.σ.length r.fr a'.tmps
  defers : MarksOk g g' a.defers a'.defers
  blk : ∀ id, id < len0 → g'.blk id = g.blk id
theorem Ends.trans {E : Env} {len0 len1 : Nat} {g g' g'' : Ghost} {a a' a'' : Act} {r r' : ARes} {w' w'' : World} (h : Ends E len0 g a r g' a' w') (h' : Ends E len1 g' a' r' g'' a'' w'') (hl : len0 ≤ len1) : Ends E len0 g a r' g'' a'' w'' :=
  ⟨h.ext.trans h'.ext (Nat.le_refl _), h'.inv, Nat.le_trans hl h'.len, h'.fr, h.defers.trans h'.defers h.ext.tie h'.ext.tie, fun id hid => (h'.blk id (Nat.lt_of_lt_of_le hid hl)).trans (h.blk id hid)⟩
def noRange : Code → Bool
  | .seq a b => noRange a && noRange b
  | .cond _ a b => noRange a && noRange b
  | .block _ b => noRange b
  | .loop b => noRange b
  | .rangeFunc _ _ _ _ => false
  | _ => true
def drawsOk (ok : Nat → Array Oper → Bool) : Code → Bool
  | .region id ops true => ok id ops
  | .seq a b => drawsOk ok a && drawsOk ok b
  | .cond _ a b => drawsOk ok a && drawsOk ok b
  | .block _ b => drawsOk ok b
  | .loop b => drawsOk ok b
  | .rangeFunc _ _ a b => drawsOk ok a && drawsOk ok b && noRange a && noRange b
  | _ => true

def Sound (E : Env) (n : Nat) (rr : Option Nat) (c : Code) (f : Fr → Store → Option ARes) : Prop :=
  ∀ (g : Ghost) (σ : Store) (w : World) (fr : Fr) (a : Act) (r : ARes) (Q : Exit → Act → World → Prop), Inv g σ w → E.n0 ≤ σ.length → FrOk g σ.length fr a.tmps → f fr σ = some r →
    (∀ g' a' w', Ends E σ.length g a r g' a' w' → Q (exitOf r.e) a' w') → c.wpIn (wideR rr) n E.P Q a w

theorem loop_rounds {n : Nat} {rr : Option Nat} {c : Code} {body : Fr → Store → Option ARes} (hb : Sound E n rr c body) (ks : List Nat) (m : Nat) (hm : E.n0 ≤ m) : ∀ (N : Nat) (g : Ghost) (σ : Store) (w : World) (fr : Fr) (a : Act) (r : ARes) (Q : Exit → Act → World → Prop),
    Inv g σ w → σ.length = m → FrOk g σ.length fr a.tmps → aLoop E.n0 body ks m N fr σ = some r → (∀ g' a' w', Ends E m g a r g' a' w' → Q (exitOf r.e) a' w') → Code.roundsIn (wideR rr) n E.P c Q N a w
  | 0, _, _, _, _, _, _, _, _, _, _, h, _ => by simp [aLoop] at h
  | N + 1, g, σ, w, fr, a, r, Q, hI, hl, hfr, h, hQ => by
    rw [roundsIn_succ]
    obtain ⟨r1, hr1, h1⟩ := bindO_eq h
    refine hb g σ w fr a r1 _ hI (by omega) hfr hr1 fun g' a' w' hE => ?_
    obtain ⟨e, fr1, σ1⟩ := r1
    cases e with
    | normal =>
      have h2 : aLoop E.n0 body ks m N (keepFr E.n0 m σ1 ks 0 fr1) (keepSt E.n0 m σ1) = some r := h1
      have hml : m ≤ σ1.length := hl ▸ hE.len
      have hlen := keepSt_length E.n0 m σ1 hml
      refine loop_rounds hb ks m hm N (g'.keep E.n0 σ1) _ w' _ a' r Q (keep_inv hE.inv hml) hlen ?_ h2 fun g'' a'' w'' hE' => ?_
      · rw [hlen]; exact keepFr_ok hE.fr
      · have hE1 : Ends E m g a ⟨.normal, keepFr E.n0 m σ1 ks 0 fr1, keepSt E.n0 m σ1⟩ (g'.keep E.n0 σ1) a' w' :=
          ⟨hE.ext.trans (g'.keep_ext E.n0 σ1) (Nat.le_refl _), keep_inv hE.inv hml, Nat.le_of_eq hlen.symm, by simp only [hlen]; exact keepFr_ok hE.fr, hE.defers, fun id hid => hE.blk id (by omega)⟩
        exact hQ g'' a'' w'' (hE1.trans hE' (Nat.le_refl _))
    | exit id =>
      simp only [thenO] at h1
      injection h1 with h1
      subst h1
      exact hQ g' a' w' (hl ▸ hE)
    | ret =>
      simp only [thenO] at h1
      injection h1 with h1
      subst h1
      exact hQ g' a' w' (hl ▸ hE)
end Go.Abs
namespace Go.Abs
open Go.RowKit
variable {E : Env} {g : Ghost} {σ : Store} {w : World}

/-! ### Data: of data only the cells are asked -/
section
variable {g g' : Ghost}
mutual
theorem Rep.data (hC : ∀ b o v, g.C b o = some v → g'.C b o = some v) : ∀ (x : AV) (n : Nat) (v : Value), Rep g x 0 v → Rep g' x n v
  | .bool _, _, _, hr => hr
  | .int _ _, _, _, hr => hr
  | .str _, _, _, hr => hr
  | .agg cs, n, _, ⟨vs, e, hr⟩ => ⟨vs, e, Reps.data hC cs n vs hr⟩
  | .tuple cs, n, _, ⟨vs, e, hr⟩ => ⟨vs, e, Reps.data hC cs n vs hr⟩
  | .sl _ sz es, _, _, ⟨a, cap, e, h1, h2, h3⟩ => ⟨a, cap, e, h1, h2, h3.imp id fun ⟨b, o, ea, hr⟩ => ⟨b, o, ea, RepE.data hC es sz b o hr⟩⟩
  | .top, _, _, _ => trivial
  | .ptr _ _, _, _, ⟨h1, _⟩ => absurd h1 (Nat.not_lt_zero _)
  | .cref cs, _, _, ⟨b, o, e, hr⟩ => ⟨b, o, e, RepC.data hC cs b o hr⟩
  | .rs _ _, _, _, ⟨h1, _⟩ => absurd h1 (Nat.not_lt_zero _)
  | .rptr _ _ _ _ _, _, _, ⟨h1, _⟩ => absurd h1 (Nat.not_lt_zero _)
  | .map _, _, _, ⟨h1, _⟩ => absurd h1 (Nat.not_lt_zero _)
  | .fn _ cap, n, _, ⟨vs, e, hr⟩ => ⟨vs, e, Reps.data hC cap n vs hr⟩
  | .nilfn, _, _, hr => hr
  | .nilp, _, _, hr => hr
  | .nilmap, _, _, hr => hr
  | .nilif, _, _, hr => hr
  | .yfn _, _, _, ⟨h1, _⟩ => absurd h1 (Nat.not_lt_zero _)
theorem Reps.data (hC : ∀ b o v, g.C b o = some v → g'.C b o = some v) : ∀ (cs : List AV) (n : Nat) (vs : List Value), Reps g cs 0 vs → Reps g' cs n vs
  | [], _, _, hr => hr
  | c :: cs, n, _, ⟨v, vs', e, h1, h2⟩ => ⟨v, vs', e, Rep.data hC c n v h1, Reps.data hC cs n vs' h2⟩
theorem RepC.data (hC : ∀ b o v, g.C b o = some v → g'.C b o = some v) : ∀ (cs : List AV) (b o : Nat), RepC g cs b o → RepC g' cs b o
  | [], _, _, _ => trivial
  | c :: cs, b, o, ⟨⟨v, e, h1⟩, h2⟩ => ⟨⟨v, hC b o v e, Rep.data hC c 0 v h1⟩, RepC.data hC cs b (o + 1) h2⟩
theorem RepE.data (hC : ∀ b o v, g.C b o = some v → g'.C b o = some v) : ∀ (es : List (List AV)) (sz b o : Nat), RepE g es sz b o → RepE g' es sz b o
  | [], _, _, _, _ => trivial
  | e :: es, sz, b, o, ⟨h1, h2, h3⟩ => ⟨RepC.data hC e b o h1, h2, RepE.data hC es sz b (o + sz) h3⟩
end
end


/-! ### Frames without headers -/
structure UpB (g g' : Ghost) (n : Nat) : Prop where
  C : ∀ b o v, g.C b o = some v → g'.C b o = some v
  blk : ∀ id, id < n → g'.blk id = g.blk id
  G : g'.w0.G = g.w0.G
theorem noRowL_rep {g' : Ghost} {n : Nat} (h : UpB g g' n) {c : AV} {v : Value} (hr : Rep g c n v) : Rep g' c.noRowL n v := by
  cases c with
  | ptr id off => exact ⟨hr.1, by rw [h.blk id hr.1]; exact hr.2⟩
  | map id => exact ⟨hr.1, by rw [h.blk id hr.1]; exact hr.2⟩
  | yfn P => exact ⟨hr.1, by rw [h.G]; exact hr.2⟩
  | sl f sz es => exact Rep.data h.C (.sl f sz es) n v (by simpa only [Rep] using hr)
  | cref cs => exact Rep.data h.C (.cref cs) n v (by simpa only [Rep] using hr)
  | bool _ => exact hr
  | int _ _ => exact hr
  | str _ => exact hr
  | nilfn => exact hr
  | nilp => exact hr
  | nilmap => exact hr
  | nilif => exact hr
  | _ => trivial
theorem noRowLs_rep {g' : Ghost} {n : Nat} (h : UpB g g' n) : ∀ {cs : List AV} {vs : List Value}, Reps g cs n vs → Reps g' (cs.map AV.noRowL) n vs
  | [], _, hr => hr
  | _ :: _, _, ⟨v, vs', e, h1, h2⟩ => ⟨v, vs', e, noRowL_rep h h1, noRowLs_rep h h2⟩
theorem noRow_rep {g' : Ghost} {n : Nat} (h : UpB g g' n) {c : AV} {v : Value} (hr : Rep g c n v) : Rep g' c.noRow n v := by
  cases c with
  | agg cs => obtain ⟨vs, e, h1⟩ := hr; exact ⟨vs, e, noRowLs_rep h h1⟩
  | tuple cs => obtain ⟨vs, e, h1⟩ := hr; exact ⟨vs, e, noRowLs_rep h h1⟩
  | fn f cs => obtain ⟨vs, e, h1⟩ := hr; exact ⟨vs, e, noRowLs_rep h h1⟩
  | _ => exact noRowL_rep h hr
theorem noRow_fr {g' : Ghost} {n : Nat} (h : UpB g g' n) {fr : Fr} {tmps : Array Value} (hf : FrOk g n fr tmps) : FrOk g' n (fr.map AV.noRow) tmps := by
  refine ⟨by simpa using hf.size, fun i c hi => ?_⟩
  rw [List.getElem?_map] at hi
  obtain ⟨v, hv, rfl⟩ := Option.map_eq_some_iff.1 hi
  exact noRow_rep h (hf.get i v hv)
theorem setPs_fr' {n : Nat} : ∀ (ps : List Nat) (xs : List AV) (vals : List Value) (fr : Fr) (tmps : Array Value), FrOk g n fr tmps → Reps g xs n vals →
    FrOk g n (setPs ps xs fr) ((ps.zip vals).foldl (fun t (p, v) => t.setIfInBounds p v) tmps)
  | [], xs, vals, fr, tmps, hf, _ => by simpa [setPs] using hf
  | p :: ps, [], vals, fr, tmps, hf, hr => by
    have hr : vals = [] := hr
    subst hr
    simpa [setPs] using hf
  | p :: ps, x :: xs, vals, fr, tmps, hf, ⟨v, vs, e, h1, h2⟩ => by
    subst e
    have hf' := FrOk.put (a := ⟨tmps, []⟩) hf (some p) h1
    exact setPs_fr' ps xs vs _ _ hf' h2
theorem setPs_fr {n : Nat} (ps : Array Nat) (xs : List AV) (vals : List Value) (fr : Fr) (tmps : Array Value) (h : FrOk g n fr tmps) (hr : Reps g xs n vals) :
    FrOk g n (setPs ps.toList xs fr) ((ps.zip vals.toArray).foldl (fun t (p, v) => t.setIfInBounds p v) tmps) := by
  rw [← Array.foldl_toList, Array.toList_zip]
  exact setPs_fr' _ _ _ _ _ h hr

/-! ### What is to come -/
def Fits : List (List AV) → List (List AV × Bool) → Prop
  | [], T => T = []
  | x :: xs, T => (∃ T', T = (x, true) :: T' ∧ Fits xs T') ∨ T = [(x, false)]
theorem contR_eq {q q' : AExit × Store} {f : Store → Option (AExit × Store)} (h : contR q f = some q') : (q.1 = .normal ∧ f q.2 = some q') ∨ (q.1 ≠ .normal ∧ q = q') := by
  obtain ⟨e, σ⟩ := q
  cases e with
  | normal => exact .inl ⟨rfl, h⟩
  | exit id => injection h with h; exact .inr ⟨(by intro h; cases h), h⟩
  | ret => injection h with h; exact .inr ⟨(by intro h; cases h), h⟩
theorem todo_normal {rd : List AV → Store → Option (AExit × Store)} {x : List AV} {xs : List (List AV)} {q : AExit × Store} (h : rd x σ = some q) (hq : q.1 = .normal) : todo rd (x :: xs) σ = (x, true) :: todo rd xs q.2 := by
  simp only [todo, h, hq]
theorem todo_stop {rd : List AV → Store → Option (AExit × Store)} {x : List AV} {xs : List (List AV)} {q : AExit × Store} (h : rd x σ = some q) (hq : q.1 ≠ .normal) : todo rd (x :: xs) σ = [(x, false)] := by
  simp only [todo, h]
  obtain ⟨e, σ'⟩ := q
  cases e with
  | normal => exact absurd rfl hq
  | exit id => rfl
  | ret => rfl
theorem todo_fits {rd : List AV → Store → Option (AExit × Store)} {q : AExit × Store} : ∀ (xs : List (List AV)) (σ : Store), aRange rd xs σ = some q → Fits xs (todo rd xs σ)
  | [], _, _ => rfl
  | x :: xs, σ, h => by
    obtain ⟨q1, h1, h2⟩ := bindO_eq h
    rcases contR_eq h2 with ⟨h3, h4⟩ | ⟨h3, h4⟩
    · exact .inl ⟨_, todo_normal h1 h3, todo_fits xs _ h4⟩
    · exact .inr (todo_stop h1 h3)

def SeqOk (P : Program) (v : AV) (xs : List (List AV)) : Prop :=
  ∀ (g : Ghost) (n : Nat) (val : Value), Rep g v n val → ∃ f caps, val = .func (.func f) #[] caps ∧ (∀ args w, (callFunc f args).run P w = .ok (.enter f args) w) ∧
    ∀ (G : Guest) T F C W, G.P = P → YieldRule G → Fits xs T → G.rel T F C W → (∀ b o v, g.C b o = some v → C b o = some v) →
      Calls P f (#[.func (.yield G.l) #[] #[]] ++ caps) W fun e W' => ∃ val, e = .returned val ∧ ∃ F' C', G.rel [] F' C' W'

def jumpOf : AExit → Option Code
  | .normal => none
  | .exit id => some (.exit id)
  | .ret => some .ret

/-! ### The caller as a guest -/
section
variable (n0 m : Nat) (g : Ghost) (w : World) (rd : List AV → Store → Option (AExit × Store)) (q : AExit × Store) (rec : LoopState → Option Code → Loop)

structure WrapRel (T : List (List AV × Bool)) (F : Nat → Prop) (C : Nat → Nat → Option Value) (W : World) (g1 : Ghost) (σ1 : Store) : Prop where
  eC : g1.C = C
  w0 : g1.w0 = ⟨W, C, g.w0.G⟩
  fixed : g1.fixed = fun k => g.fixed k ∨ F k ∨ k = w.heap.size + 1 ∨ k = w.heap.size
  inv : Inv g1 σ1 W
  len : σ1.length = m
  new : ∀ b, F b → w.heap.size + 2 ≤ b ∧ b < W.heap.size
  up : ∀ b o v, g.C b o = some v → C b o = some v
  blk : ∀ id, id < m → g1.blk id = g.blk id
  hd : ∀ id, id < n0 → ∀ ver v, g.hd id ver = some v → g1.hd id ver = some v
  old : ∀ k, g.fixed k → W.heap[k]? = w.heap[k]?
  str : Below 0 w W
  low : ∀ b o v, C b o = some v → g.fixed b → g.C b o = some v
  D : W.heap[w.heap.size]? = some (.deferred (some []))
  st : (∃ xs1, aRange rd xs1 σ1 = some q ∧ T = todo rd xs1 σ1 ∧ W.heap[w.heap.size + 1]? = some (.loop (rec .ready none))) ∨
    (T = [] ∧ q.2 = σ1 ∧ ∃ c, jumpOf q.1 = some c ∧ W.heap[w.heap.size + 1]? = some (.loop (rec .done (some c))))
def wrapRel (T : List (List AV × Bool)) (F : Nat → Prop) (C : Nat → Nat → Option Value) (W : World) : Prop := ∃ g1 σ1, WrapRel n0 m g w rd q rec T F C W g1 σ1
end
end Go.Abs
namespace Go.Abs
open Go.RowKit
variable {E : Env} {g : Ghost} {σ : Store} {w : World}

section
variable {n0 m : Nat} {rd : List AV → Store → Option (AExit × Store)} {q : AExit × Store} {rec : LoopState → Option Code → Loop} {T : List (List AV × Bool)} {F : Nat → Prop} {C : Nat → Nat → Option Value} {W : World} {g1 : Ghost} {σ1 : Store}

theorem WrapRel.Llt (h : WrapRel n0 m g w rd q rec T F C W g1 σ1) : w.heap.size + 1 < W.heap.size := by
  rcases h.st with ⟨_, _, _, h1⟩ | ⟨_, _, _, _, h1⟩ <;> exact (Array.getElem?_eq_some_iff.1 h1).1
theorem WrapRel.oldlt (hI : Inv g σ w) {k : Nat} (hk : g.fixed k) : k < w.heap.size := hI.base k hk

theorem wrap_comm (T : List (List AV × Bool)) (F : Nat → Prop) (C : Nat → Nat → Option Value) (W : World) (h : wrapRel n0 m g w rd q rec T F C W) (b o : Nat) (v : Value) (hv : C b o = some v) : W.cell? ⟨b, o, none⟩ = some v := by
  obtain ⟨g1, σ1, h⟩ := h
  exact h.inv.comm b o v (by rw [h.eC]; exact hv)

theorem wrap_step (hI : Inv g σ w) (T : List (List AV × Bool)) (F : Nat → Prop) (C C2 : Nat → Nat → Option Value) (A B : World) (h : wrapRel n0 m g w rd q rec T F C A) (up : ∀ b o v, C b o = some v → C2 b o = some v)
    (comm : ∀ b o v, C2 b o = some v → B.cell? ⟨b, o, none⟩ = some v) (low : ∀ b o v, C2 b o = some v → C b o = some v ∨ F b ∨ A.heap.size ≤ b) (same : ∀ k, k < A.heap.size → ¬ F k → B.heap[k]? = A.heap[k]?) (hb : Below 0 A B) :
    wrapRel n0 m g w rd q rec T (fun k => F k ∨ (A.heap.size ≤ k ∧ k < B.heap.size)) C2 B := by
  obtain ⟨g1, σ1, h⟩ := h
  have hL := h.Llt
  have hkeep : ∀ k, k < w.heap.size + 2 → B.heap[k]? = A.heap[k]? := fun k hk => same k (by omega) fun hf => by have := (h.new k hf).1; omega
  have hsz := h.str.size
  have hinv := h.inv.foreign (C2 := C2) (B := B) (fun k => g.fixed k ∨ (F k ∨ (A.heap.size ≤ k ∧ k < B.heap.size)) ∨ k = w.heap.size + 1 ∨ k = w.heap.size) (by rw [h.eC]; exact up) comm
    (fun b o v hv => by
      rw [h.eC, h.fixed]
      have hbl := World.block_lt_of_cell? B ⟨b, o, none⟩ (comm b o v hv)
      rcases low b o v hv with h1 | h1 | h1
      · exact .inl h1
      · exact .inr (.inl (.inr (.inl h1)))
      · exact .inr (.inr ⟨h1, hbl⟩))
    (fun k hk hnf => same k hk fun hf => hnf (by rw [h.fixed]; exact .inr (.inl hf))) hb
    (fun k hk => by
      rw [h.fixed]
      rcases hk with h1 | (h1 | h1) | h1 | h1
      · exact .inl (.inl h1)
      · exact .inl (.inr (.inl h1))
      · exact .inr h1.1
      · exact .inl (.inr (.inr (.inl h1)))
      · exact .inl (.inr (.inr (.inr h1))))
    (fun k hk => by
      have hs := hb.size
      rcases hk with h1 | (h1 | h1) | h1 | h1
      · have := hI.base k h1; omega
      · have := (h.new k h1).2; omega
      · exact h1.2
      · omega
      · omega)
  refine ⟨_, σ1, ⟨rfl, by rw [h.w0], rfl, hinv, h.len, fun b hf => ?_, fun b o v hv => up b o v (h.up b o v hv), h.blk, h.hd, fun k hk => ?_, h.str.trans hb, fun b o v hv hf => ?_, ?_, ?_⟩⟩
  · have hs := hb.size
    rcases hf with h1 | h1
    · have := h.new b h1; omega
    · omega
  · rw [hkeep k (by have := hI.base k hk; omega)]; exact h.old k hk
  · have hbl := hI.base b hf
    rcases low b o v hv with h1 | h1 | h1
    · exact h.low b o v h1 hf
    · have := (h.new b h1).1; omega
    · omega
  · rw [hkeep _ (by omega)]; exact h.D
  · rcases h.st with ⟨xs1, h1, h2, h3⟩ | ⟨h1, h2, c, h3, h4⟩
    · exact .inl ⟨xs1, h1, h2, by rw [hkeep _ (by omega)]; exact h3⟩
    · exact .inr ⟨h1, h2, c, h3, by rw [hkeep _ (by omega)]; exact h4⟩
end

/-- The caller as a guest of the function that it ranges over. -/
def wrapG (n0 m : Nat) (g : Ghost) (w : World) (rd : List AV → Store → Option (AExit × Store)) (q : AExit × Store) (rec : LoopState → Option Code → Loop) (P : Program) (σ : Store) (hI : Inv g σ w) : Guest where
  l := w.heap.size + 1
  P := P
  rel := wrapRel n0 m g w rd q rec
  comm := wrap_comm
  lt := fun _ _ _ _ h k hk => by obtain ⟨g1, σ1, h⟩ := h; exact (h.new k hk).2
  step := wrap_step hI

/-- A fixed block that holds no cells turns. -/
theorem Inv.turn (hI : Inv g σ w) {L : Nat} {_o : Obj} {r : Loop} (hL : g.fixed L) (hr : w.heap[L]? = some (.loop r)) (o' : Loop) :
    Inv { g with w0 := ⟨w.putObj L (.loop o'), g.C, g.w0.G⟩ } σ (w.putObj L (.loop o')) := by
  have hno : ∀ b o v, g.C b o = some v → b ≠ L := fun b o v hv e => by
    have := hI.comm b o v hv
    subst e
    simp [World.cell?, hr] at this
  have hget : ∀ k, k ≠ L → (w.putObj L (.loop o')).heap[k]? = w.heap[k]? := fun k hk => World.putObj_heap_other hk
  refine hI.foreign (C2 := g.C) g.fixed (fun _ _ _ h => h) (fun b o v hv => ?_) (fun b o v hv => .inl hv) (fun k _ hk => hget k fun e => hk (e ▸ hL)) ⟨rfl, rfl, rfl, by simp, fun k hk => absurd hk (Nat.not_lt_zero _)⟩ (fun k hk => .inl hk)
    (fun k hk => by rw [World.putObj_size]; exact hI.base k hk)
  rw [← hI.comm b o v hv]
  exact World.cell?_of_block (w := w) (a := ⟨b, o, none⟩) (hget b (hno b o v hv))
end Go.Abs
