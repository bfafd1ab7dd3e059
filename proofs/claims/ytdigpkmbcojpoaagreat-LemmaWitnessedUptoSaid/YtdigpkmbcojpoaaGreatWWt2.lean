import Derived.Test.YtdigpkmbcojpoaaGreatWWt1
import Derived.Test.YtdigpkmbcojpoaaGreatWP9toWVal30
set_option linter.unusedSimpArgs false
set_option linter.unusedVariables false
namespace Go.Abs.Try
set_option maxRecDepth 100000
theorem ite_t {b : Bool} {x : Option Bool} (h : iteO b x (some false) = some true) : b = true ∧ x = some true := by
 cases b with
 | true => exact ⟨rfl,h⟩
 | false => cases h
theorem ite_f {b : Bool} {x : Option Bool} (h : iteO b (some false) x = some true) : b = false ∧ x = some true := by
 cases b with
 | true => cases h
 | false => exact ⟨rfl,h⟩
theorem bind_t {α : Type} {a : Option α} {f : α → Option Bool} (h : bindO a f = some true) : ∃ x,a = some x ∧ f x = some true := by
 cases a with
 | none => cases h
 | some x => exact ⟨x,rfl,h⟩
theorem asc_steps : ∀ (l : List Int),(∀ (i : Nat) (x y : Int),l[i]? = some x → l[i + 1]? = some y → x < y) → asc l
 | [],_ => .nil
 | [x],_ => by simp [asc]
 | x :: y :: l,h => by
   have h1 := h 0 x y rfl rfl
   have ih := asc_steps (y :: l) fun i a b ha hb => h (i + 1) a b ha hb
   refine List.pairwise_cons.2 ⟨fun z hz => ?_,ih⟩
   rcases List.mem_cons.1 hz with rfl | hz
   · exact h1
   · have := (List.pairwise_cons.1 ih).1 z hz; omega
theorem asc_of182 (N : Nat) (l : List Int) (h : F182 N l = some true) (h1 : l.length < N) (hl : l.length ≤ 1048576) : asc l := by
 have step : ∀ i x,l[i]? = some x → (F182_s1 l () i x = some (.inl ()) ∨ F182_s1 l () i x = some (.inr false)) ∧ (F182_s1 l () i x = some (.inl ()) → ∀ k y,i = k + 1 → l[k]? = some y → y < x) := by
   intro i x hx
   have hi := (List.getElem?_eq_some_iff.1 hx).1
   simp only [F182_s1,fits181,bindO_some]
   cases fitsG x with
   | false => exact ⟨.inr rfl,fun h => by cases h⟩
   | true =>
     by_cases h0 : (i : Int) > 0
     · have hi1 : i - 1 < l.length := by omega
       have ha : atO l (IntKind.i64.wrap ((i : Int) - 1)) = some l[i - 1] := by
         rw [wrap_id (by omega)]
         exact atO_lit (i := i - 1) (by omega) (List.getElem?_eq_getElem hi1)
       rw [decide_eq_true h0]
       simp only [iteO_true,ha,bindO_some]
       by_cases hd : l[i - 1] ≥ x
       · rw [decide_eq_true hd]; exact ⟨.inr rfl,fun h => by cases h⟩
       · rw [decide_eq_false hd]
         refine ⟨.inl rfl,fun _ k y hk hy => ?_⟩
         subst hk
         have e : l[k + 1 - 1] = y := (List.getElem?_eq_some_iff.1 hy).2
         rw [e] at hd
         omega
     · rw [decide_eq_false h0]
       exact ⟨.inl rfl,fun _ k y hk _ => by omega⟩
 rcases foldN_either (step := F182_s1 l) (fin := F182_f1 l) false l (fun i x hx => (step i x hx).1) l N 0 rfl h1 with ⟨_,k2⟩ | k1
 · exact asc_steps l fun i x y hx hy => (step (i + 1) y hy).2 (k2 (i + 1) y (Nat.zero_le _) hy) i x rfl hx
 · unfold F182 at h; rw [k1] at h; cases h
theorem vg_of171 (N : Nat) (hN : 1048600 < N) (v : Val) (hv : VSmall v) (h : F171 N v = some true) : VG v.valSort v := by
 unfold F171 at h
 obtain ⟨_,h⟩ := ite_f h
 obtain ⟨_,h⟩ := ite_f h
 obtain ⟨b1,_,h⟩ := bind_t h
 obtain ⟨_,h⟩ := ite_t h
 obtain ⟨b2,hs,h⟩ := bind_t h
 obtain ⟨e2,h⟩ := ite_t h
 obtain ⟨b3,ha,h⟩ := bind_t h
 obtain ⟨e3,h⟩ := ite_t h
 obtain ⟨hl,h⟩ := ite_t h
 rw [e2] at hs; rw [e3] at ha
 have hl : v.valTo.length = v.valAt.length := by have := beq_iff_eq.1 hl; omega
 have ha1 := asc_of182 N v.valSet hs (by have := hv.1; omega) hv.1
 have aa := asc_of182 N v.valAt ha (by have := hv.2.1; omega) hv.2.1
 have step : ∀ i x,v.valTo[i]? = some x → (F171_s1 () i x = some (.inl ()) ∨ F171_s1 () i x = some (.inr false)) ∧ (F171_s1 () i x = some (.inl ()) → x ≠ 0 ∧ fitsG x = true) := by
   intro i x _
   simp only [F171_s1,fits181,bindO_some]
   cases h0 : x == 0 with
   | true => exact ⟨.inr rfl,fun h => by cases h⟩
   | false =>
     have h0 := beq_eq_false_iff_ne.1 h0
     cases hf : fitsG x with
     | true => exact ⟨.inl rfl,fun _ => ⟨h0,rfl⟩⟩
     | false => exact ⟨.inr rfl,fun h => by cases h⟩
 rcases foldN_either (step := F171_s1) (fin := F171_f1 v) false v.valTo (fun i x hx => (step i x hx).1) v.valTo N 0 rfl (by have := hv.2.2; omega) with ⟨k1,k2⟩ | k1
 · rw [k1] at h
   unfold F171_f1 at h
   refine ⟨rfl,fun h4 => ?_,fun h5 => ?_⟩
   · rw [h4] at h
     obtain ⟨hn,h⟩ := ite_t (show iteO (v.valNum == 0) (some ((v.valAt.length : Int) == 0)) (some false) = some true from h)
     have h : v.valAt.length = 0 := by injection h with h; have := beq_iff_eq.1 h; omega
     exact ⟨beq_iff_eq.1 hn,List.eq_nil_of_length_eq_zero h,List.eq_nil_of_length_eq_zero (by omega),ha1⟩
   · rw [h5] at h
     obtain ⟨_,h⟩ := ite_t (show iteO (decide (v.valNum ≥ 0)) (some ((v.valSet.length : Int) == 0)) (some false) = some true from h)
     have h : v.valSet.length = 0 := by injection h with h; have := beq_iff_eq.1 h; omega
     have each : ∀ t ∈ v.valTo,t ≠ 0 ∧ fitsG t = true := fun t ht => by
       obtain ⟨i,hi,ei⟩ := List.getElem_of_mem ht
       have hx : v.valTo[i]? = some t := by rw [List.getElem?_eq_getElem hi,ei]
       exact (step i t hx).2 (k2 i t (Nat.zero_le _) hx)
     exact ⟨List.eq_nil_of_length_eq_zero h,aa,hl,fun t ht => (each t ht).1,fun t ht => (each t ht).2⟩
 · rw [k1] at h; cases h
theorem vg_of157 (N : Nat) (hN : 1048600 < N) (e : Entry) (hv : VSmall e.entryVal) (h : F157 N e = some true) : VG e.entryVal.valSort e.entryVal := by
 unfold F157 at h
 obtain ⟨_,_,h⟩ := bind_t h
 obtain ⟨_,h⟩ := ite_t h
 obtain ⟨_,h⟩ := ite_f h
 obtain ⟨b,hb,h⟩ := bind_t h
 obtain ⟨e,h⟩ := ite_t h
 rw [e] at hb
 exact vg_of171 N hN _ hv hb
def placeB (a b : Entry) : Bool := (a.entryName.toList == b.entryName.toList) && ((a.entryVal.valSort == b.entryVal.valSort) && sameVs a.entryArgs b.entryArgs)
theorem place_of158 (N : Nat) (hN : 1048600 < N) (a b : Entry) (h1 : a.entryArgs.length ≤ 1048576) (h2 : ∀ x ∈ a.entryArgs,VSmall x) : F158 N a b = some (placeB a b) := by
 simp only [F158,sameArgs172 N (by omega) a.entryArgs b.entryArgs (by omega) h2,bindO_some,placeB]
 cases a.entryName.toList == b.entryName.toList <;> cases a.entryVal.valSort == b.entryVal.valSort <;> rfl
def keyE (e : Entry) : List UInt8 × Int × List Val := (e.entryName.toList,e.entryVal.valSort,e.entryArgs)
theorem placeB_iff {a b : Entry} : placeB a b = true ↔ keyE a = keyE b := by
 unfold placeB keyE
 rw [Bool.and_eq_true,Bool.and_eq_true,beq_iff_eq,beq_iff_eq,sameVs_iff,Prod.mk.injEq,Prod.mk.injEq]
theorem placeB_self (e : Entry) : placeB e e = true := placeB_iff.2 rfl
theorem inner_126 (N : Nat) (hN : 1048600 < N) (m : List Entry) (hm : MSmall m) (i : Nat) (hi : i ≤ m.length) (x : Entry) : ∀ (k M j : Nat),j + k = i → k < M →
   whileN (F126_s2 N i m x) M (j : Int) = some (bif ((m.drop j).take k).any (fun y => placeB y x) then .inr false else .inl ())
 | 0,M,j,hj,hM => by
   obtain ⟨K,rfl⟩ : ∃ K,M = K + 1 := ⟨M - 1,by omega⟩
   have : decide ((j : Int) < (i : Int)) = false := decide_eq_false (by omega)
   simp only [whileN,F126_s2,this,iteO_false,bindO_some,List.take_zero,List.any_nil,cond_false]
 | k + 1,M,j,hj,hM => by
   obtain ⟨K,rfl⟩ : ∃ K,M = K + 1 := ⟨M - 1,by omega⟩
   have hl := hm.len
   have : decide ((j : Int) < (i : Int)) = true := decide_eq_true (by omega)
   have hjl : j < m.length := by omega
   have e : m[j]? = some m[j] := List.getElem?_eq_getElem hjl
   obtain ⟨a1,a2,_⟩ := hm.args _ (List.getElem_mem hjl)
   have w : IntKind.i64.wrap ((j : Int) + 1) = ((j + 1 : Nat) : Int) := by rw [wrap_id (by omega)]; rfl
   have ih := inner_126 N hN m hm i hi x k K (j + 1) (by omega) (by omega)
   rw [List.drop_eq_getElem_cons hjl,List.take_succ_cons,List.any_cons]
   simp only [whileN,F126_s2,this,iteO_true,atO_get e,bindO_some,place_of158 N hN m[j] x a1 a2,w]
   cases placeB m[j] x with
   | true => rfl
   | false => exact ih
structure VMod (N : Nat) (m : List Entry) : Prop where
 len : m.length ≤ 2000
 each : ∀ e ∈ m,F157 N e = some true
 apart : m.Pairwise fun a b => placeB a b = false
theorem foldN_go {α β : Type} {step : Unit → Nat → α → Option (Sum Unit β)} {fin : Unit → Option β} (full : List α) (hs : ∀ i x,full[i]? = some x → step () i x = some (.inl ())) :
   ∀ (l : List α) (N i : Nat),full.drop i = l → l.length < N → foldN step fin N l i () = fin ()
 | [],N,i,hd,hN => by
   obtain ⟨K,rfl⟩ : ∃ K,N = K + 1 := ⟨N - 1,by simp at hN; omega⟩
   rfl
 | x :: l,N,i,hd,hN => by
   obtain ⟨K,rfl⟩ : ∃ K,N = K + 1 := ⟨N - 1,by simp at hN; omega⟩
   obtain ⟨hx,hxs⟩ := drop_cons hd
   simp only [foldN,hs i x hx,bindO_some]
   exact foldN_go full hs l K (i + 1) hxs (by simp at hN; omega)
theorem step_126 (N : Nat) (hN : 2097200 < N) (m : List Entry) (hm : MSmall m) (i : Nat) (x : Entry) (hx : m[i]? = some x) :
   ∃ b,F157 N x = some b ∧ F126_s1 N m () i x = some (bif b && !(m.take i).any (fun y => placeB y x) then .inl () else .inr false) := by
 obtain ⟨a1,a2,a3⟩ := hm.args x (List.mem_of_getElem? hx)
 obtain ⟨b,s,_⟩ := entry157 N (by omega) x a1 a2 a3
 have hi := (List.getElem?_eq_some_iff.1 hx).1
 refine ⟨b,s, ?_⟩
 have hl := hm.len
 have := inner_126 N (by omega) m hm i (by omega) x i N 0 (by omega) (by omega)
 rw [List.drop_zero] at this
 simp only [F126_s1,s,bindO_some]
 cases b with
 | false => rfl
 | true =>
   rw [iteO_true,Bool.true_and]
   refine Eq.trans this ?_
   cases (m.take i).any (fun y => placeB y x) <;> rfl
theorem valid_iff (N : Nat) (hN : 2097200 < N) (m : List Entry) (hm : MSmall m) : F126 N m = some true ↔ VMod N m := by
 have hl := hm.len
 constructor
 · intro h
   unfold F126 at h
   obtain ⟨h0,h⟩ := ite_f h
   have h0 := of_decide_eq_false h0
   rcases foldN_either (step := F126_s1 N m) (fin := F126_f1) false m (fun i x hx => by
     obtain ⟨b,_,e⟩ := step_126 N hN m hm i x hx
     rw [e]
     cases b && !(m.take i).any (fun y => placeB y x) with
     | true => exact .inl rfl
     | false => exact .inr rfl) m N 0 rfl (by omega) with ⟨k1,k2⟩ | k1
   · have each : ∀ i x,m[i]? = some x → F157 N x = some true ∧ (m.take i).any (fun y => placeB y x) = false := fun i x hx => by
       obtain ⟨b,s,e⟩ := step_126 N hN m hm i x hx
       have := k2 i x (Nat.zero_le _) hx
       rw [e] at this
       cases b with
       | false => cases this
       | true =>
         refine ⟨s, ?_⟩
         cases hh : (m.take i).any (fun y => placeB y x) with
         | false => rfl
         | true => rw [hh] at this; cases this
     refine ⟨by omega,fun e he => ?_,List.pairwise_iff_getElem.2 fun i j hi hj hij => ?_⟩
     · obtain ⟨i,hi,ei⟩ := List.getElem_of_mem he
       exact (each i e (by rw [List.getElem?_eq_getElem hi,ei])).1
     · have := (each j m[j] (List.getElem?_eq_getElem hj)).2
       rw [List.any_eq_false] at this
       have h2 := this m[i] (List.mem_take_iff_getElem.2 ⟨i,by omega,rfl⟩)
       cases hh : placeB m[i] m[j] with
       | false => rfl
       | true => exact absurd hh h2
   · rw [k1] at h; cases h
 · intro ⟨h1,h2,h3⟩
   unfold F126
   rw [decide_eq_false (by omega : ¬ (m.length : Int) > 2000),iteO_false,foldN_go m (fun i x hx => ?_) m N 0 rfl (by omega)]
   · rfl
   · obtain ⟨b,s,e⟩ := step_126 N hN m hm i x hx
     have hi := (List.getElem?_eq_some_iff.1 hx).1
     have hxe := (List.getElem?_eq_some_iff.1 hx).2
     have hb : b = true := by have := h2 x (List.mem_of_getElem? hx); rw [s] at this; injection this
     rw [e,hb,show (m.take i).any (fun y => placeB y x) = false from ?_]
     · rfl
     · rw [List.any_eq_false]
       intro y hy
       obtain ⟨j,hj,ej⟩ := List.mem_take_iff_getElem.1 hy
       have := List.pairwise_iff_getElem.1 h3 j i (by omega) hi (by omega)
       rw [ej,hxe] at this
       rw [this]; exact Bool.false_ne_true
def setM (m : List Entry) (e : Entry) : List Entry := bif m.any (fun x => placeB x e) then m.map (fun x => bif placeB x e then e else x) else m ++ [e]
theorem fits128 {n : Nat} (h : n ≤ 4194304) : fits n 128 = true := by
 simp only [fits,roomMax]; exact decide_eq_true (by omega)
theorem set_fold (N : Nat) (hN : 2097200 < N) (e : Entry) (fin : List Entry × Bool → Option (List Entry × Int)) : ∀ (l : List Entry) (M i : Nat) (out : List Entry) (d : Bool),l.length < M → out.length + l.length ≤ 4000000 → (∀ x ∈ l,x.entryArgs.length ≤ 1048576 ∧ ∀ a ∈ x.entryArgs,VSmall a) →
   foldN (F1222_s1 N e) fin M l i (out,d) = fin (out ++ l.map (fun x => bif placeB x e then e else x),d || l.any (fun x => placeB x e))
 | [],M,i,out,d,hM,_,_ => by
   obtain ⟨K,rfl⟩ : ∃ K,M = K + 1 := ⟨M - 1,by simp at hM; omega⟩
   simp [foldN]
 | x :: l,M,i,out,d,hM,ho,hx => by
   obtain ⟨K,rfl⟩ : ∃ K,M = K + 1 := ⟨M - 1,by simp at hM; omega⟩
   simp only [List.length_cons] at hM ho
   obtain ⟨h1,h2⟩ := hx x (by simp)
   have ih := fun y d => set_fold N hN e fin l K (i + 1) (out ++ [y]) d (by omega) (by simp; omega) fun z hz => hx z (by simp [hz])
   simp only [foldN,F1222_s1,place_of158 N (by omega) x e h1 h2,bindO_some,fits128 (show out.length + 1 ≤ 4194304 by omega),iteO_true,List.map_cons,List.any_cons]
   cases placeB x e with
   | true => exact (ih e true).trans (by simp)
   | false => exact (ih x d).trans (by simp)
theorem set_1222 (N : Nat) (hN : 2097200 < N) (m : List Entry) (hm : MSmall m) (e : Entry) (b : Bool) (hv : F126 N m = some true) (hb : F157 N e = some b) (hl : m.length ≤ 30) :
   F1222 N m e = some (bif b then (setM m e,0) else ([],3)) := by
 unfold F1222
 rw [hv,bindO_some,iteO_true,hb,bindO_some]
 cases b with
 | false => rfl
 | true =>
   rw [iteO_true,set_fold N hN e (F1222_f1 e m) m N 0 [] false (by omega) (by simp; omega) fun x hx => ⟨(hm.args x hx).1,(hm.args x hx).2.1⟩,List.nil_append,Bool.false_or,cond_true]
   unfold F1222_f1 setM
   simp only
   cases ha : m.any (fun x => placeB x e) with
   | true => rfl
   | false =>
     have hmap : m.map (fun x => bif placeB x e then e else x) = m := by
       rw [List.any_eq_false] at ha
       rw [List.map_congr_left (g := id) fun x hx => ?_,List.map_id]
       have := ha x hx
       cases hh : placeB x e with
       | true => exact absurd hh this
       | false => rfl
     rw [iteO_false,decide_eq_false (by omega : ¬ (m.length : Int) ≥ 2000),iteO_false,hmap,fits128 (by omega),iteO_true,cond_false]
theorem set_key (m : List Entry) (e x : Entry) : keyE (bif placeB x e then e else x) = keyE x := by
 cases h : placeB x e with
 | true => exact (placeB_iff.1 h).symm
 | false => rfl
theorem vmod_set (N : Nat) (m : List Entry) (e : Entry) (hm : VMod N m) (he : F157 N e = some true) (hl : m.length ≤ 30) : VMod N (setM m e) := by
 obtain ⟨h1,h2,h3⟩ := hm
 unfold setM
 cases ha : m.any (fun x => placeB x e) with
 | true =>
   refine ⟨by rw [cond_true,List.length_map]; omega,fun x hx => ?_, ?_⟩
   · rw [cond_true] at hx
     obtain ⟨y,hy,rfl⟩ := List.mem_map.1 hx
     cases placeB y e with
     | true => exact he
     | false => exact h2 y hy
   · rw [cond_true,List.pairwise_map]
     refine h3.imp fun {a b} hab => ?_
     cases hh : placeB (bif placeB a e then e else a) (bif placeB b e then e else b) with
     | false => rfl
     | true =>
       have := placeB_iff.1 hh
       rw [set_key m,set_key m] at this
       rw [placeB_iff.2 this] at hab; cases hab
 | false =>
   refine ⟨by rw [cond_false,List.length_append]; simp; omega,fun x hx => ?_, ?_⟩
   · rw [cond_false] at hx
     rcases List.mem_append.1 hx with hx | hx
     · exact h2 x hx
     · rw [List.mem_singleton.1 hx]; exact he
   · rw [cond_false,List.pairwise_append]
     refine ⟨h3,by simp,fun a ha' b hb => ?_⟩
     rw [List.mem_singleton.1 hb]
     rw [List.any_eq_false] at ha
     cases hh : placeB a e with
     | false => rfl
     | true => exact absurd hh (ha a ha')
theorem small_set (m : List Entry) (e : Entry) (hm : MSmall m) (hl : m.length ≤ 30) (he : e.entryArgs.length ≤ 1048576 ∧ (∀ a ∈ e.entryArgs,VSmall a) ∧ VSmall e.entryVal) : MSmall (setM m e) := by
 unfold setM
 cases m.any (fun x => placeB x e) with
 | true =>
   refine ⟨by rw [cond_true,List.length_map]; omega,fun x hx => ?_⟩
   rw [cond_true] at hx
   obtain ⟨y,hy,rfl⟩ := List.mem_map.1 hx
   cases placeB y e with
   | true => exact he
   | false => exact hm.args y hy
 | false =>
   refine ⟨by rw [cond_false,List.length_append]; simp; omega,fun x hx => ?_⟩
   rw [cond_false] at hx
   rcases List.mem_append.1 hx with hx | hx
   · exact hm.args x hx
   · rw [List.mem_singleton.1 hx]; exact he
theorem look_other (m : List Entry) (e : Entry) (nm : ByteArray) (args : List Val) (s : Int) (h : (e.entryName.toList == nm.toList) = false) : lookR nm args s (setM m e) = lookR nm args s m := by
 have name : ∀ x,placeB x e = true → (x.entryName.toList == nm.toList) = false := fun x hx => by
   unfold placeB at hx
   rw [Bool.and_eq_true] at hx
   rw [beq_iff_eq.1 hx.1]; exact h
 unfold setM
 cases m.any (fun x => placeB x e) with
 | true =>
   rw [cond_true]
   induction m with
   | nil => rfl
   | cons x m ih =>
     rw [List.map_cons]
     cases hx : placeB x e with
     | true =>
       rw [cond_true,lookR,lookR,h,name x hx,Bool.false_and,cond_false,Bool.false_and,cond_false]
       exact ih
     | false =>
       rw [cond_false,lookR,lookR]
       cases (x.entryName.toList == nm.toList) && ((x.entryVal.valSort == s) && sameVs x.entryArgs args) with
       | true => rfl
       | false => exact ih
 | false =>
   rw [cond_false]
   induction m with
   | nil =>
     show (bif (e.entryName.toList == nm.toList) && ((e.entryVal.valSort == s) && sameVs e.entryArgs args) then e.entryVal else lookR nm args s []) = _
     rw [h]; rfl
   | cons x m ih =>
     rw [List.cons_append,lookR,lookR]
     cases (x.entryName.toList == nm.toList) && ((x.entryVal.valSort == s) && sameVs x.entryArgs args) with
     | true => rfl
     | false => exact ih
theorem look_self (m : List Entry) (e : Entry) : lookR e.entryName e.entryArgs e.entryVal.valSort (setM m e) = e.entryVal := by
 have one : ∀ (x : Entry) (l : List Entry),lookR e.entryName e.entryArgs e.entryVal.valSort (x :: l) = bif placeB x e then x.entryVal else lookR e.entryName e.entryArgs e.entryVal.valSort l := fun _ _ => rfl
 unfold setM
 cases ha : m.any (fun x => placeB x e) with
 | true =>
   rw [cond_true]
   induction m with
   | nil => cases ha
   | cons x m ih =>
     rw [List.map_cons,one]
     cases hx : placeB x e with
     | true => rw [cond_true,placeB_self,cond_true]
     | false =>
       rw [cond_false,hx,cond_false]
       rw [List.any_cons,hx,Bool.false_or] at ha
       exact ih ha
 | false =>
   rw [cond_false]
   induction m with
   | nil => rw [List.nil_append,one,placeB_self,cond_true]
   | cons x m ih =>
     rw [List.any_cons,Bool.or_eq_false_iff] at ha
     rw [List.cons_append,one,ha.1,cond_false]
     exact ih ha.2
end Go.Abs.Try
