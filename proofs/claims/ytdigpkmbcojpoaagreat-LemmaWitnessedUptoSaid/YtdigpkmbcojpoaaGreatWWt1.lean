import Derived.Test.YtdigpkmbcojpoaaGreatWMod2toWMod3
set_option linter.unusedSimpArgs false
set_option linter.unusedVariables false
namespace Go.Abs.Try
set_option maxRecDepth 100000
def asc (l : List Int) : Prop := l.Pairwise (· < ·)
theorem asc_ext : ∀ {l r : List Int},asc l → asc r → (∀ x,x ∈ l ↔ x ∈ r) → l = r
 | [],[],_,_,_ => rfl
 | [],y :: r,_,_,h => absurd ((h y).2 (by simp)) (by simp)
 | x :: l,[],_,_,h => absurd ((h x).1 (by simp)) (by simp)
 | x :: l,y :: r,hl,hr,h => by
   obtain ⟨h1,h2⟩ := List.pairwise_cons.1 hl
   obtain ⟨h3,h4⟩ := List.pairwise_cons.1 hr
   have hx := (h x).1 (by simp)
   have hy := (h y).2 (by simp)
   have e : x = y := by
     rcases List.mem_cons.1 hx with e | hx
     · exact e
     · rcases List.mem_cons.1 hy with e | hy
       · exact e.symm
       · have := h3 x hx; have := h1 y hy; omega
   subst e
   rw [asc_ext h2 h4 fun z => ?_]
   constructor
   · intro hz
     have := h1 z hz
     rcases List.mem_cons.1 ((h z).1 (by simp [hz])) with e | h
     · omega
     · exact h
   · intro hz
     have := h3 z hz
     rcases List.mem_cons.1 ((h z).2 (by simp [hz])) with e | h
     · omega
     · exact h
theorem hasL_iff {l : List Int} {n : Int} : hasL l n = true ↔ n ∈ l := by
 unfold hasL
 rw [List.any_eq_true]
 constructor
 · rintro ⟨x,hx,e⟩; rw [← beq_iff_eq.1 e]; exact hx
 · intro h; exact ⟨n,h,beq_self_eq_true n⟩
theorem hasL_not {l : List Int} {n : Int} (h : hasL l n = false) : n ∉ l := fun hn => by rw [hasL_iff.2 hn] at h; cases h
theorem insL_mem {n x : Int} : ∀ {l : List Int},x ∈ insL n l ↔ x = n ∨ x ∈ l
 | [] => by simp [insL]
 | y :: l => by
   rw [insL]
   split
   · simp
   · rw [List.mem_cons,insL_mem (l := l),List.mem_cons]
     constructor
     · rintro (h | h | h)
       · exact .inr (.inl h)
       · exact .inl h
       · exact .inr (.inr h)
     · rintro (h | h | h)
       · exact .inr (.inl h)
       · exact .inl h
       · exact .inr (.inr h)
theorem insL_asc {n : Int} : ∀ {l : List Int},asc l → n ∉ l → asc (insL n l)
 | [],_,_ => by simp [insL,asc]
 | y :: l,hl,hn => by
   obtain ⟨h1,h2⟩ := List.pairwise_cons.1 hl
   have hne : n ≠ y := fun e => hn (by simp [e])
   rw [insL]
   split
   · rename_i h
     refine List.pairwise_cons.2 ⟨fun z hz => ?_,hl⟩
     rcases List.mem_cons.1 hz with rfl | hz
     · exact h
     · have := h1 z hz; omega
   · rename_i h
     refine List.pairwise_cons.2 ⟨fun z hz => ?_,insL_asc h2 fun h => hn (by simp [h])⟩
     rcases insL_mem.1 hz with rfl | hz
     · omega
     · exact h1 z hz
theorem insU_asc {l : List Int} {n : Int} (h : asc l) : asc (insU l n) := by
 unfold insU
 cases hh : hasL l n with
 | true => exact h
 | false => exact insL_asc h (hasL_not hh)
theorem fold_asc : ∀ (b : List Int) {l : List Int},asc l → asc (b.foldl insU l)
 | [],_,h => h
 | x :: b,_,h => fold_asc b (insU_asc h)
theorem combL_asc (op : Int) {a : List Int} (b : List Int) (h : asc a) : asc (combL op a b) := by
 have h1 : asc (a.filter (keepC op b)) := List.Pairwise.filter _ h
 unfold combL
 cases op == 11 with
 | true => exact fold_asc b h1
 | false => exact h1
structure Arr (v : Val) : Prop where
 set : v.valSet = []
 ord : asc v.valAt
 len : v.valTo.length = v.valAt.length
 nz : ∀ t ∈ v.valTo,t ≠ 0
 fit : ∀ t ∈ v.valTo,fitsG t = true
structure SetV (v : Val) : Prop where
 num : v.valNum = 0
 at0 : v.valAt = []
 to0 : v.valTo = []
 ord : asc v.valSet
def VG (s : Int) (v : Val) : Prop := v.valSort = s ∧ (s = 4 → SetV v) ∧ (s = 5 → Arr v)
theorem default_vg (s : Int) : VG s ⟨s,0,[],[],[]⟩ := ⟨rfl,fun _ => ⟨rfl,rfl,rfl,.nil⟩,fun _ => ⟨rfl,.nil,rfl,(fun _ h => by cases h),(fun _ h => by cases h)⟩⟩
theorem storeL_sub (v : Val) (i x : Int) : ∀ l : List Int,(storeL v i x l).1.Sublist l ∧ ∀ t ∈ (storeL v i x l).2,t ≠ 0
 | [] => ⟨.slnil,fun _ h => by cases h⟩
 | k :: l => by
   obtain ⟨h1,h2⟩ := storeL_sub v i x l
   rw [storeL]
   cases h : (bif k == i then x else atV v k) == 0 with
   | true => simp only [cond_true]; exact ⟨h1.cons _,h2⟩
   | false =>
     simp only [cond_false]
     refine ⟨h1.cons_cons _,fun t ht => ?_⟩
     rcases List.mem_cons.1 ht with rfl | ht
     · exact beq_eq_false_iff_ne.1 h
     · exact h2 t ht
theorem at_fit {v : Val} (h : ∀ t ∈ v.valTo,fitsG t = true) (i : Int) : fitsG (atV v i) = true := by
 unfold atV
 rcases atZ_mem (i := i) (l := v.valAt) (r := v.valTo) with e | e
 · rw [e]; decide
 · exact h _ e
theorem storeL_fit (v : Val) (i x : Int) (h : ∀ t ∈ v.valTo,fitsG t = true) (hx : fitsG x = true) : ∀ l : List Int, ∀ t ∈ (storeL v i x l).2,fitsG t = true
 | [] => fun _ h => by cases h
 | k :: l => by
   have ih := storeL_fit v i x h hx l
   rw [storeL]
   cases (bif k == i then x else atV v k) == 0 with
   | true => simp only [cond_true]; exact ih
   | false =>
     simp only [cond_false]
     intro t ht
     rcases List.mem_cons.1 ht with rfl | ht
     · cases k == i with
       | true => exact hx
       | false => exact at_fit h k
     · exact ih t ht
theorem stored_vg {v : Val} (h : Arr v) (i x : Int) (hx : fitsG x = true) : VG 5 (storedV v i x) := by
 obtain ⟨h1,h2⟩ := storeL_sub v i x (insU v.valAt i)
 refine ⟨rfl,fun h => (by cases h),fun _ => ⟨rfl, ?_,(storeL_len v i x _).2,h2,storeL_fit v i x h.fit hx _⟩⟩
 exact List.Pairwise.sublist h1 (insU_asc h.ord)
theorem atZ_in {i : Int} : ∀ {l r : List Int},r.length = l.length → (∀ t ∈ r,t ≠ 0) → i ∈ l → atZ i l r ≠ 0
 | [],_,_,_,h => by cases h
 | _ :: _,[],h,_,_ => by simp at h
 | x :: l,y :: r,hl,hz,h => by
   rw [atZ]
   cases hx : x == i with
   | true => exact hz y (by simp)
   | false =>
     rw [cond_false]
     rcases List.mem_cons.1 h with rfl | h
     · simp at hx
     · exact atZ_in (by simpa using hl) (fun t ht => hz t (by simp [ht])) h
theorem atZ_out {i : Int} : ∀ {l r : List Int},i ∉ l → atZ i l r = 0
 | [],r,_ => by cases r <;> rfl
 | _ :: _,[],_ => rfl
 | x :: l,y :: r,h => by
   have : (x == i) = false := beq_eq_false_iff_ne.2 fun e => h (by simp [e])
   rw [atZ,this,cond_false]
   exact atZ_out fun hi => h (by simp [hi])
theorem atZ_ext : ∀ {l r r' : List Int},asc l → r.length = l.length → r'.length = l.length → (∀ i ∈ l,atZ i l r = atZ i l r') → r = r'
 | [],[],[],_,_,_,_ => rfl
 | [],_ :: _,_,_,h,_,_ => by simp at h
 | [],_,_ :: _,_,_,h,_ => by simp at h
 | _ :: _,[],_,_,h,_,_ => by simp at h
 | _ :: _,_,[],_,_,h,_ => by simp at h
 | x :: l,y :: r,z :: r',ha,h1,h2,h => by
   obtain ⟨a1,a2⟩ := List.pairwise_cons.1 ha
   have e := h x (by simp)
   rw [atZ,atZ,beq_self_eq_true,cond_true,cond_true] at e
   have key : r = r' := by
     refine atZ_ext a2 (by simpa using h1) (by simpa using h2) fun i hi => ?_
     have hne : (x == i) = false := beq_eq_false_iff_ne.2 fun e => by have := a1 i hi; omega
     have := h i (by simp [hi])
     rw [atZ,atZ,hne,cond_false,cond_false] at this
     exact this
   rw [e,key]
theorem sameV_iff {a b : Val} : sameV a b = true ↔ a = b := by
 unfold sameV
 rw [Bool.and_eq_true,Bool.and_eq_true,Bool.and_eq_true,Bool.and_eq_true,beq_iff_eq,beq_iff_eq,beq_iff_eq,beq_iff_eq,beq_iff_eq]
 constructor
 · rintro ⟨h1,h2,h3,h4,h5⟩
   cases a; cases b
   simp only at h1 h2 h3 h4 h5
   subst h1; subst h2; subst h3; subst h4; subst h5; rfl
 · rintro rfl; exact ⟨rfl,rfl,rfl,rfl,rfl⟩
theorem sameVs_iff : ∀ {a b : List Val},sameVs a b = true ↔ a = b
 | [],[] => by simp [sameVs]
 | [],_ :: _ => by simp [sameVs]
 | _ :: _,[] => by simp [sameVs]
 | x :: a,y :: b => by rw [sameVs,Bool.and_eq_true,sameV_iff,sameVs_iff,List.cons.injEq]
theorem arr_same {v u : Val} (hv : Arr v) (hu : Arr u) (hs : v.valSort = u.valSort) (hn : v.valNum = u.valNum) (h : ∀ i,i ∈ v.valAt ∨ i ∈ u.valAt → atV v i = atV u i) : v = u := by
 have e : v.valAt = u.valAt := asc_ext hv.ord hu.ord fun i => by
   constructor
   · intro hi
     have h1 := atZ_in hv.len hv.nz hi
     by_cases h2 : i ∈ u.valAt
     · exact h2
     · have h3 := h i (.inl hi)
       unfold atV at h3
       rw [atZ_out h2] at h3
       exact absurd h3 h1
   · intro hi
     have h1 := atZ_in hu.len hu.nz hi
     by_cases h2 : i ∈ v.valAt
     · exact h2
     · have h3 := h i (.inr hi)
       unfold atV at h3
       rw [atZ_out h2] at h3
       exact absurd h3.symm h1
 have e2 : v.valTo = u.valTo := by
   refine atZ_ext hv.ord hv.len (by rw [e]; exact hu.len) fun i hi => ?_
   have := h i (.inl hi)
   unfold atV at this
   rw [this,e]
 cases v; cases u
 have s1 := hv.set
 have s2 := hu.set
 simp only at hs hn e e2 s1 s2
 subst hs; subst hn; subst e; subst e2; subst s1; subst s2; rfl
theorem set_same {v u : Val} (hv : SetV v) (hu : SetV u) (hs : v.valSort = u.valSort) (h : ∀ i,i ∈ v.valSet ↔ i ∈ u.valSet) : v = u := by
 have e := asc_ext hv.ord hu.ord h
 obtain ⟨a1,a2,a3,_⟩ := hv
 obtain ⟨b1,b2,b3,_⟩ := hu
 cases v; cases u
 simp only at hs e a1 a2 a3 b1 b2 b3
 subst hs; subst e; subst a1; subst a2; subst a3; subst b1; subst b2; subst b3; rfl
end Go.Abs.Try
