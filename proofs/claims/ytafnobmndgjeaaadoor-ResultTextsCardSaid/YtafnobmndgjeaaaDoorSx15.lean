/- The normal form hangs on what it looks at alone. -/
import Derived.Test.YtafnobmndgjeaaaDoorSx14
namespace Go.Sx
open Go
variable {P : Program} {s s' : SS} {gl : List (At × Bool)}

/-- The two states agree at an operand's slot. -/
def Ea (s s' : SS) (x : Operand) : Prop := ∀ t, x = .tmp t → s'.tmps t = s.tmps t

theorem opS1_congr {x : Operand} (h : Ea s s' x) : opS1 s' gl x = opS1 s gl x := by
  cases x with
  | tmp t => simp only [opS1, h t rfl]
  | _ => rfl
theorem opAt_congr {x : Operand} (h : Ea s s' x) : opAt s' gl x = opAt s gl x := by
  simp only [opAt, opS1_congr h]
theorem opAts_congr : ∀ {xs : List Operand}, (∀ x ∈ xs, Ea s s' x) → opAts s' gl xs = opAts s gl xs
  | [], _ => rfl
  | x :: r, h => by simp only [opAts, opAt_congr (h x (by simp)), opAts_congr (xs := r) (fun y hy => h y (by simp [hy]))]
theorem opS1s_congr : ∀ {xs : List Operand}, (∀ x ∈ xs, Ea s s' x) → opS1s s' gl xs = opS1s s gl xs
  | [], _ => rfl
  | x :: r, h => by simp only [opS1s, opS1_congr (h x (by simp)), opS1s_congr (xs := r) (fun y hy => h y (by simp [hy]))]
theorem fillParts_congr {place : Nat → Option (Nat × Nat)} : ∀ {parts : List (Nat × Operand)} {cells : List At}, (∀ p ∈ parts, Ea s s' p.2) →
    fillParts s' gl place parts cells = fillParts s gl place parts cells
  | [], _, _ => rfl
  | (i, x) :: r, cells, h => by
    have h1 := opS1_congr (gl := gl) (h (i, x) (by simp))
    simp only [] at h1
    simp only [fillParts, h1]
    split
    · split
      · rw [fillParts_congr (fun p hp => h p (by simp [hp]))]
      · rfl
    · rfl

theorem reachSl_sub : ∀ (fuel : Nat) (r acc : List Nat), (∀ n ∈ acc, n ∈ reachSl s fuel r acc)
  | 0, r, acc, n, h => by cases r <;> simp [reachSl, h]
  | fuel + 1, [], acc, n, h => by simpa [reachSl] using h
  | fuel + 1, m :: r, acc, n, h => by
    simp only [reachSl]
    split
    · exact reachSl_sub fuel _ _ n h
    · split
      · exact reachSl_sub fuel _ _ n (by simp [h])
      · exact reachSl_sub fuel _ _ n (by simp [h])
theorem reachSl_congr : ∀ (fuel : Nat) (r acc : List Nat), (∀ n ∈ reachSl s fuel r acc, s'.mem n = s.mem n) → reachSl s' fuel r acc = reachSl s fuel r acc
  | 0, r, acc, _ => by cases r <;> simp [reachSl]
  | fuel + 1, [], acc, _ => by simp [reachSl]
  | fuel + 1, m :: r, acc, h => by
    simp only [reachSl] at h ⊢
    split
    · rename_i hc
      simp only [hc, if_true] at h
      exact reachSl_congr fuel _ _ h
    · rename_i hc
      simp only [hc] at h
      have hm : s'.mem m = s.mem m := by
        apply h
        simp only [Bool.false_eq_true, if_false]
        split
        · exact reachSl_sub fuel _ _ m (by simp)
        · exact reachSl_sub fuel _ _ m (by simp)
      rw [hm]
      cases hs : s.mem m with
      | none => simp only [hs, Bool.false_eq_true, if_false] at h; exact reachSl_congr fuel _ _ h
      | some b => simp only [hs, Bool.false_eq_true, if_false] at h; exact reachSl_congr fuel _ _ h
theorem reachP_sub : ∀ (fuel : Nat) (r acc : List Nat), (∀ n ∈ acc, n ∈ reachP s fuel r acc)
  | 0, r, acc, n, h => by cases r <;> simp [reachP, h]
  | fuel + 1, [], acc, n, h => by simpa [reachP] using h
  | fuel + 1, m :: r, acc, n, h => by
    simp only [reachP]
    split
    · exact reachP_sub fuel _ _ n h
    · split
      · exact reachP_sub fuel _ _ n (by simp [h])
      · exact reachP_sub fuel _ _ n (by simp [h])
theorem reachP_congr : ∀ (fuel : Nat) (r acc : List Nat), (∀ n ∈ reachP s fuel r acc, s'.mem n = s.mem n) → reachP s' fuel r acc = reachP s fuel r acc
  | 0, r, acc, _ => by cases r <;> simp [reachP]
  | fuel + 1, [], acc, _ => by simp [reachP]
  | fuel + 1, m :: r, acc, h => by
    simp only [reachP] at h ⊢
    split
    · rename_i hc
      simp only [hc, if_true] at h
      exact reachP_congr fuel _ _ h
    · rename_i hc
      simp only [hc] at h
      have hm : s'.mem m = s.mem m := by
        apply h
        simp only [Bool.false_eq_true, if_false]
        split
        · exact reachP_sub fuel _ _ m (by simp)
        · exact reachP_sub fuel _ _ m (by simp)
      rw [hm]
      cases hs : s.mem m with
      | none => simp only [hs, Bool.false_eq_true, if_false] at h; exact reachP_congr fuel _ _ h
      | some b => simp only [hs, Bool.false_eq_true, if_false] at h; exact reachP_congr fuel _ _ h
theorem slOfBoxes_congr : ∀ (l acc : List Nat), (∀ n ∈ l, s'.mem n = s.mem n) → slOfBoxes s' l acc = slOfBoxes s l acc
  | [], _, _ => rfl
  | n :: r, acc, h => by
    simp only [slOfBoxes, h n (by simp)]
    exact slOfBoxes_congr r _ (fun m hm => h m (by simp [hm]))
theorem liveBoxes_congr {l : List Nat} (h : ∀ n ∈ l, s'.mem n = s.mem n) : liveBoxes s' l = liveBoxes s l := by
  unfold liveBoxes
  induction l with
  | nil => rfl
  | cons n r ih => simp only [List.filterMap_cons, h n (by simp), ih (fun m hm => h m (by simp [hm]))]

theorem heavyNF_congr {dst : Option Tmp} {shp : Shp} {hk : HK} {atoms : List At} {cs : List Ck} {y : NF} {fp : FP} (h : heavyNF s dst shp hk atoms cs = some (y, fp))
    (hm : ∀ n ∈ fp.reads, s'.mem n = s.mem n) : heavyNF s' dst shp hk atoms cs = some (y, fp) := by
  have hr : fp.reads = reachP s 50 (namesP atoms []) [] ++ reachSl s 50 (slOfBoxes s (reachP s 50 (namesP atoms []) []) (namesSl atoms [])) [] := by
    unfold heavyNF at h
    simp only [] at h
    split at h
    · simp only [Option.some.injEq, Prod.mk.injEq] at h; rw [← h.2]
    · simp at h
  rw [hr] at hm
  have h1 : reachP s' 50 (namesP atoms []) [] = reachP s 50 (namesP atoms []) [] := reachP_congr _ _ _ (fun n hn => hm n (by simp [hn]))
  have h2 := slOfBoxes_congr (s := s) (s' := s') (reachP s 50 (namesP atoms []) []) (namesSl atoms []) (fun n hn => hm n (by simp [hn]))
  have h3 := reachSl_congr (s := s) (s' := s') 50 (slOfBoxes s (reachP s 50 (namesP atoms []) []) (namesSl atoms [])) [] (fun n hn => hm n (by simp [hn]))
  rw [← h]
  unfold heavyNF
  simp only [h1, h2, h3]
  rw [liveBoxes_congr (s := s) (s' := s') (l := reachSl s 50 (slOfBoxes s (reachP s 50 (namesP atoms []) []) (namesSl atoms [])) []) (fun n hn => hm n (by simp [hn]))]
  rw [liveBoxes_congr (s := s) (s' := s') (l := List.filter _ _) (fun n hn => hm n (by simp only [List.mem_append]; exact .inl (List.mem_filter.1 hn).1))]

theorem loadNF_congr {dst : Option Tmp} {t : TypeId} {x : At} {cs : List Ck} {y : NF} {fp : FP} (h : loadNF P s gl dst t x cs = some (y, fp))
    (hm : ∀ n ∈ fp.reads, s'.mem n = s.mem n) : loadNF P s' gl dst t x cs = some (y, fp) := by
  cases x with
  | p n r off =>
    have hn : s'.mem n = s.mem n := by
      apply hm
      unfold loadNF at h
      simp only [Option.bind_eq_some_iff] at h
      obtain ⟨m, _, h⟩ := h
      split at h
      · split at h
        · simp only [Option.map_eq_some_iff, Prod.mk.injEq] at h
          obtain ⟨_, _, _, rfl⟩ := h
          simp
        · simp at h
      · split at h
        · simp at h
        · simp only [Option.some.injEq, Prod.mk.injEq] at h
          obtain ⟨_, rfl⟩ := h
          simp [refName]
    rw [← h]; simp only [loadNF, hn]
  | _ => rw [← h]; simp only [loadNF]
theorem storeNF_congr {t : TypeId} {x : At} {z : S1} {cs : List Ck} {y : NF} {fp : FP} (h : storeNF P s t x z cs = some (y, fp))
    (hm : ∀ n ∈ fp.reads, s'.mem n = s.mem n) : storeNF P s' t x z cs = some (y, fp) := by
  cases x with
  | p n r off =>
    have hn : s'.mem n = s.mem n := by
      apply hm
      unfold storeNF at h
      simp only [Option.bind_eq_some_iff] at h
      obtain ⟨m, _, h⟩ := h
      split at h
      · simp at h
      · split at h
        · split at h
          · simp only [Option.some.injEq, Prod.mk.injEq] at h
            obtain ⟨_, rfl⟩ := h
            simp
          · simp at h
        · simp at h
    rw [← h]; simp only [storeNF, hn]
  | _ => rw [← h]; simp only [storeNF]
theorem boxedNF_congr {dst : Option Tmp} {name : Nat} {T : TypeId} {cells : List At} {val : Nat → At} {cs : List Ck} {y : NF} {fp : FP} (h : boxedNF s gl dst name T cells val cs = some (y, fp))
    (hm : ∀ n ∈ fp.reads, s'.mem n = s.mem n) : boxedNF s' gl dst name T cells val cs = some (y, fp) := by
  have hn : s'.mem name = s.mem name := by
    apply hm
    unfold boxedNF at h
    split at h
    · simp only [Option.some.injEq, Prod.mk.injEq] at h; rw [← h.2]; simp
    · simp at h
  rw [← h]; simp only [boxedNF, hn]
theorem primNF_congr {dst : Option Tmp} {shp : Shp} {op : PrimOp} {xs : List Operand} {y : NF} {fp : FP} (hx : ∀ x ∈ xs, Ea s s' x) (h : primNF s gl dst shp op xs = some (y, fp))
    (hm : ∀ n ∈ fp.reads, s'.mem n = s.mem n) : primNF s' gl dst shp op xs = some (y, fp) := by
  unfold primNF at h ⊢
  split at h
  · rename_i hg
    rw [if_pos hg, opAts_congr hx]
    simp only [Option.bind_eq_some_iff] at h ⊢
    obtain ⟨a, ha, h⟩ := h
    exact ⟨a, ha, heavyNF_congr h hm⟩
  · simp at h

theorem bind_congr' {α β : Type} {x x' : Option α} {f f' : α → Option β} {y : β} (h : x.bind f = some y) (hx : x' = x) (hf : ∀ a, x = some a → f a = some y → f' a = some y) : x'.bind f' = some y := by
  subst hx
  simp only [Option.bind_eq_some_iff] at h ⊢
  obtain ⟨a, ha, h⟩ := h
  exact ⟨a, ha, hf a ha h⟩
theorem moveNF_congr {dst : Option Tmp} {sp : Bool} {x : Operand} (hx : Ea s s' x) : moveNF s' gl dst sp x = moveNF s gl dst sp x := by
  unfold moveNF
  rw [opAt_congr hx, opS1_congr hx]
  cases x with
  | tmp t => simp only [hx t rfl]
  | _ => rfl
theorem pickNF_congr {dst : Option Tmp} {c a b : Operand} (hc : Ea s s' c) (ha : Ea s s' a) (hb : Ea s s' b) : pickNF s' gl dst c a b = pickNF s gl dst c a b := by
  unfold pickNF
  rw [opAt_congr hc]
  simp only [opAt_congr ha, opAt_congr hb, opS1_congr ha, opS1_congr hb]
theorem extractNF_congr {dst : Option Tmp} {x : Operand} {i : Nat} (hx : Ea s s' x) : extractNF s' gl dst x i = extractNF s gl dst x i := by
  unfold extractNF
  cases x with
  | tmp t => simp only [hx t rfl]
  | _ => rfl
theorem lenNF_congr {dst : Option Tmp} {ty t : TypeId} {x : At} {cs : List Ck} {y : NF} {fp : FP} (h : lenNF P s gl dst ty t x cs = some (y, fp))
    (hm : ∀ n ∈ fp.reads, s'.mem n = s.mem n) : lenNF P s' gl dst ty t x cs = some (y, fp) := by
  unfold lenNF at h ⊢
  split at h <;> first
    | exact h
    | (split at h
       · exact h
       · exact h)
    | (split at h
       · rename_i hg; rw [if_pos hg]; exact heavyNF_congr h hm
       · simp at h; done)
    | (simp at h; done)
theorem builtinNF_congr {dst : Option Tmp} {ty : TypeId} {b : Builtin} {ats : Array TypeId} {args : List Operand} {y : NF} {fp : FP} (hx : ∀ x ∈ args, Ea s s' x)
    (h : builtinNF P s gl dst ty b ats args = some (y, fp)) (hm : ∀ n ∈ fp.reads, s'.mem n = s.mem n) : builtinNF P s' gl dst ty b ats args = some (y, fp) := by
  have heavy : ∀ b : Builtin, (if gl.isEmpty then (opAts s gl args).bind fun (as, cs) => heavyNF s dst .one (.prim (.bi b ats ty) (as.map At.den)) as cs else none) = some (y, fp) →
      (if gl.isEmpty then (opAts s' gl args).bind fun (as, cs) => heavyNF s' dst .one (.prim (.bi b ats ty) (as.map At.den)) as cs else none) = some (y, fp) := by
    intro b h
    split at h
    · rename_i hg
      rw [if_pos hg]
      exact bind_congr' h (opAts_congr hx) fun _ _ h => heavyNF_congr h hm
    · simp at h
  cases b <;> simp only [builtinNF] at h ⊢ <;> first
    | exact heavy _ h
    | (simp at h; done)
    | (refine bind_congr' h rfl fun t _ h => bind_congr' h rfl fun x hx' h => ?_
       have : args = [x] := one1_spec hx'
       subst this
       refine bind_congr' h (opAt_congr (hx x (by simp))) fun a _ h => ?_
       first
         | exact lenNF_congr h hm
         | exact h)
    | (refine bind_congr' h rfl fun p hp h => ?_
       obtain ⟨x, y⟩ := p
       have : args = [x, y] := two2_spec hp
       subst this
       exact bind_congr' h (opAts_congr hx) fun a _ h => h)
theorem callNF_congr {okf : FuncId → Bool} {rules : FuncId → Option (List Nat)} {dst : Option Tmp} {ty : TypeId} {f : At} {as : List S1} {cs : List Ck} {y : NF} {fp : FP}
    (h : callNF P okf rules s dst ty f as cs = some (y, fp)) (hm : ∀ n ∈ fp.reads, s'.mem n = s.mem n) : callNF P okf rules s' dst ty f as cs = some (y, fp) := by
  unfold callNF at h ⊢
  refine bind_congr' h rfl fun shp _ h => ?_
  cases f with
  | clo n caps =>
    simp only [] at h ⊢
    split at h
    · rename_i hok
      rw [if_pos hok]
      split at h
      · rename_i hc; rw [if_pos hc]; exact heavyNF_congr h hm
      · simp at h
    · rename_i hok
      rw [if_neg hok]
      split at h
      · exact h
      · exact heavyNF_congr h hm
  | v x => exact heavyNF_congr h hm
  | k x => exact heavyNF_congr h hm
  | _ => simp at h
theorem binNF_congr {dst : Option Tmp} {op : BinOp} {t : TypeId} {x z : Operand} {y : NF} {fp : FP} (hx : ∀ u ∈ [x, z], Ea s s' u) (h : binNF P s gl dst op t x z = some (y, fp)) : binNF P s' gl dst op t x z = some (y, fp) := by
  rw [← h]
  simp only [binNF, opAts_congr hx, opS1s_congr hx]
theorem convNF_congr {dst : Option Tmp} {a b : TypeId} {x : At} {cs : List Ck} {y : NF} {fp : FP} (h : convNF P s gl dst a b x cs = some (y, fp))
    (hm : ∀ n ∈ fp.reads, s'.mem n = s.mem n) : convNF P s' gl dst a b x cs = some (y, fp) := by
  unfold convNF at h ⊢
  split at h
  · exact h
  · split at h
    · rename_i hg; rw [if_pos hg]; exact heavyNF_congr h hm
    · simp at h
theorem ifaceNF_congr {dst : Option Tmp} {t : TypeId} {x : Operand} (hx : Ea s s' x) : ifaceNF P s' gl dst t x = ifaceNF P s gl dst t x := by
  simp only [ifaceNF, opS1_congr hx]
theorem buildNF_congr {dst : Option Tmp} {T : TypeId} {parts : List (Nat × Operand)} (hx : ∀ p ∈ parts, Ea s s' p.2) : buildNF P s' gl dst T parts = buildNF P s gl dst T parts := by
  simp only [buildNF, fillParts_congr hx]
theorem buildSliceNF_congr {dst : Option Tmp} {name len : Nat} {T : TypeId} {parts : List (Nat × Operand)} {y : NF} {fp : FP} (hx : ∀ p ∈ parts, Ea s s' p.2) (h : buildSliceNF P s gl dst name T len parts = some (y, fp))
    (hm : ∀ n ∈ fp.reads, s'.mem n = s.mem n) : buildSliceNF P s' gl dst name T len parts = some (y, fp) := by
  unfold buildSliceNF at h ⊢
  split at h
  · refine bind_congr' h rfl fun size _ h => bind_congr' h rfl fun zero _ h => ?_
    split at h
    · rename_i hc
      rw [if_pos hc]
      exact bind_congr' h (fillParts_congr hx) fun _ _ h => boxedNF_congr h hm
    · simp at h
  · simp at h

theorem nfGo_congr {okf : FuncId → Bool} {rules : FuncId → Option (List Nat)} {sp : Bool} {name : Nat} {o : Oper} {y : NF} {fp : FP} (h : nfGo P okf rules sp name o gl s = some (y, fp))
    (hx : ∀ x ∈ o.op.operands.toList, Ea s s' x) (hm : ∀ n ∈ fp.reads, s'.mem n = s.mem n) : nfGo P okf rules sp name o gl s' = some (y, fp) := by
  unfold nfGo at h ⊢
  cases hop : o.op <;> simp only [hop, Op.operands] at h hx ⊢
  all_goals try (simp at h; done)
  case move x => rw [moveNF_congr (hx x (by simp))]; exact h
  case assign x => rw [moveNF_congr (hx x (by simp))]; exact h
  case pick c a b => rw [pickNF_congr (hx c (by simp)) (hx a (by simp)) (hx b (by simp))]; exact h
  case alloc T => exact bind_congr' h rfl fun _ _ h => boxedNF_congr h hm
  case box T x =>
    refine bind_congr' h (opS1_congr (hx x (by simp))) fun a _ h => ?_
    obtain ⟨v, cs⟩ := a
    simp only [] at h ⊢
    split at h
    · rename_i hc; rw [if_pos hc]; exact boxedNF_congr h hm
    · simp at h
  case build T parts => rw [buildNF_congr (fun p hp => hx p.2 (List.mem_map_of_mem hp))]; exact h
  case buildSlice T len parts => exact buildSliceNF_congr (fun p hp => hx p.2 (List.mem_map_of_mem hp)) h hm
  case load t x => exact bind_congr' h (opAt_congr (hx x (by simp))) fun _ _ h => loadNF_congr h hm
  case store t x z =>
    split at h
    · rename_i hc
      rw [if_pos hc]
      exact bind_congr' h (opAt_congr (hx x (by simp))) fun _ _ h => bind_congr' h (opS1_congr (hx z (by simp))) fun _ _ h => storeNF_congr h hm
    · simp at h
  case nilCheck x => exact bind_congr' h (opAt_congr (hx x (by simp))) fun _ _ h => h
  case binOp op t x z _ => exact binNF_congr (fun u hu => hx u (by simpa using hu)) h
  case unOp op t x => exact bind_congr' h (opAt_congr (hx x (by simp))) fun _ _ h => h
  case convert a b x => exact bind_congr' h (opAt_congr (hx x (by simp))) fun _ _ h => convNF_congr h hm
  case makeInterface t x => rw [ifaceNF_congr (hx x (by simp))]; exact h
  case makeFunc f first caps =>
    cases f with
    | func f =>
      simp only [] at h ⊢
      split at h
      · rename_i hc
        rw [if_pos hc]
        exact bind_congr' h (opAts_congr (fun x hx' => hx x (by simp at hx' ⊢; exact .inr hx'))) fun _ _ h => h
      · simp at h
    | _ => simp at h
  case fieldAddr t x f =>
    refine bind_congr' h rfl fun _ _ h => bind_congr' h rfl fun m _ h => ?_
    split at h
    · simp at h
    · rename_i hc
      rw [if_neg hc]
      exact bind_congr' h (opAt_congr (hx x (by simp))) fun _ _ h => h
  case field t x f => exact bind_congr' h rfl fun _ _ h => bind_congr' h (opS1_congr (hx x (by simp))) fun _ _ h => h
  case indexAddr t x i => exact bind_congr' h (opAts_congr (fun u hu => hx u (by simpa using hu))) fun _ _ h => h
  case index t x i => exact bind_congr' h (opS1_congr (hx x (by simp))) fun _ _ h => bind_congr' h (opAt_congr (hx i (by simp))) fun _ _ h => h
  case slice t x lo hi mx =>
    refine bind_congr' h (opAt_congr (hx x (by simp))) fun _ _ h => bind_congr' h (opAts_congr (fun u hu => hx u (by simp at hu ⊢; simp [hu]))) fun _ _ h =>
      bind_congr' h (opAts_congr (fun u hu => hx u (by simp at hu ⊢; simp [hu]))) fun _ _ h => bind_congr' h (opAts_congr (fun u hu => hx u (by simp at hu ⊢; simp [hu]))) fun _ _ h => h
  case extract x i => rw [extractNF_congr (hx x (by simp))]; exact h
  case call c =>
    cases hc : c.callee with
    | builtin b =>
      simp only [hc] at h ⊢
      exact builtinNF_congr (fun x hx' => hx x (by simp only [Call.operands, hc]; simp at hx' ⊢; simp [hx'])) h hm
    | value f =>
      simp only [hc] at h ⊢
      split at h
      · rename_i hg
        rw [if_pos hg]
        exact bind_congr' h (opAt_congr (hx f (by simp [Call.operands, hc]))) fun _ _ h => bind_congr' h (opS1s_congr (fun x hx' => hx x (by simp only [Call.operands, hc]; simp at hx' ⊢; simp [hx']))) fun _ _ h => callNF_congr h hm
      · simp at h
    | _ => simp [hc] at h
  case makeSlice t l c => exact primNF_congr (fun x hx' => hx x (by simpa using hx')) h hm
  case makeMap t r => exact primNF_congr (fun x hx' => hx x (by simpa using hx')) h hm
  case lookup t x i ok => exact primNF_congr (fun u hu => hx u (by simpa using hu)) h hm
  case mapUpdate t m k x =>
    split at h
    · rename_i hc; rw [if_pos hc]; exact primNF_congr (fun u hu => hx u (by simpa using hu)) h hm
    · simp at h
  case insert t m k x =>
    split at h
    · rename_i hc; rw [if_pos hc]; exact primNF_congr (fun u hu => hx u (by simpa using hu)) h hm
    · simp at h
  case range t x => exact primNF_congr (fun u hu => hx u (by simpa using hu)) h hm
  case next x str => exact primNF_congr (fun u hu => hx u (by simpa using hu)) h hm

theorem guardOf_congr {tgt : Nat → Option Tmp} {o : Oper} (h : ∀ j want t, o.guard = some (j, want) → tgt j = some t → s'.tmps t = s.tmps t) : guardOf tgt s' o = guardOf tgt s o := by
  unfold guardOf
  cases hg : o.guard with
  | none => rfl
  | some p =>
    obtain ⟨j, want⟩ := p
    simp only []
    cases ht : tgt j with
    | none => rfl
    | some t => simp only [h j want t hg ht]
theorem nf_congr {ops : Array Oper} {okf : FuncId → Bool} {rules : FuncId → Option (List Nat)} {sp : Bool} {name : Nat} {o : Oper} {y : NF} {fp : FP} (h : nf P okf rules (tgtOf ops) sp name o s = some (y, fp))
    (hz : s'.sz = s.sz) (ht : ∀ t ∈ o.looksAt ops, s'.tmps t = s.tmps t) (hm : ∀ n ∈ fp.reads, s'.mem n = s.mem n) : nf P okf rules (tgtOf ops) sp name o s' = some (y, fp) := by
  have hg : guardOf (tgtOf ops) s' o = guardOf (tgtOf ops) s o := by
    refine guardOf_congr fun j want t h1 h2 => ht t ?_
    simp only [Oper.looksAt, h1, List.mem_append]
    right
    unfold tgtOf at h2
    simp [h2]
  have hx : ∀ x ∈ o.op.operands.toList, Ea s s' x := by
    rintro x hx t rfl
    refine ht t ?_
    simp only [Oper.looksAt, List.mem_append]
    left
    exact List.mem_filterMap.2 ⟨_, hx, rfl⟩
  unfold nf at h ⊢
  have hd : dstOk s' o.dst = dstOk s o.dst := by unfold dstOk; rw [hz]
  rw [hd, hg]
  split at h
  · simp at h
  · rename_i hc
    rw [if_neg hc]
    split at h
    · simp at h
    · exact h
    · exact nfGo_congr h hx hm
end Go.Sx
