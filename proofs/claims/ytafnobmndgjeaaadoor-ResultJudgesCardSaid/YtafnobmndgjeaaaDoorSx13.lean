/- Every operation's normal form is sound: the whole table. -/
import Derived.Test.YtafnobmndgjeaaaDoorSx12
import Derived.Laws.Tables
namespace Go.Sx
open Go
variable {P : Program} {ops : Array Oper} {o : Oper} {s : SS} {gl : List (At × Bool)}

theorem move_sound {sp : Bool} {x : Operand} {y : NF} {fp : FP} (hrun : ∀ a : Act, ∀ w, (execOp a.eval o).run P w = .ok (.value (a.eval x)) w)
    (hg : guardOf (tgtOf ops) s o = .go gl) (hd : ∀ d, o.dst = some d → d < s.sz) (h : moveNF s gl o.dst sp x = some (y, fp)) : Sound P ops o s y := by
  have gen : ∀ {v : S1} {cs : List Ck}, opS1 s gl x = some (v, cs) → plainNF gl o.dst v cs = some (y, fp) → Sound P ops o s y := by
    intro v cs hx h
    exact plain_sound hg hd h (fun hs _ => opS1_ok hs hx) (fun F H O a w hc hcs hon => by rw [hrun, opS1_den hc hx hcs hon])
  have gen' : ((opS1 s gl x).bind fun (v, cs) => plainNF gl o.dst v cs) = some (y, fp) → Sound P ops o s y := by
    intro h
    simp only [Option.bind_eq_some_iff] at h
    obtain ⟨⟨v, cs⟩, hx, h⟩ := h
    exact gen hx h
  unfold moveNF at h
  split at h
  · split at h
    · rename_i hgl
      have : gl = [] := by simpa using hgl
      subst this
      simp only [Option.bind_eq_some_iff] at h
      obtain ⟨⟨a', cs⟩, hx, h⟩ := h
      simp only [] at h
      split at h
      · exact gen (opAt_S1 hx) h
      · simp only [Option.some.injEq, Prod.mk.injEq] at h
        obtain ⟨rfl, _⟩ := h
        refine sound_quiet (gl := []) (X := fun vs => .at (.k (g vs 0))) hg hd (fun _ _ _ _ _ _ => ok_k _) ?_
        rintro F H O a w vs hc hcs ⟨b, hb, rfl⟩ hon
        rw [hrun, opAt_den hc hx hcs hon, hb]; rfl
    · simp at h
  · cases x with
    | tmp t =>
      simp only [] at h
      split at h
      · rename_i l hl
        split at h
        · rename_i hgl
          have : gl = [] := by simpa using hgl
          subst this
          simp only [Option.some.injEq, Prod.mk.injEq] at h
          obtain ⟨rfl, _⟩ := h
          intro F H O a w d K Q hc hr
          obtain ⟨_, vs, _, hk⟩ := hr
          unfold wp1
          rw [if_pos ((guard_go hc hg).2 trivial)]
          refine .inl ?_
          unfold Oper.wp
          rw [hrun, Oper.upon_value]
          have ht := hc.tm t
          rw [hl] at ht
          have hok := hc.ok.1 t
          rw [hl] at hok
          exact ⟨_, H, O, hc.put (sv := .tup l) hd ht hok, Heap.le_refl H, hk⟩
        · simp at h
      · exact gen' h
    | const v => exact gen' h
    | global n => exact gen' h
    | func f => exact gen' h

theorem pick_sound {c a b : Operand} {y : NF} {fp : FP} (hop : o.op = .pick c a b)
    (hg : guardOf (tgtOf ops) s o = .go gl) (hd : ∀ d, o.dst = some d → d < s.sz) (h : pickNF s gl o.dst c a b = some (y, fp)) : Sound P ops o s y := by
  unfold pickNF at h
  simp only [Option.bind_eq_some_iff] at h
  obtain ⟨⟨c', cs⟩, hc', h⟩ := h
  simp only [] at h
  split at h
  · simp only [Option.bind_eq_some_iff] at h
    obtain ⟨⟨v, cs'⟩, hv, h⟩ := h
    refine plain_sound hg hd h (fun hs _ => opS1_ok hs hv) ?_
    intro F H O a' w hc hcs hon
    rw [AllCk.append] at hcs
    have e1 : a'.eval c = .bool true := opAt_den hc hc' hcs.1 hon
    have e2 := opS1_den hc hv hcs.2 hon
    simp [execOp, hop, e1, asBool, e2]
  · simp only [Option.bind_eq_some_iff] at h
    obtain ⟨⟨v, cs'⟩, hv, h⟩ := h
    refine plain_sound hg hd h (fun hs _ => opS1_ok hs hv) ?_
    intro F H O a' w hc hcs hon
    rw [AllCk.append] at hcs
    have e1 : a'.eval c = .bool false := opAt_den hc hc' hcs.1 hon
    have e2 := opS1_den hc hv hcs.2 hon
    simp [execOp, hop, e1, asBool, e2]
  · split at h
    · rename_i a1 ca b1 cb ha hb
      split at h
      · rename_i hfit
        simp only [Bool.and_eq_true] at hfit
        simp only [Option.some.injEq, Prod.mk.injEq] at h
        obtain ⟨rfl, _⟩ := h
        refine pureNF_sound hg hd ?_ ?_
        · intro _
          by_cases hs : s.Ok
          · exact .inl ⟨At.fit_one hfit.1 (opAt_ok hs ha), At.fit_one hfit.2 (opAt_ok hs hb), trivial⟩
          · exact .inr hs
        · intro F H O a' w v hc hcs hon he
          simp only [AllCk.append] at hcs
          have e1 := opAt_den hc hc' hcs.1.1 hon
          simp only [List.map_cons, List.map_nil] at he
          cases hcd : c'.den <;> simp only [hcd, evalPure] at he <;> try (simp at he; done)
          rename_i bv
          simp only [Option.some.injEq] at he
          cases bv with
          | true =>
            have e2 := opAt_den hc ha hcs.1.2 (gl := (c', true) :: gl) ⟨hcd, hon⟩
            simp only [if_true] at he
            simp [execOp, hop, e1, hcd, asBool, e2, he]
          | false =>
            have e2 := opAt_den hc hb hcs.2 (gl := (c', false) :: gl) ⟨hcd, hon⟩
            simp only [Bool.false_eq_true, if_false] at he
            simp [execOp, hop, e1, hcd, asBool, e2, he]
      · simp at h
    · simp at h

theorem build_sound {T : TypeId} {parts : Array (Nat × Operand)} {y : NF} {fp : FP} (hop : o.op = .build T parts)
    (hg : guardOf (tgtOf ops) s o = .go gl) (hd : ∀ d, o.dst = some d → d < s.sz) (h : buildNF P s gl o.dst T parts.toList = some (y, fp)) : Sound P ops o s y := by
  unfold buildNF at h
  simp only [Option.bind_eq_some_iff] at h
  obtain ⟨zero, hz, h⟩ := h
  obtain ⟨z, hzr, hzc, hzk, hzo⟩ := zeroOf_run hz
  have hzc' : z.cells = (zero.map At.den).toArray := by rw [← hzc]
  have hparts : ∀ a : Act, (parts.map fun p => (p.1, a.eval p.2)).toList = parts.toList.map fun p => (p.1, a.eval p.2) := fun a => by simp
  split at h
  · rename_i fs hu
    simp only [Option.bind_eq_some_iff] at h
    obtain ⟨places, hp, ⟨cells, cs⟩, hf, h⟩ := h
    refine plain_sound hg hd h (fun hs _ => fillParts_mem hs hf hzo) ?_
    intro F H O a w hc hcs hon
    have hfill := fill_run hc hon hf hcs
    have hb : P.built T (parts.map fun p => (p.1, a.eval p.2)).toList = some (cells.map At.den).toArray := by
      unfold zeroOf at hz
      cases hi : P.info? T with
      | none => simp [hi] at hz
      | some i =>
        simp only [hi, Option.bind_some, Option.map_eq_some_iff] at hz
        obtain ⟨z0, hz0, hz1⟩ := hz
        have : z0.cells = (zero.map At.den).toArray := by rw [← hz1]; simp [Function.comp_def, At.den]
        unfold Program.built
        simp only [hi, hu, hz0, hp, this, hparts]
        exact hfill
    simp only [execOp, hop, Sem.run_bind, run_build w T _ _ hb, Result.andThen_ok, Sem.run_pure]
    rfl
  · rename_i n elem hu
    simp only [Option.bind_eq_some_iff] at h
    obtain ⟨size, hs, ⟨cells, cs⟩, hf, h⟩ := h
    refine plain_sound hg hd h (fun hs' _ => fillParts_mem hs' hf hzo) ?_
    intro F H O a w hc hcs hon
    have hfill := fill_run hc hon hf hcs
    simp only [execOp, hop, Instr.build, Sem.run_bind, hzr, Result.andThen_ok, run_underlying' hu, run_sizeOf' hs, hparts, hzc', hfill, Sem.run_pure]
    rfl
  · simp at h

theorem buildSlice_sound {name : Nat} {T : TypeId} {len : Nat} {parts : Array (Nat × Operand)} {y : NF} {fp : FP} (hop : o.op = .buildSlice T len parts)
    (hg : guardOf (tgtOf ops) s o = .go gl) (hd : ∀ d, o.dst = some d → d < s.sz) (h : buildSliceNF P s gl o.dst name T len parts.toList = some (y, fp)) : Sound P ops o s y := by
  unfold buildSliceNF at h
  split at h
  · rename_i elem hu
    simp only [Option.bind_eq_some_iff] at h
    obtain ⟨size, hs, zero, hz, h⟩ := h
    split at h
    · rename_i hcond
      simp only [Bool.and_eq_true, decide_eq_true_eq] at hcond
      obtain ⟨⟨hzl, hs0⟩, hlim⟩ := hcond
      simp only [Option.bind_eq_some_iff] at h
      obtain ⟨⟨cells, cs⟩, hf, h⟩ := h
      obtain ⟨z, hzr, hzc, hzk, hzo⟩ := zeroOf_run hz
      refine boxed_sound hg hd h (fun _ => trivial) (fun _ => rfl) (fun hs' => fillParts_mem hs' hf (fun a ha => hzo a (repCells_mem ha))) ?_
      intro F H O a w hc hcs hgl
      subst hgl
      refine ⟨cells.map At.den, CellsRel.map cells, ?_⟩
      have hfill := fill_run (gl := []) hc trivial hf hcs
      have hzc' : z.cells = (zero.map At.den).toArray := by rw [← hzc]
      have hparts : (parts.map fun p => (p.1, a.eval p.2)).toList = parts.toList.map fun p => (p.1, a.eval p.2) := by simp
      have hlim' : ¬ (len * size > 2 ^ 24) := by have : (2:Nat) ^ 24 = 16777216 := rfl; omega
      have hrep : ((Array.range (len * size)).map fun i => (zero.map At.den).toArray[i % (zero.map At.den).toArray.size]!) = ((repCells zero len).map At.den).toArray := by
        have := repCells_spec (zero.map At.den) (by rw [List.length_map, hzl]; exact hs0) len
        apply Array.ext'
        rw [repCells_den, ← this]
        simp [hzl]
      by_cases h0 : len * size = 0
      · have hl0 : len = 0 := by
          rcases Nat.mul_eq_zero.1 h0 with h | h
          · exact h
          · exact absurd h hs0
        subst hl0
        simp only [repCells, List.map_nil] at hfill
        simp only [execOp, hop, Instr.buildSlice, Sem.run_bind, run_underlying' hu, Result.andThen_ok, run_sizeOf' hs, Nat.zero_mul, hparts]
        simp only [Nat.not_lt_zero, gt_iff_lt, if_false, if_true, Sem.run_bind, Sem.run_pure, Result.andThen_ok, show Array.range 0 = #[] from rfl, Array.map_empty, hfill, newRow, run_newObj]
        rfl
      · simp only [execOp, hop, Instr.buildSlice, Sem.run_bind, run_underlying' hu, Result.andThen_ok, run_sizeOf' hs, hlim', if_false, h0, hzr, Sem.run_pure, hzc', hrep, hparts, hfill, newRow, run_newObj]
        rfl
    · simp at h
  · simp at h
end Go.Sx
