/- Every operation's normal form is sound. -/
import Derived.Test.YtafnobmndgjeaaaDoorSx11
namespace Go.Sx
open Go
variable {P : Program} {ops : Array Oper} {o : Oper} {s : SS} {gl : List (At × Bool)}

theorem plain_sound {v : S1} {cs : List Ck} {x : NF} {fp : FP} (hg : guardOf (tgtOf ops) s o = .go gl) (hd : ∀ d, o.dst = some d → d < s.sz) (h : plainNF gl o.dst v cs = some (x, fp))
    (hok : s.Ok → AllCk cs → v.ok) (hrun : ∀ F H O a w, Conc F s H O a w → AllCk cs → On (gden gl) → (execOp a.eval o).run P w = .ok (.value v.den) w) : Sound P ops o s x := by
  simp only [plainNF, Option.some.injEq, Prod.mk.injEq] at h
  rw [← h.1]
  exact sound_quiet (X := fun _ => v) hg hd (fun _ _ _ h1 h2 _ => hok h1 h2) (fun F H O a w _ hc hcs _ hon => hrun F H O a w hc hcs hon)

theorem boxed_sound {name : Nat} {T : TypeId} {cells : List At} {val : Nat → At} {cs : List Ck} {x : NF} {fp : FP} (hg : guardOf (tgtOf ops) s o = .go gl) (hd : ∀ d, o.dst = some d → d < s.sz)
    (h : boxedNF s gl o.dst name T cells val cs = some (x, fp)) (hv : ∀ r, (val r).ok) (hvk : ∀ r, (val r).known = true) (hcells : s.Ok → ∀ a, a ∈ cells → a.ok)
    (hrun : ∀ F H O a w, Conc F s H O a w → AllCk cs → gl = [] → ∃ vs : List Value, CellsRel cells vs ∧
      (execOp a.eval o).run P w = .ok (.value (val w.heap.size).den) { w with heap := w.heap.push (.cells vs.toArray T (0, 0)) }) : Sound P ops o s x := by
  unfold boxedNF at h
  split at h
  · rename_i hcond
    simp only [Bool.and_eq_true, Option.isNone_iff_eq_none, List.isEmpty_iff] at hcond
    simp only [Option.some.injEq, Prod.mk.injEq] at h
    rw [← h.1]
    obtain ⟨rfl, hn⟩ := hcond
    exact sound_box hg hd hn hv hvk hcells (fun F H O a w hc hcs => hrun F H O a w hc hcs rfl)
  · simp at h

theorem heavy_sound {dst : Option Tmp} {shp : Shp} {hk : HK} {atoms : List At} {cs : List Ck} {x : NF} {fp : FP} (hdst : dst = o.dst) (hg : guardOf (tgtOf ops) s o = .go []) (hd : ∀ d, o.dst = some d → d < s.sz)
    (h : heavyNF s dst shp hk atoms cs = some (x, fp))
    (hex : ∀ F H O a w, Conc F s H O a w → AllCk cs → ∀ H1 O1 R, hk.T P H1 O1 R → ∀ F1, Models w H1 (O1 ++ F1) → ∀ (next : Act → World → Prop) (Q : Exit → Act → World → Prop),
      (∀ v w' H' O', R v H' O' → Heap.le H1 H' → Models w' H' (O' ++ F1) → next (a.put o.dst v) w') → o.wp P a w next Q) : Sound P ops o s x := by
  subst hdst
  unfold heavyNF at h
  simp only [] at h
  split at h
  · rename_i hcond
    simp only [Bool.and_eq_true] at hcond
    simp only [Option.some.injEq, Prod.mk.injEq] at h
    rw [← h.1]
    refine sound_hv (sv := shp.sv) hg hd ?_ (noDup_nodup hcond.2) ?_ (fun v vs _ ho hn _ => open_spec ho hn) hex
    · intro p hp
      rcases List.mem_append.1 hp with hp | hp
      · exact liveBoxes_spec p hp
      · exact liveBoxes_spec p hp
    · intro p hp
      have := hcond.1
      rw [List.all_eq_true] at this
      exact this p hp
  · simp at h

theorem wp_enter {a : Act} {w : World} {f : FuncId} {args : List Value} {H1 : Heap} {O1 F1 : Own} {R : Value → Heap → Own → Prop} {next : Act → World → Prop} {Q : Exit → Act → World → Prop}
    (hT : Triple P f args H1 O1 R) (hm : Models w H1 (O1 ++ F1)) (hrun : (execOp a.eval o).run P w = .ok (.enter f args.toArray) w)
    (hn : ∀ v w' H' O', R v H' O' → Heap.le H1 H' → Models w' H' (O' ++ F1) → next (a.put o.dst v) w') : o.wp P a w next Q := by
  unfold Oper.wp
  rw [hrun, Oper.upon_enter]
  exact (hT w F1 hm).mono fun e w' ⟨v, H', O', he, hR, hle, hm'⟩ => by subst he; exact hn v w' H' O' hR hle hm'
theorem wp_prim {a : Act} {w : World} {sem : Sem Next} {H1 : Heap} {O1 F1 : Own} {R : Value → Heap → Own → Prop} {next : Act → World → Prop} {Q : Exit → Act → World → Prop}
    (hT : OpTriple P sem H1 O1 R) (hm : Models w H1 (O1 ++ F1)) (hrun : (execOp a.eval o).run P w = sem.run P w)
    (hn : ∀ v w' H' O', R v H' O' → Heap.le H1 H' → Models w' H' (O' ++ F1) → next (a.put o.dst v) w') : o.wp P a w next Q := by
  unfold Oper.wp
  obtain ⟨v, w', H', O', hr, hR, hle, hm'⟩ := hT w F1 hm
  rw [hrun, hr, Oper.upon_value]
  exact hn v w' H' O' hR hle hm'

theorem callFunc_run {f : FuncId} (h : OkFn P f) (args : Array Value) (w : World) : (callFunc f args).run P w = .ok (.enter f args) w := by
  obtain ⟨fn, h1, h2, h3⟩ := h
  simp only [callFunc, Sem.run_bind, run_program, Result.andThen_ok, h1, h2, h3, Bool.false_eq_true, if_false]
  rfl
theorem call_run {c : Call} {f : Operand} {n : FuncId} {caps : Array Value} {a : Act} (hop : o.op = .call c) (hcal : c.callee = .value f) (hf : a.eval f = .func (.func n) #[] caps) (hok : OkFn P n) (w : World) :
    (execOp a.eval o).run P w = .ok (.enter n (c.args.map a.eval ++ caps)) w := by
  simp only [execOp, hop, resolve, hcal, hf, Deferred.ofValue, Sem.run_bind, Sem.run_pure, Result.andThen_ok, invoke, Array.empty_append, callFunc_run hok]

theorem opAts_two {s : SS} {gl : List (At × Bool)} {x y : Operand} {as : List At} {cs : List Ck} (h : opAts s gl [x, y] = some (as, cs)) : ∃ a b, as = [a, b] := by
  simp only [opAts] at h
  split at h
  · rename_i a c as' cs' h1 h2
    simp only [Option.some.injEq, Prod.mk.injEq] at h
    split at h2
    · rename_i b c2 as2 cs2 h3 h4
      simp only [Option.some.injEq, Prod.mk.injEq] at h2 h4
      exact ⟨a, b, by rw [← h.1, ← h2.1, ← h4.1]⟩
    · simp at h2
  · simp at h
theorem eval_two {F : Own} {H : Heap} {O : Own} {a : Act} {w : World} (h : Conc F s H O a w) {x y : Operand} {x' y' : At} {cs : List Ck}
    (hx : opAts s gl [x, y] = some ([x', y'], cs)) (hc : AllCk cs) (ho : On (gden gl)) : a.eval x = x'.den ∧ a.eval y = y'.den := by
  have := opAts_den h hx hc ho
  simpa using this

theorem moveAt_spec {x : At} {n : Nat} {a : At} {c : List Ck} (h : moveAt gl x n = some (a, c)) : (AllCk c → x.ok → a.ok) ∧
    (AllCk c → On (gden gl) → ∃ ad, x.den = .pointer (some ad) ∧ a.den = .pointer (some (ad.add n))) := by
  have hp : ∀ y : Value, isPtr y = true → ∃ ad, y = .pointer (some ad) := by
    intro y hy
    unfold isPtr at hy; split at hy
    · exact ⟨_, rfl⟩
    · simp at hy
  have hadd0 : ∀ ad : Addr, ad.add 0 = ad := fun ad => by simp [Addr.add]
  cases x <;> simp only [moveAt] at h
  case p n' r off =>
    simp only [Option.some.injEq, Prod.mk.injEq] at h
    obtain ⟨rfl, rfl⟩ := h
    exact ⟨fun _ _ => trivial, fun _ _ => ⟨⟨r, off, none⟩, rfl, by rw [add_none]; rfl⟩⟩
  case px y off =>
    simp only [Option.some.injEq, Prod.mk.injEq] at h
    obtain ⟨rfl, rfl⟩ := h
    refine ⟨fun _ _ => trivial, fun hc ho => ?_⟩
    obtain ⟨ad, rfl⟩ := hp y (hc.1 ho)
    exact ⟨ad.add off, rfl, by simp [At.den, ptrAdd, add_add]⟩
  case v y =>
    simp only [Option.some.injEq, Prod.mk.injEq] at h
    obtain ⟨rfl, rfl⟩ := h
    refine ⟨fun hc ho => ?_, fun hc ho => ?_⟩
    · split
      · exact ho
      · split
        · rename_i he
          have : gl = [] := by simpa using he
          subst this
          obtain ⟨ad, rfl⟩ := hp y (hc.1 trivial)
          rfl
        · trivial
    · obtain ⟨ad, rfl⟩ := hp y (hc.1 ho)
      refine ⟨ad, rfl, ?_⟩
      split
      · rename_i h0; subst h0; rw [hadd0]; rfl
      · split <;> rfl
  case k y =>
    simp only [Option.some.injEq, Prod.mk.injEq] at h
    obtain ⟨rfl, rfl⟩ := h
    refine ⟨fun hc ho => ?_, fun hc ho => ?_⟩
    · split
      · exact ho
      · split
        · rename_i he
          have : gl = [] := by simpa using he
          subst this
          obtain ⟨ad, rfl⟩ := hp y (hc.1 trivial)
          rfl
        · trivial
    · obtain ⟨ad, rfl⟩ := hp y (hc.1 ho)
      refine ⟨ad, rfl, ?_⟩
      split
      · rename_i h0; subst h0; rw [hadd0]; rfl
      · split <;> rfl
  all_goals simp at h

theorem constNat_spec {i : At} {n : Nat} (h : constNat i = some n) : ∃ k, i.den = .int k n := by
  unfold constNat at h
  split at h
  · rename_i k m
    split at h
    · rename_i h0
      simp only [Option.some.injEq] at h
      exact ⟨k, by simp [At.den]; omega⟩
    · simp at h
  · simp at h

theorem indexAddr_sound {t : TypeId} {x i : Operand} {x' i' : At} {cs : List Ck} {y : NF} {fp : FP} (hop : o.op = .indexAddr t x i) (hx : opAts s gl [x, i] = some ([x', i'], cs))
    (hg : guardOf (tgtOf ops) s o = .go gl) (hd : ∀ d, o.dst = some d → d < s.sz) (h : indexAddrNF P gl o.dst t x' i' cs = some (y, fp)) : Sound P ops o s y := by
  have hok := fun hs : s.Ok => opAts_ok hs hx
  have ev := fun {F H O a w} (hc : Conc F s H O a w) (hcs : AllCk cs) (hon : On (gden gl)) => eval_two hc hx hcs hon
  unfold indexAddrNF at h
  split at h
  · rename_i len elem hu
    cases hs : szOf P elem with
    | none => simp [hs] at h
    | some size =>
      simp only [hs, Option.bind_some] at h
      have harr : ∀ {ad : Addr} {k : IntKind} {n : Int}, 0 ≤ n ∧ n < len → ∀ w, (Instr.indexAt t (.pointer (some ad)) (.int k n)).run P w = .ok (.pointer (some (ad.add (n.toNat * size)))) w :=
        fun hb w => run_pidx hu hs (by simp [evalPidx, hb]) w
      split at h
      · rename_i n hn
        split at h
        · rename_i hlt
          simp only [Option.map_eq_some_iff, Prod.mk.injEq] at h
          obtain ⟨⟨a', c⟩, hm, rfl, _⟩ := h
          obtain ⟨h1, h2⟩ := moveAt_spec hm
          refine sound_quiet (X := fun _ => .at a') hg hd ?_ ?_
          · intro H O vs hs' hc _
            rw [AllCk.append] at hc
            exact ok_at (h1 hc.1 (hok hs' x' (by simp)))
          · intro F H O a w vs hc hcs _ hon
            rw [AllCk.append] at hcs
            obtain ⟨e1, e2⟩ := ev hc hcs.2 hon
            obtain ⟨ad, hx', ha'⟩ := h2 hcs.1 hon
            obtain ⟨k, hk⟩ := constNat_spec hn
            simp only [execOp, hop, e1, e2, hx', hk, Sem.run_bind, harr (ad := ad) (k := k) (n := n) (by omega), Result.andThen_ok, Sem.run_pure, S1.den, ha', Int.toNat_natCast]
        · simp at h
      · split at h
        · rename_i n r off
          split at h
          · rename_i hcond
            simp only [Bool.and_eq_true, List.isEmpty_iff, decide_eq_true_eq] at hcond
            obtain ⟨rfl, _⟩ := hcond
            simp only [Option.some.injEq, Prod.mk.injEq] at h
            obtain ⟨rfl, _⟩ := h
            refine sound_quiet (gl := []) (X := fun vs => .at (.p n r (off + (match g vs 0 with | .int _ n => n.toNat | _ => 0) * size))) hg hd (fun _ _ _ _ _ _ => ok_at trivial) ?_
            rintro F H O a w vs hc hcs ⟨kd, j, hj, h0, h1, rfl⟩ hon
            obtain ⟨e1, e2⟩ := ev hc hcs hon
            have e1' : a.eval x = .pointer (some ⟨r, off, none⟩) := e1
            simp only [execOp, hop, e1', e2, hj, Sem.run_bind, harr (ad := ⟨r, off, none⟩) (k := kd) (n := j) ⟨h0, h1⟩, Result.andThen_ok, Sem.run_pure, S1.den, add_none]
            rfl
          · simp at h
        all_goals first
          | (simp at h; done)
          | (split at h
             · simp at h
             · simp only [Option.some.injEq, Prod.mk.injEq] at h
               obtain ⟨rfl, _⟩ := h
               refine pureNF_sound hg hd (by simp) ?_
               intro F H O a w v hc hcs hon he
               obtain ⟨e1, e2⟩ := ev hc hcs hon
               simp only [List.map_cons, List.map_nil, evalPure] at he
               simp only [execOp, hop, e1, e2, Sem.run_bind, run_pidx hu hs he, Result.andThen_ok, Sem.run_pure])
  · rename_i elem hu
    cases hs : szOf P elem with
    | none => simp [hs] at h
    | some size =>
      simp only [hs, Option.bind_some] at h
      have gen : ∀ {y fp}, some (pureNF gl false o.dst (.idx size) [x', i'] cs, ({} : FP)) = some (y, fp) → Sound P ops o s y := by
        intro y fp h
        simp only [Option.some.injEq, Prod.mk.injEq] at h
        obtain ⟨rfl, _⟩ := h
        refine pureNF_sound hg hd (by simp) ?_
        intro F H O a w v hc hcs hon he
        obtain ⟨e1, e2⟩ := ev hc hcs hon
        simp only [List.map_cons, List.map_nil, evalPure] at he
        simp only [execOp, hop, e1, e2, Sem.run_bind, run_idx hu hs he, Result.andThen_ok, Sem.run_pure]
      split at h
      · rename_i n r off len c k hk
        split at h
        · rename_i hlt
          simp only [Option.some.injEq, Prod.mk.injEq] at h
          obtain ⟨rfl, _⟩ := h
          refine sound_quiet (X := fun _ => .at (.p n r (off + k * size))) hg hd (fun _ _ _ _ _ _ => ok_at trivial) ?_
          intro F H O a w vs hc hcs _ hon
          obtain ⟨e1, e2⟩ := ev hc hcs hon
          obtain ⟨kd, hkd⟩ := constNat_spec hk
          have : (Instr.indexAt t (.slice (some ⟨r, off, none⟩) len c) (.int kd k)).run P w = .ok (.pointer (some ⟨r, off + k * size, none⟩)) w :=
            run_idx hu hs (by simp [evalIdx, hlt, add_none]) w
          have e1' : a.eval x = .slice (some ⟨r, off, none⟩) len c := e1
          simp only [execOp, hop, e1', e2, hkd, Sem.run_bind, this, Result.andThen_ok, Sem.run_pure]
          rfl
        · simp at h
      · exact gen h
  · simp at h

theorem evals_toArray {F : Own} {H : Heap} {O : Own} {a : Act} {w : World} (h : Conc F s H O a w) {xs : List Operand} {vs : List At} {cs : List Ck}
    (hx : opAts s gl xs = some (vs, cs)) (hc : AllCk cs) (ho : On (gden gl)) : xs.toArray.map a.eval = (vs.map At.den).toArray := by
  rw [← opAts_den h hx hc ho]; simp

theorem opt_eval {F : Own} {H : Heap} {O : Own} {a : Act} {w : World} (h : Conc F s H O a w) {x : Option Operand} {l : List At} {cs : List Ck}
    (hx : opAts s gl x.toList = some (l, cs)) (hc : AllCk cs) (ho : On (gden gl)) : x.map a.eval = l.head?.map At.den ∧ (l.head?.isSome = x.isSome) ∧ l = l.head?.toList := by
  have hd := opAts_den h hx hc ho
  cases x with
  | none =>
    simp only [Option.toList, opAts, Option.some.injEq, Prod.mk.injEq] at hx
    rw [← hx.1]; simp
  | some y =>
    simp only [Option.toList, List.map_cons, List.map_nil] at hd
    match l, hd with
    | [b], hd => simp at hd; simp [hd]
    | [], hd => simp at hd
    | _ :: _ :: _, hd => simp at hd

theorem takeArgs3 (lo hi mx : Option Value) : takeArgs [lo.isSome, hi.isSome, mx.isSome] (lo.toList ++ hi.toList ++ mx.toList) = [lo, hi, mx] := by
  cases lo <;> cases hi <;> cases mx <;> rfl
theorem takeArgs2 (lo hi : Option Value) : takeArgs [lo.isSome, hi.isSome] (lo.toList ++ hi.toList ++ []) = [lo, hi] := by
  cases lo <;> cases hi <;> rfl
theorem map_toList (x : Option At) : x.toList.map At.den = (x.map At.den).toList := by cases x <;> rfl

theorem constBound {x : Option At} {d n y : Nat} (h : (x.map constNat).getD (some d) = some n) (hy : n ≤ y) : boundOr (x.map At.den) y d = some n ∧ boundHi (x.map At.den) false y d = some n := by
  cases x with
  | none => simpa [boundOr, boundHi] using h
  | some a =>
    simp only [Option.map_some, Option.getD_some] at h
    obtain ⟨k, hk⟩ := constNat_spec h
    simp [hk, boundOr, boundHi, boundI, asI, hy]

theorem slice_sound {t : TypeId} {x : Operand} {lo hi mx : Option Operand} {x' : At} {l h' m : List At} {c0 c1 c2 c3 : List Ck} {y : NF} {fp : FP} (hop : o.op = .slice t x lo hi mx)
    (h0 : opAt s gl x = some (x', c0)) (h1 : opAts s gl lo.toList = some (l, c1)) (h2 : opAts s gl hi.toList = some (h', c2)) (h3 : opAts s gl mx.toList = some (m, c3))
    (hg : guardOf (tgtOf ops) s o = .go gl) (hd : ∀ d, o.dst = some d → d < s.sz) (h : sliceNF P gl o.dst t x' l.head? h'.head? m.head? (c0 ++ c1 ++ c2 ++ c3) = some (y, fp)) : Sound P ops o s y := by
  have ev : ∀ {F H O a w}, Conc F s H O a w → AllCk (c0 ++ c1 ++ c2 ++ c3) → On (gden gl) → a.eval x = x'.den ∧ lo.map a.eval = l.head?.map At.den ∧ hi.map a.eval = h'.head?.map At.den ∧ mx.map a.eval = m.head?.map At.den := by
    intro F H O a w hc hcs hon
    simp only [AllCk.append] at hcs
    exact ⟨opAt_den hc h0 hcs.1.1.1 hon, (opt_eval hc h1 hcs.1.1.2 hon).1, (opt_eval hc h2 hcs.1.2 hon).1, (opt_eval hc h3 hcs.2 hon).1⟩
  generalize l.head? = lo' at h ev
  generalize h'.head? = hi' at h ev
  generalize m.head? = mx' at h ev
  unfold sliceNF at h
  simp only [] at h
  split at h
  · rename_i hu
    split at h
    · simp at h
    · rename_i hmx
      simp only [Option.some.injEq, Prod.mk.injEq] at h
      obtain ⟨rfl, _⟩ := h
      have hmx' : mx' = none := by cases mx' <;> simp_all
      subst hmx'
      refine pureNF_sound hg hd (by simp) ?_
      intro F H O a w v hc hcs hon he
      obtain ⟨e0, e1, e2, e3⟩ := ev hc hcs hon
      simp only [List.map_cons, List.map_append, evalPure, map_toList, Option.toList_none, List.map_nil, List.append_nil] at he
      have hta := takeArgs2 (lo'.map At.den) (hi'.map At.den)
      simp only [List.append_nil, Option.isSome_map] at hta
      rw [hta] at he
      simp only [Option.map_none] at e3
      simp only [execOp, hop, e0, e1, e2, e3, Sem.run_bind, run_sslc hu he, Result.andThen_ok, Sem.run_pure]
  · rename_i elem hu
    cases hs : szOf P elem with
    | none => simp [hs] at h
    | some size =>
      simp only [hs, Option.bind_some] at h
      have gen : ∀ {y fp}, some (pureNF gl false o.dst (.slc size lo'.isSome hi'.isSome mx'.isSome) (x' :: (lo'.toList ++ hi'.toList ++ mx'.toList)) (c0 ++ c1 ++ c2 ++ c3), ({} : FP)) = some (y, fp) → Sound P ops o s y := by
        intro y fp h
        simp only [Option.some.injEq, Prod.mk.injEq] at h
        obtain ⟨rfl, _⟩ := h
        refine pureNF_sound hg hd (by simp) ?_
        intro F H O a w v hc hcs hon he
        obtain ⟨e0, e1, e2, e3⟩ := ev hc hcs hon
        simp only [List.map_cons, List.map_append, evalPure, map_toList] at he
        have hta := takeArgs3 (lo'.map At.den) (hi'.map At.den) (mx'.map At.den)
        simp only [Option.isSome_map] at hta
        rw [hta] at he
        simp only [execOp, hop, e0, e1, e2, e3, Sem.run_bind, run_slc hu hs he, Result.andThen_ok, Sem.run_pure]
      split at h
      · rename_i l'' h'' n r off len cap
        split at h
        · rename_i l3 h3' hl hh
          split at h
          · rename_i hcond
            simp only [Bool.and_eq_true, decide_eq_true_eq] at hcond
            simp only [Option.some.injEq, Prod.mk.injEq] at h
            obtain ⟨rfl, _⟩ := h
            refine sound_quiet (X := fun _ => .at (.sl n r (if cap = l3 then off else off + l3 * size) (h3' - l3) (cap - l3))) hg hd (fun _ _ _ _ _ _ => ok_at trivial) ?_
            intro F H O a w vs hc hcs _ hon
            obtain ⟨e0, e1, e2, e3⟩ := ev hc hcs hon
            have hb : evalSlc size (.slice (some ⟨r, off, none⟩) len cap) (lo'.map At.den) (hi'.map At.den) none =
                some (.slice (if cap = l3 then some ⟨r, off, none⟩ else some ⟨r, off + l3 * size, none⟩) (h3' - l3) (cap - l3)) := by
              have b1 := (constBound (x := hi') (d := len) (n := h3') (y := cap) hh hcond.2).2
              have b2 := (constBound (x := lo') (d := 0) (n := l3) (y := h3') hl hcond.1).1
              have b3 : slcBounds len cap (lo'.map At.den) (hi'.map At.den) none = some (l3, h3', cap) := by
                show ((boundHi (hi'.map At.den) false cap len).bind fun h => (boundOr (lo'.map At.den) h 0).bind fun l => some (l, h, cap)) = _
                rw [b1]; simp only [Option.bind_some]
                rw [b2]; rfl
              simp only [evalSlc, b3, Option.map_some, add_none]
            have e0' : a.eval x = .slice (some ⟨r, off, none⟩) len cap := e0
            simp only [Option.map_none] at e3
            simp only [execOp, hop, e0', e1, e2, e3, Sem.run_bind, run_slc hu hs hb, Result.andThen_ok, Sem.run_pure, S1.den, At.den]
            split <;> rfl
          · simp at h
        · exact gen h
      · exact gen h
  · rename_i len elem hu
    cases hs : szOf P elem with
    | none => simp [hs] at h
    | some size =>
      simp only [hs, Option.bind_some] at h
      split at h
      · rename_i l'' h'' n r off
        split at h
        · rename_i l3 h3' hl hh
          split at h
          · rename_i hcond
            simp only [Bool.and_eq_true, decide_eq_true_eq] at hcond
            simp only [Option.some.injEq, Prod.mk.injEq] at h
            obtain ⟨rfl, _⟩ := h
            refine sound_quiet (X := fun _ => .at (.sl n r (if len = l3 then off else off + l3 * size) (h3' - l3) (len - l3))) hg hd (fun _ _ _ _ _ _ => ok_at trivial) ?_
            intro F H O a w vs hc hcs _ hon
            obtain ⟨e0, e1, e2, e3⟩ := ev hc hcs hon
            have hb : slcBounds len len (lo'.map At.den) (hi'.map At.den) none = some (l3, h3', len) := by
              have b1 := (constBound (x := hi') (d := len) (n := h3') (y := len) hh hcond.2).2
              have b2 := (constBound (x := lo') (d := 0) (n := l3) (y := h3') hl hcond.1).1
              show ((boundOr none len len).bind fun m => (boundHi (hi'.map At.den) false m len).bind fun h => (boundOr (lo'.map At.den) h 0).bind fun l => some (l, h, m)) = _
              show ((boundHi (hi'.map At.den) false len len).bind fun h => (boundOr (lo'.map At.den) h 0).bind fun l => some (l, h, len)) = _
              rw [b1]; simp only [Option.bind_some]
              rw [b2]; rfl
            have e0' : a.eval x = .pointer (some ⟨r, off, none⟩) := e0
            simp only [Option.map_none] at e3
            simp only [execOp, hop, e0', e1, e2, e3, Sem.run_bind, run_slarr hu hs hb, Result.andThen_ok, Sem.run_pure, S1.den, At.den]
            split <;> rfl
          · simp at h
        · simp at h
      · rename_i l'' h'' r off
        split at h
        · rename_i l3 h3' hl hh
          split at h
          · rename_i hcond
            simp only [Bool.and_eq_true, decide_eq_true_eq] at hcond
            simp only [Option.some.injEq, Prod.mk.injEq] at h
            obtain ⟨rfl, _⟩ := h
            refine sound_quiet (X := fun _ => .at (.k (.slice (some ⟨r, if len = l3 then off else off + l3 * size, none⟩) (h3' - l3) (len - l3)))) hg hd (fun _ _ _ _ _ _ => ok_at trivial) ?_
            intro F H O a w vs hc hcs _ hon
            obtain ⟨e0, e1, e2, e3⟩ := ev hc hcs hon
            have hb : slcBounds len len (lo'.map At.den) (hi'.map At.den) none = some (l3, h3', len) := by
              have b1 := (constBound (x := hi') (d := len) (n := h3') (y := len) hh hcond.2).2
              have b2 := (constBound (x := lo') (d := 0) (n := l3) (y := h3') hl hcond.1).1
              show ((boundOr none len len).bind fun m => (boundHi (hi'.map At.den) false m len).bind fun h => (boundOr (lo'.map At.den) h 0).bind fun l => some (l, h, m)) = _
              show ((boundHi (hi'.map At.den) false len len).bind fun h => (boundOr (lo'.map At.den) h 0).bind fun l => some (l, h, len)) = _
              rw [b1]; simp only [Option.bind_some]
              rw [b2]; rfl
            have e0' : a.eval x = .pointer (some ⟨r, off, none⟩) := e0
            simp only [Option.map_none] at e3
            simp only [execOp, hop, e0', e1, e2, e3, Sem.run_bind, run_slarr hu hs hb, Result.andThen_ok, Sem.run_pure, S1.den, At.den]
            split <;> rfl
          · simp at h
        · simp at h
      · simp at h
  · simp at h
end Go.Sx
