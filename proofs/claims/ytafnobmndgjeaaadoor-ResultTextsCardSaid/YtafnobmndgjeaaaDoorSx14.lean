/- Every operation's normal form is sound: the rest, and the whole table. -/
import Derived.Test.YtafnobmndgjeaaaDoorSx13
import Derived.Laws.Small
namespace Go.Sx
open Go
variable {P : Program} {ops : Array Oper} {o : Oper} {s : SS} {gl : List (At × Bool)}

theorem isPtr_spec {y : Value} (h : isPtr y = true) : ∃ ad, y = .pointer (some ad) := by
  unfold isPtr at h; split at h
  · exact ⟨_, rfl⟩
  · simp at h

theorem nil_sound {x : Operand} {x' : At} {cs : List Ck} {y : NF} {fp : FP} (hop : o.op = .nilCheck x) (hx : opAt s gl x = some (x', cs))
    (hg : guardOf (tgtOf ops) s o = .go gl) (hd : ∀ d, o.dst = some d → d < s.sz) (h : nilNF gl o.dst x' cs = some (y, fp)) : Sound P ops o s y := by
  have hok := fun hs : s.Ok => opAt_ok hs hx
  unfold nilNF at h
  split at h
  · refine plain_sound hg hd h (fun hs _ => ok_at (hok hs)) ?_
    intro F H O a w hc hcs hon
    have e := opAt_den hc hx hcs hon
    simp only [execOp, hop, e]; rfl
  · refine plain_sound hg hd h (fun hs _ => ok_at (hok hs)) ?_
    intro F H O a w hc hcs hon
    have e := opAt_den hc hx hcs hon
    simp only [execOp, hop, e]; rfl
  · refine plain_sound hg hd h (fun hs _ => ok_at (hok hs)) ?_
    intro F H O a w hc hcs hon
    have e := opAt_den hc hx hcs.2 hon
    obtain ⟨ad, had⟩ := isPtr_spec (hcs.1 hon)
    subst had
    simp only [execOp, hop, e]; rfl
  · refine plain_sound hg hd h (fun hs _ => ok_at (hok hs)) ?_
    intro F H O a w hc hcs hon
    have e := opAt_den hc hx hcs.2 hon
    obtain ⟨ad, had⟩ := isPtr_spec (hcs.1 hon)
    subst had
    simp only [execOp, hop, e]; rfl
  · refine plain_sound hg hd h (fun hs _ => ok_at (hok hs)) ?_
    intro F H O a w hc hcs hon
    have e := opAt_den hc hx hcs.2 hon
    obtain ⟨ad, had⟩ := isPtr_spec (hcs.1 hon)
    subst had
    simp only [execOp, hop, e]; rfl
  · simp at h

theorem opS1s_two {s : SS} {gl : List (At × Bool)} {x y : Operand} {as : List S1} {cs : List Ck} (h : opS1s s gl [x, y] = some (as, cs)) : ∃ a b, as = [a, b] := by
  simp only [opS1s] at h
  split at h
  · rename_i a c as' cs' h1 h2
    simp only [Option.some.injEq, Prod.mk.injEq] at h
    split at h2
    · rename_i b c2 as2 cs2 h3 h4
      simp only [Option.some.injEq, Prod.mk.injEq] at h2 h4
      exact ⟨a, b, by rw [← h.1, ← h2.1, ← h4.1]⟩
    · simp at h2
  · simp at h

theorem eqv_run {op : BinOp} {t yt : TypeId} {x y : Operand} {X Y v : Value} (hop : o.op = .binOp op t x y yt) {a : Act} (ex : a.eval x = X) (ey : a.eval y = Y)
    (h : ∀ w, ((PrimOp.eqv op t (isConst x || isConst y)).sem [X, Y]).run P w = .ok (.value v) w) (w : World) : (execOp a.eval o).run P w = .ok (.value v) w := by
  have hw := h w
  simp only [PrimOp.sem] at hw
  simp only [execOp, hop, ex, ey]
  have : (eqGuard op t x y X Y) = (eqGuard op t (if (isConst x || isConst y) = true then .const undef else .global 0) (.global 0) X Y) := by
    unfold eqGuard
    cases x <;> cases y <;> rfl
  rw [this]; exact hw

theorem bin_sound {op : BinOp} {t yt : TypeId} {x y : Operand} {z : NF} {fp : FP} (hop : o.op = .binOp op t x y yt)
    (hg : guardOf (tgtOf ops) s o = .go gl) (hd : ∀ d, o.dst = some d → d < s.sz) (h : binNF P s gl o.dst op t x y = some (z, fp)) : Sound P ops o s z := by
  unfold binNF at h
  split at h
  · rename_i bk hbk
    simp only [Option.bind_eq_some_iff] at h
    obtain ⟨⟨as, cs⟩, hx, h⟩ := h
    obtain ⟨x', y', rfl⟩ := opAts_two hx
    simp only [Option.some.injEq, Prod.mk.injEq] at h
    obtain ⟨rfl, _⟩ := h
    refine pureNF_sound hg hd (by simp) ?_
    intro F H O a w v hc hcs hon he
    obtain ⟨e1, e2⟩ := eval_two hc hx hcs hon
    simp only [List.map_cons, List.map_nil, evalPure] at he
    simp only [execOp, hop, e1, e2]
    rw [Sem.run_bind, run_bin hbk he]; rfl
  · split at h
    all_goals first
      | (simp at h; done)
      | (simp only [Option.bind_eq_some_iff] at h
         obtain ⟨⟨as, cs⟩, hx, h⟩ := h
         obtain ⟨x', y', rfl⟩ := opS1s_two hx
         simp only [Option.some.injEq, Prod.mk.injEq] at h
         obtain ⟨rfl, _⟩ := h
         refine sound_quiet (X := fun vs => .at (.v (g vs 0))) hg hd ?_ ?_
         · rintro H O vs _ _ ⟨v, rfl, _, hone⟩; exact ok_at hone
         · rintro F H O a w vs hc hcs ⟨v, rfl, he, _⟩ hon
           have e := opS1s_den hc hx hcs hon
           simp only [List.map_cons, List.map_nil, List.cons.injEq, and_true] at e
           exact eqv_run hop e.1 e.2 (he hon) w)

theorem un_sound {op : UnOp} {t : TypeId} {x : Operand} {x' : At} {cs : List Ck} {z : NF} {fp : FP} (hop : o.op = .unOp op t x) (hx : opAt s gl x = some (x', cs))
    (hg : guardOf (tgtOf ops) s o = .go gl) (hd : ∀ d, o.dst = some d → d < s.sz) (h : unNF P gl o.dst op t x' cs = some (z, fp)) : Sound P ops o s z := by
  unfold unNF at h
  split at h
  all_goals first
    | (simp at h; done)
    | (simp only [Option.some.injEq, Prod.mk.injEq] at h
       obtain ⟨rfl, _⟩ := h
       refine pureNF_sound hg hd (by simp) ?_
       intro F H O a w v hc hcs hon he
       have e := opAt_den hc hx hcs hon
       simp only [List.map_cons, List.map_nil] at he
       simp only [execOp, hop, e]
       cases hv : x'.den <;> simp only [hv, evalPure, reduceCtorEq, evalInt, Option.some.injEq] at he
       subst he
       rfl)

theorem conv_sound {ta tb : TypeId} {x : Operand} {x' : At} {cs : List Ck} {z : NF} {fp : FP} (hop : o.op = .convert ta tb x) (hx : opAt s gl x = some (x', cs))
    (hg : guardOf (tgtOf ops) s o = .go gl) (hd : ∀ d, o.dst = some d → d < s.sz) (h : convNF P s gl o.dst ta tb x' cs = some (z, fp)) : Sound P ops o s z := by
  unfold convNF at h
  split at h
  · rename_i k0 k hu1 hu2
    simp only [Option.some.injEq, Prod.mk.injEq] at h
    obtain ⟨rfl, _⟩ := h
    refine pureNF_sound hg hd (by simp) ?_
    intro F H O a w v hc hcs hon he
    have e := opAt_den hc hx hcs hon
    simp only [List.map_cons, List.map_nil] at he
    cases hv : x'.den <;> simp only [hv, evalPure, reduceCtorEq, Option.some.injEq] at he
    subst he
    simp only [execOp, hop, e, hv, convert, Sem.run_bind, run_underlying' hu1, run_underlying' hu2, Result.andThen_ok, Conv.intToInt, Sem.run_pure]
  · split at h
    · rename_i hgl
      have : gl = [] := by simpa using hgl
      subst this
      refine heavy_sound rfl hg hd h ?_
      intro F H O a w hc hcs H1 O1 R hT F1 hm next Q hn
      have e := opAt_den hc hx hcs trivial
      exact wp_prim hT hm (by simp only [execOp, hop, e, PrimOp.sem]) hn
    · simp at h

theorem iface_sound {t : TypeId} {x : Operand} {z : NF} {fp : FP} (hop : o.op = .makeInterface t x)
    (hg : guardOf (tgtOf ops) s o = .go gl) (hd : ∀ d, o.dst = some d → d < s.sz) (h : ifaceNF P s gl o.dst t x = some (z, fp)) : Sound P ops o s z := by
  unfold ifaceNF at h
  split at h
  · simp at h
  · simp at h
  · rename_i d hni hu
    simp only [Option.bind_eq_some_iff] at h
    obtain ⟨⟨v, cs⟩, hx, h⟩ := h
    simp only [] at h
    split at h
    · refine plain_sound hg hd h (fun _ _ => ok_at rfl) ?_
      intro F H O a w hc hcs hon
      have e := opS1_den hc hx hcs hon
      simp only [execOp, hop, e, Instr.makeInterface, Sem.run_bind, run_underlying' hu, Result.andThen_ok]
      cases d <;> first | rfl | exact absurd hu (hni _)
    · simp at h

theorem caps_spec : ∀ {as : List At} {l : List Cp}, capsOf as = some l → l.map Cp.den = as.map At.den
  | [], l, h => by simp only [capsOf, Option.some.injEq] at h; subst h; rfl
  | a :: r, l, h => by
    cases a <;> simp only [capsOf, Option.map_eq_some_iff, reduceCtorEq] at h
    all_goals
      obtain ⟨l', hl, rfl⟩ := h
      simp only [List.map_cons, caps_spec hl]
      rfl

theorem func_sound {f : FuncId} {first caps : Array Operand} {as : List At} {cs : List Ck} {l : List Cp} {z : NF} {fp : FP} (hop : o.op = .makeFunc (.func f) first caps) (hf : first.isEmpty = true)
    (hx : opAts s gl caps.toList = some (as, cs)) (hl : capsOf as = some l)
    (hg : guardOf (tgtOf ops) s o = .go gl) (hd : ∀ d, o.dst = some d → d < s.sz) (h : plainNF gl o.dst (.at (.clo f l)) cs = some (z, fp)) : Sound P ops o s z := by
  refine plain_sound hg hd h (fun _ _ => ok_at trivial) ?_
  intro F H O a w hc hcs hon
  have e := opAts_den hc hx hcs hon
  have : first = #[] := by simpa using hf
  subst this
  have hcaps : caps.map a.eval = (l.map Cp.den).toArray := by
    rw [caps_spec hl, ← e]; apply Array.ext'; simp
  simp only [execOp, hop, Instr.makeFunc, hcaps, Sem.run_bind, Sem.run_pure, Result.andThen_ok, Array.map_empty]
  rfl

theorem index_sound {t : TypeId} {x i : Operand} {x' : S1} {i' : At} {cx ci : List Ck} {z : NF} {fp : FP} (hop : o.op = .index t x i) (hx : opS1 s gl x = some (x', cx)) (hi : opAt s gl i = some (i', ci))
    (hg : guardOf (tgtOf ops) s o = .go gl) (hd : ∀ d, o.dst = some d → d < s.sz) (h : indexNF P gl o.dst t x' i' (cx ++ ci) = some (z, fp)) : Sound P ops o s z := by
  have ev : ∀ {F H O a w}, Conc F s H O a w → AllCk (cx ++ ci) → On (gden gl) → a.eval x = x'.den ∧ a.eval i = i'.den := by
    intro F H O a w hc hcs hon
    rw [AllCk.append] at hcs
    exact ⟨opS1_den hc hx hcs.1 hon, opAt_den hc hi hcs.2 hon⟩
  unfold indexNF at h
  split at h
  · rename_i len elem cells hu
    simp only [Option.bind_eq_some_iff] at h
    obtain ⟨size, hs, h⟩ := h
    split at h
    · rename_i n hn
      split at h
      · rename_i hlt
        simp only [Option.bind_eq_some_iff] at h
        obtain ⟨v, hv, h⟩ := h
        refine plain_sound hg hd h (fun hs' _ a ha => opS1_ok hs' hx a (partS1_mem hv a ha)) ?_
        intro F H O a w hc hcs hon
        obtain ⟨e1, e2⟩ := ev hc hcs hon
        obtain ⟨k, hk⟩ := constNat_spec hn
        obtain ⟨m, hm⟩ := partS1_size hv
        have hb : (0 : Int) ≤ n ∧ (n : Int) < len := by omega
        have e1' : a.eval x = .agg (cells.map At.den).toArray := e1
        simp only [execOp, hop, e1', e2, hk, Instr.index, asIntOf, Sem.run_bind, Sem.run_pure, Result.andThen_ok, run_underlying' hu, if_pos hb, run_sizeOf' hs, Int.toNat_natCast, run_part hv w hm]
      · simp at h
    · split at h
      · rename_i hcond
        simp only [Bool.and_eq_true, decide_eq_true_eq, Bool.not_eq_true'] at hcond
        obtain ⟨⟨⟨⟨h1, hA⟩, hl⟩, hfit⟩, _⟩ := hcond
        subst h1
        simp only [Option.some.injEq, Prod.mk.injEq] at h
        obtain ⟨rfl, _⟩ := h
        refine pureNF_sound hg hd ?_ ?_
        · intro _
          by_cases hs' : s.Ok
          · exact .inl (ones_map (by simpa using hfit) (opS1_ok hs' hx))
          · exact .inr hs'
        · intro F H O a w v hc hcs hon he
          obtain ⟨e1, e2⟩ := ev hc hcs hon
          simp only [List.map_cons, evalPure] at he
          have e1' : a.eval x = .agg (cells.map At.den).toArray := e1
          have hrun := run_aidx hu hs hA (by simpa using hl) he w
          simp only [execOp, hop, e1', e2, Sem.run_bind, hrun, Result.andThen_ok, Sem.run_pure]
      · simp at h
  · rename_i x1 hu
    simp only [Option.some.injEq, Prod.mk.injEq] at h
    obtain ⟨rfl, _⟩ := h
    refine pureNF_sound hg hd (by simp) ?_
    intro F H O a w v hc hcs hon he
    obtain ⟨e1, e2⟩ := ev hc hcs hon
    simp only [List.map_cons, List.map_nil, evalPure] at he
    have e1' : a.eval x = x1.den := e1
    simp only [execOp, hop, e1', e2, Sem.run_bind, run_sidx hu he w, Result.andThen_ok, Sem.run_pure]
  · simp at h

theorem extract_sound {x : Operand} {i : Nat} {z : NF} {fp : FP} (hop : o.op = .extract x i)
    (hg : guardOf (tgtOf ops) s o = .go gl) (hd : ∀ d, o.dst = some d → d < s.sz) (h : extractNF s gl o.dst x i = some (z, fp)) : Sound P ops o s z := by
  cases x with
  | tmp t =>
    simp only [extractNF] at h
    split at h
    · rename_i l hl
      simp only [Option.bind_eq_some_iff] at h
      obtain ⟨v, hv, h⟩ := h
      split at h
      · refine plain_sound hg hd h (fun hs _ => ?_) ?_
        · have := hs.1 t; rw [hl] at this; exact this v (List.mem_of_getElem? hv)
        · intro F H O a w hc hcs hon
          have ht := hc.tm t
          rw [hl] at ht
          have e : a.eval (.tmp t) = .tuple (l.map S1.den).toArray := ht
          have hget : ((l.map S1.den).toArray)[i]? = some v.den := by simp [hv]
          simp only [execOp, hop, e, Instr.extract, hget, Sem.run_bind, Sem.run_pure, Result.andThen_ok]
      · simp at h
    · simp at h
  | const v => simp [extractNF] at h
  | global n => simp [extractNF] at h
  | func f => simp [extractNF] at h

theorem one1_spec {α : Type} {l : List α} {x : α} (h : one1 l = some x) : l = [x] := by
  unfold one1 at h; split at h
  · simp only [Option.some.injEq] at h; rw [h]
  · simp at h
theorem two2_spec {α : Type} {l : List α} {x : α × α} (h : two2 l = some x) : l = [x.1, x.2] := by
  unfold two2 at h; split at h
  · simp only [Option.some.injEq] at h; rw [← h]
  · simp at h

theorem builtin_exec {c : Call} {b : Builtin} {a : Act} (hop : o.op = .call c) (hcal : c.callee = .builtin b) (hb : b ≠ .print) (hb' : b ≠ .println) (w : World) :
    (execOp a.eval o).run P w = (builtin b c.argTypes o.type #[] (c.args.map a.eval)).run P w := by
  simp only [execOp, hop, resolve, hcal, Sem.run_bind, Sem.run_pure, Result.andThen_ok, invoke]
  cases b <;> first | rfl | exact absurd rfl hb | exact absurd rfl hb'

theorem builtin_sound {c : Call} {b : Builtin} {z : NF} {fp : FP} (hop : o.op = .call c) (hcal : c.callee = .builtin b)
    (hg : guardOf (tgtOf ops) s o = .go gl) (hd : ∀ d, o.dst = some d → d < s.sz) (h : builtinNF P s gl o.dst o.type b c.argTypes c.args.toList = some (z, fp)) : Sound P ops o s z := by
  unfold builtinNF at h
  split at h
  · -- len
    simp only [Option.bind_eq_some_iff] at h
    obtain ⟨t, ht, x, hx, ⟨x', cs⟩, hx', h⟩ := h
    have ht' : c.argTypes = #[t] := by apply Array.ext'; simpa using one1_spec ht
    have hargs : c.args = #[x] := by apply Array.ext'; simpa using one1_spec hx
    have ex : ∀ {F H O a w}, Conc F s H O a w → AllCk cs → On (gden gl) → (execOp a.eval o).run P w = (Functor.map (fun v => Next.value v) (Builtin.len_ #[t] o.type #[x'.den])).run P w := by
      intro F H O a w hc hcs hon
      rw [builtin_exec hop hcal (by simp) (by simp), ht', hargs]
      have e := opAt_den hc hx' hcs hon
      simp only [builtin, List.map_toArray, List.map_cons, List.map_nil, e]
      rfl
    unfold lenNF at h
    split at h
    · rename_i e hu
      split at h
      · rename_i n r off m cp hxe
        simp only [] at hxe
        subst hxe
        refine plain_sound hg hd h (fun _ _ => ok_k _) ?_
        intro F H O a w hc hcs hon
        rw [ex hc hcs hon, Sem.run_map, run_len hu (x := (At.sl n r off m cp).den) (v := goInt m) rfl]; rfl
      · simp only [Option.some.injEq, Prod.mk.injEq] at h
        obtain ⟨rfl, _⟩ := h
        refine pureNF_sound hg hd (by simp) ?_
        intro F H O a w v hc hcs hon he
        rw [ex hc hcs hon, Sem.run_map, run_len hu he]; rfl
    · rename_i hu
      simp only [Option.some.injEq, Prod.mk.injEq] at h
      obtain ⟨rfl, _⟩ := h
      refine pureNF_sound hg hd (by simp) ?_
      intro F H O a w v hc hcs hon he
      rw [ex hc hcs hon, Sem.run_map, run_slen hu he]; rfl
    · rename_i n e hu
      refine plain_sound hg hd h (fun _ _ => ok_k _) ?_
      intro F H O a w hc hcs hon
      rw [ex hc hcs hon, Sem.run_map, run_alen hu]; rfl
    · rename_i k e hu
      split at h
      · rename_i hgl
        have : gl = [] := by simpa using hgl
        subst this
        refine heavy_sound rfl hg hd h ?_
        intro F H O a w hc hcs H1 O1 R hT F1 hm next Q hn
        exact wp_prim hT hm (by rw [ex hc hcs trivial]; rfl) hn
      · simp at h
    · simp at h
  · -- cap
    simp only [Option.bind_eq_some_iff] at h
    obtain ⟨t, ht, x, hx, ⟨x', cs⟩, hx', h⟩ := h
    have ht' : c.argTypes = #[t] := by apply Array.ext'; simpa using one1_spec ht
    have hargs : c.args = #[x] := by apply Array.ext'; simpa using one1_spec hx
    have ex : ∀ {F H O a w}, Conc F s H O a w → AllCk cs → On (gden gl) → (execOp a.eval o).run P w = (Functor.map (fun v => Next.value v) (Builtin.cap_ #[t] o.type #[x'.den])).run P w := by
      intro F H O a w hc hcs hon
      rw [builtin_exec hop hcal (by simp) (by simp), ht', hargs]
      have e := opAt_den hc hx' hcs hon
      simp only [builtin, List.map_toArray, List.map_cons, List.map_nil, e]
      rfl
    unfold capNF at h
    split at h
    · rename_i e hu
      split at h
      · rename_i n r off m cp hxe
        simp only [] at hxe
        subst hxe
        refine plain_sound hg hd h (fun _ _ => ok_k _) ?_
        intro F H O a w hc hcs hon
        rw [ex hc hcs hon, Sem.run_map, run_cap hu (x := (At.sl n r off m cp).den) (v := goInt cp) rfl]; rfl
      · simp only [Option.some.injEq, Prod.mk.injEq] at h
        obtain ⟨rfl, _⟩ := h
        refine pureNF_sound hg hd (by simp) ?_
        intro F H O a w v hc hcs hon he
        rw [ex hc hcs hon, Sem.run_map, run_cap hu he]; rfl
    · simp at h
  · -- min
    simp only [Option.bind_eq_some_iff] at h
    obtain ⟨⟨x, y⟩, hxy, ⟨as, cs⟩, hx, h⟩ := h
    have hargs : c.args = #[x, y] := by apply Array.ext'; simpa using two2_spec hxy
    obtain ⟨x', y', rfl⟩ := opAts_two hx
    simp only [Option.some.injEq, Prod.mk.injEq] at h
    obtain ⟨rfl, _⟩ := h
    refine pureNF_sound hg hd (by simp) ?_
    intro F H O a w v hc hcs hon he
    obtain ⟨e1, e2⟩ := eval_two hc hx hcs hon
    rw [builtin_exec hop hcal (by simp) (by simp), hargs]
    simp only [List.map_cons, List.map_nil] at he
    simp only [builtin, List.map_toArray, List.map_cons, List.map_nil, e1, e2]
    cases hv1 : x'.den <;> cases hv2 : y'.den <;> simp only [hv1, hv2, evalPure, reduceCtorEq, Option.some.injEq] at he
    subst he
    rw [Sem.run_bind, run_min_int2]; rfl
  · -- max
    simp only [Option.bind_eq_some_iff] at h
    obtain ⟨⟨x, y⟩, hxy, ⟨as, cs⟩, hx, h⟩ := h
    have hargs : c.args = #[x, y] := by apply Array.ext'; simpa using two2_spec hxy
    obtain ⟨x', y', rfl⟩ := opAts_two hx
    simp only [Option.some.injEq, Prod.mk.injEq] at h
    obtain ⟨rfl, _⟩ := h
    refine pureNF_sound hg hd (by simp) ?_
    intro F H O a w v hc hcs hon he
    obtain ⟨e1, e2⟩ := eval_two hc hx hcs hon
    rw [builtin_exec hop hcal (by simp) (by simp), hargs]
    simp only [List.map_cons, List.map_nil] at he
    simp only [builtin, List.map_toArray, List.map_cons, List.map_nil, e1, e2]
    cases hv1 : x'.den <;> cases hv2 : y'.den <;> simp only [hv1, hv2, evalPure, reduceCtorEq, Option.some.injEq] at he
    subst he
    rw [Sem.run_bind, run_max_int2]; rfl
  all_goals first
    | (simp at h; done)
    | (split at h
       · rename_i hgl
         have : gl = [] := by simpa using hgl
         subst this
         simp only [Option.bind_eq_some_iff] at h
         obtain ⟨⟨as, cs⟩, hx, h⟩ := h
         refine heavy_sound rfl hg hd h ?_
         intro F H O a w hc hcs H1 O1 R hT F1 hm next Q hn
         refine wp_prim hT hm ?_ hn
         rw [builtin_exec hop hcal (by simp) (by simp)]
         have e := opAts_den hc hx hcs trivial
         have : c.args.map a.eval = (as.map At.den).toArray := by rw [← e]; apply Array.ext'; simp
         rw [this]; rfl
       · simp at h)

theorem prim_sound {shp : Shp} {op : PrimOp} {xs : List Operand} {z : NF} {fp : FP}
    (hg : guardOf (tgtOf ops) s o = .go gl) (hd : ∀ d, o.dst = some d → d < s.sz) (h : primNF s gl o.dst shp op xs = some (z, fp))
    (hex : ∀ (a : Act) (vs : List Value) (w : World), xs.map a.eval = vs → (execOp a.eval o).run P w = (op.sem vs).run P w) : Sound P ops o s z := by
  unfold primNF at h
  split at h
  · rename_i hgl
    have : gl = [] := by simpa using hgl
    subst this
    simp only [Option.bind_eq_some_iff] at h
    obtain ⟨⟨as, cs⟩, hx, h⟩ := h
    refine heavy_sound rfl hg hd h ?_
    intro F H O a w hc hcs H1 O1 R hT F1 hm next Q hn
    exact wp_prim hT hm (hex a _ w (opAts_den hc hx hcs trivial)) hn
  · simp at h

theorem mapUpdate_sound {t : TypeId} {m k x : Operand} {z : NF} {fp : FP} (hdst : o.dst = none) (hop : o.op = .mapUpdate t m k x ∨ o.op = .insert t m k x)
    (hg : guardOf (tgtOf ops) s o = .go gl) (hd : ∀ d, o.dst = some d → d < s.sz) (h : primNF s gl o.dst .one (.mapUpdate t) [m, k, x] = some (z, fp)) : Sound P ops o s z := by
  unfold primNF at h
  split at h
  · rename_i hgl
    have : gl = [] := by simpa using hgl
    subst this
    simp only [Option.bind_eq_some_iff] at h
    obtain ⟨⟨as, cs⟩, hx, h⟩ := h
    refine heavy_sound rfl hg hd h ?_
    intro F H O a w hc hcs H1 O1 R hT F1 hm next Q hn
    have e := opAts_den hc hx hcs trivial
    obtain ⟨v, w', H', O', hr, hR, hle, hm'⟩ := hT w F1 hm
    have hn' := hn v w' H' O' hR hle hm'
    rw [hdst] at hn'
    unfold Oper.wp
    have hs : (PrimOp.mapUpdate t).sem (as.map At.den) = (do Instr.mapUpdate t (a.eval m) (a.eval k) (a.eval x); pure (.value undef) : Sem Next) := by
      rw [← e]; rfl
    rw [hs, Sem.run_bind] at hr
    have hex : (execOp a.eval o).run P w = ((Instr.mapUpdate t (a.eval m) (a.eval k) (a.eval x)).run P w).andThen fun _ w' => .ok .skip w' := by
      rcases hop with hop | hop
      · simp only [execOp, hop, Sem.run_bind, Sem.run_pure]
      · simp only [execOp, hop, Sem.run_bind, Sem.run_pure]
    rw [hex]
    cases hmu : (Instr.mapUpdate t (a.eval m) (a.eval k) (a.eval x)).run P w with
    | ok u w1 =>
      rw [hmu] at hr
      simp only [Result.andThen_ok, Sem.run_pure, Result.ok.injEq] at hr
      obtain ⟨_, rfl⟩ := hr
      rw [Result.andThen_ok, Oper.upon_skip, hdst]
      exact hn'
    | halt u w1 => rw [hmu] at hr; simp at hr
  · simp at h

theorem postEqs_spec (vs : List Value) : ∀ (l : List At) (i : Nat), AllCk (postEqs vs l i) → ∀ j a, l[j]? = some a → g vs (i + j) = a.den
  | [], _, _, j, a, h => by simp at h
  | b :: r, i, hc, 0, a, h => by simp at h; subst h; exact hc.1
  | b :: r, i, hc, j + 1, a, h => by
    have := postEqs_spec vs r (i + 1) hc.2 j a (by simpa using h)
    rwa [show i + 1 + j = i + (j + 1) by omega] at this
theorem ruleAts_len {x : At} : ∀ {offs : List Nat} {l : List At}, ruleAts x offs = some l → l.all (fun a => match a with | .p .. => true | _ => false) = true
  | [], l, h => by simp only [ruleAts, Option.some.injEq] at h; subst h; rfl
  | o :: r, l, h => by
    simp only [ruleAts] at h
    split at h
    · rename_i hl
      simp only [Option.some.injEq] at h; subst h
      simp [ruleAts_len hl]
    · simp at h

theorem call_sound {okf : FuncId → Bool} {rules : FuncId → Option (List Nat)} {c : Call} {f : Operand} {f' : At} {as : List S1} {cf ca : List Ck} {z : NF} {fp : FP} (hokf : ∀ f, okf f = true → OkFn P f)
    (hop : o.op = .call c) (hcal : c.callee = .value f) (hf : opAt s [] f = some (f', cf)) (ha : opS1s s [] c.args.toList = some (as, ca))
    (hg : guardOf (tgtOf ops) s o = .go []) (hd : ∀ d, o.dst = some d → d < s.sz) (h : callNF P okf rules s o.dst o.type f' as (cf ++ ca) = some (z, fp)) : Sound P ops o s z := by
  have ev : ∀ {F H O a w}, Conc F s H O a w → AllCk (cf ++ ca) → a.eval f = f'.den ∧ c.args.map a.eval = (as.map S1.den).toArray := by
    intro F H O a w hc hcs
    rw [AllCk.append] at hcs
    have e := opS1s_den hc ha hcs.2 trivial
    exact ⟨opAt_den hc hf hcs.1 trivial, by rw [← e]; apply Array.ext'; simp⟩
  unfold callNF at h
  simp only [Option.bind_eq_some_iff] at h
  obtain ⟨shp, hshp, h⟩ := h
  have hv : ∀ {x : Value} {atoms : List At} {z : NF} {fp : FP}, f'.den = x → heavyNF s o.dst shp (.callv x (as.map S1.den)) atoms (cf ++ ca) = some (z, fp) → Sound P ops o s z := by
    intro x atoms z fp hx h
    refine heavy_sound rfl hg hd h ?_
    rintro F H O a w hc hcs H1 O1 R ⟨n, caps, hfv, hokn, hT⟩ F1 hm next Q hn
    obtain ⟨e1, e2⟩ := ev hc hcs
    have e1' : a.eval f = .func (.func n) #[] caps := by rw [e1, hx, hfv]
    refine wp_enter hT hm ?_ hn
    rw [call_run hop hcal e1' hokn w, e2]
    congr 2
    apply Array.ext'; simp
  split at h
  · rename_i n caps
    split at h
    · split at h
      · rename_i hce
        have hcaps : caps = [] := by simpa using hce
        subst hcaps
        refine heavy_sound rfl hg hd h ?_
        intro F H O a w hc hcs H1 O1 R hT F1 hm next Q hn
        obtain ⟨e1, e2⟩ := ev hc hcs
        have e1' : a.eval f = .func (.func n) #[] #[] := e1
        refine wp_prim hT hm ?_ hn
        simp only [execOp, hop, resolve, hcal, e1', Deferred.ofValue, Sem.run_bind, Sem.run_pure, Result.andThen_ok, invoke, Array.empty_append, Array.append_empty, PrimOp.sem, e2]
      · simp at h
    · rename_i hok
      have hokn : OkFn P n := hokf n (by simpa using hok)
      have hh : ∀ {atoms : List At} {z : NF} {fp : FP}, heavyNF s o.dst shp (.call n (as.map S1.den ++ caps.map Cp.den)) atoms (cf ++ ca) = some (z, fp) → Sound P ops o s z := by
        intro atoms z fp h
        refine heavy_sound rfl hg hd h ?_
        intro F H O a w hc hcs H1 O1 R hT F1 hm next Q hn
        obtain ⟨e1, e2⟩ := ev hc hcs
        refine wp_enter hT hm ?_ hn
        rw [call_run hop hcal e1 hokn w, e2]
        congr 2
        apply Array.ext'; simp
      split at h
      · rename_i offs x hce hru hone
        have hcaps : caps = [] := by simpa using hce
        subst hcaps
        have has := one1_spec hone
        subst has
        simp only [Option.bind_eq_some_iff] at h
        obtain ⟨l, hl, h⟩ := h
        split at h
        · rename_i hagg
          simp only [Option.some.injEq, Prod.mk.injEq] at h
          obtain ⟨rfl, _⟩ := h
          have hshape : shp = .agg l.length := by
            cases shp <;> simp [Shp.isAgg] at hagg
            rw [hagg]
          subst hshape
          refine sound_hv (hk := .call n [x.den]) (frz := []) (own := []) (shp := .agg l.length) (post := fun vs => postEqs vs l 0) (cs := cf ++ ca) (sv := fun _ => .s (.agg l)) hg hd (by simp) (by simp) (by simp) ?_ ?_
          · intro v vs _ hopn hones hpost
            have hallp := ruleAts_len hl
            refine ⟨?_, ?_⟩
            · show v = .agg (l.map At.den).toArray
              cases v with
              | agg cells =>
                simp only [Shp.open] at hopn
                split at hopn
                · rename_i hsz
                  simp only [Option.some.injEq] at hopn; subst hopn
                  congr 1
                  apply Array.ext'
                  apply List.ext_getElem?
                  intro j
                  simp only [List.toList_toArray, List.getElem?_map]
                  by_cases hj : j < l.length
                  · have hp := postEqs_spec cells.toList l 0 hpost j l[j] (by simp [hj])
                    simp only [Nat.zero_add, g] at hp
                    rw [List.getElem?_eq_getElem (by simp; omega), List.getElem?_eq_getElem hj]
                    simp only [Option.map_some]
                    rw [← hp]
                    have hjc : j < cells.size := by omega
                    simp [List.getD, hjc]
                  · rw [List.getElem?_eq_none (by simp; omega), List.getElem?_eq_none (by omega)]; rfl
                · simp at hopn
              | _ => simp [Shp.open] at hopn
            · intro a ha'
              rw [List.all_eq_true] at hallp
              have := hallp a ha'
              cases a <;> simp at this
              trivial
          · intro F H O a w hc hcs H1 O1 R hT F1 hm next Q hn
            obtain ⟨e1, e2⟩ := ev hc hcs
            refine wp_enter hT hm ?_ hn
            rw [call_run hop hcal e1 hokn w, e2]
            rfl
        · simp at h
      · exact hh h
  · exact hv rfl h
  · exact hv rfl h
  · simp at h

theorem nfGo_sound {okf : FuncId → Bool} {rules : FuncId → Option (List Nat)} {sp : Bool} {name : Nat} {y : NF} {fp : FP} (hokf : ∀ f, okf f = true → OkFn P f)
    (hg : guardOf (tgtOf ops) s o = .go gl) (hd : ∀ d, o.dst = some d → d < s.sz) (h : nfGo P okf rules sp name o gl s = some (y, fp)) : Sound P ops o s y := by
  unfold nfGo at h
  split at h
  · rename_i x hop; exact move_sound (fun a w => by simp [execOp, hop]) hg hd h
  · rename_i x hop; exact move_sound (fun a w => by simp [execOp, hop]) hg hd h
  · rename_i c a b hop; exact pick_sound hop hg hd h
  · rename_i T hop
    simp only [Option.bind_eq_some_iff] at h
    obtain ⟨cells, hz, h⟩ := h
    obtain ⟨z, hzr, hzc, hzk, hzo⟩ := zeroOf_run hz
    refine boxed_sound hg hd h (fun _ => trivial) (fun _ => rfl) (fun _ => hzo) ?_
    intro F H O a w hc hcs hgl
    refine ⟨cells.map At.den, CellsRel.map cells, ?_⟩
    have hzc' : z.cells = (cells.map At.den).toArray := by rw [← hzc]
    simp only [execOp, hop, Instr.alloc, Sem.run_bind, hzr, Result.andThen_ok, newVar, newRow, hzc', run_newObj, Sem.run_pure]
    rfl
  · rename_i T x hop
    simp only [Option.bind_eq_some_iff] at h
    obtain ⟨⟨v, cs⟩, hx, h⟩ := h
    simp only [] at h
    split at h
    · rename_i hfit
      refine boxed_sound hg hd h (fun _ => trivial) (fun _ => rfl) (fun hs => opS1_ok hs hx) ?_
      intro F H O a w hc hcs hgl
      subst hgl
      refine ⟨v.cells.map At.den, CellsRel.map v.cells, ?_⟩
      have e := opS1_den hc hx hcs trivial
      simp only [execOp, hop, e, Instr.box, Sem.run_bind, Result.andThen_ok, newVar, newRow, cells_den hfit (opS1_ok hc.ok hx), run_newObj, Sem.run_pure]
      rfl
    · simp at h
  · rename_i T parts hop; exact build_sound hop hg hd h
  · rename_i T len parts hop; exact buildSlice_sound hop hg hd h
  · rename_i t x hop
    simp only [Option.bind_eq_some_iff] at h
    obtain ⟨⟨x', cs⟩, hx, h⟩ := h
    exact loadNF_sound hop hx hg hd h
  · rename_i t x y' hop
    split at h
    · rename_i hcond
      simp only [Bool.and_eq_true, List.isEmpty_iff, Option.isNone_iff_eq_none] at hcond
      obtain ⟨rfl, hdst⟩ := hcond
      simp only [Option.bind_eq_some_iff] at h
      obtain ⟨⟨x', cs⟩, hx, ⟨y1, cs'⟩, hy, h⟩ := h
      exact storeNF_sound hop hdst hx hy hg h
    · simp at h
  · rename_i x hop
    simp only [Option.bind_eq_some_iff] at h
    obtain ⟨⟨x', cs⟩, hx, h⟩ := h
    exact nil_sound hop hx hg hd h
  · rename_i op t x y' yt hop; exact bin_sound hop hg hd h
  · rename_i op t x hop
    simp only [Option.bind_eq_some_iff] at h
    obtain ⟨⟨x', cs⟩, hx, h⟩ := h
    exact un_sound hop hx hg hd h
  · rename_i a b x hop
    simp only [Option.bind_eq_some_iff] at h
    obtain ⟨⟨x', cs⟩, hx, h⟩ := h
    exact conv_sound hop hx hg hd h
  · rename_i t x hop; exact iface_sound hop hg hd h
  · rename_i f first caps hop
    split at h
    · rename_i hf
      simp only [Option.bind_eq_some_iff] at h
      obtain ⟨⟨as, cs⟩, hx, l, hl, h⟩ := h
      exact func_sound hop hf hx hl hg hd h
    · simp at h
  · rename_i t x f hop
    simp only [Option.bind_eq_some_iff] at h
    obtain ⟨fd, hfd, m, hm, h⟩ := h
    split at h
    · simp at h
    · rename_i hm0
      simp only [Option.bind_eq_some_iff] at h
      obtain ⟨⟨x', cs⟩, hx, ⟨a', c⟩, hmv, h⟩ := h
      obtain ⟨h1, h2⟩ := moveAt_spec hmv
      refine plain_sound hg hd h (fun hs hcs => ok_at (h1 (AllCk.append.1 hcs).1 (opAt_ok hs hx))) ?_
      intro F H O a w hc hcs hon
      rw [AllCk.append] at hcs
      have e := opAt_den hc hx hcs.2 hon
      obtain ⟨ad, hxd, had⟩ := h2 hcs.1 hon
      simp only [execOp, hop, e, hxd, Sem.run_bind, run_fieldAt hfd hm hm0, Result.andThen_ok, Sem.run_pure, S1.den, had]
  · rename_i t x f hop
    simp only [Option.bind_eq_some_iff] at h
    obtain ⟨fd, hfd, ⟨x', cs⟩, hx, v, hv, h⟩ := h
    split at h
    · rename_i hagg
      obtain ⟨m, hm⟩ := partS1_size hv
      refine plain_sound hg hd h (fun hs _ a ha => opS1_ok hs hx a (partS1_mem hv a ha)) ?_
      intro F H O a w hc hcs hon
      have e := opS1_den hc hx hcs hon
      obtain ⟨fs, hu, hfs⟩ := fieldOf_spec hfd
      rcases x' with a' | l
      · simp [S1.isAgg] at hagg
      · have e' : a.eval x = .agg (l.map At.den).toArray := e
        have hp := run_part hv w hm
        simp only [execOp, hop, e', Instr.field, Sem.run_bind, run_underlying' hu, Result.andThen_ok, hfs, asAgg, Sem.run_pure]
        simp only [S1.cells] at hp
        rw [hp]; rfl
    · simp at h
  · rename_i t x i hop
    simp only [Option.bind_eq_some_iff] at h
    obtain ⟨⟨as, cs⟩, hx, ⟨x', i'⟩, h2, h⟩ := h
    have := two2_spec h2
    subst this
    exact indexAddr_sound hop hx hg hd h
  · rename_i t x i hop
    simp only [Option.bind_eq_some_iff] at h
    obtain ⟨⟨x', cs⟩, hx, ⟨i', cs'⟩, hi, h⟩ := h
    exact index_sound hop hx hi hg hd h
  · rename_i t x lo hi mx hop
    simp only [Option.bind_eq_some_iff] at h
    obtain ⟨⟨x', c0⟩, h0, ⟨l, c1⟩, h1, ⟨h', c2⟩, h2, ⟨m, c3⟩, h3, h⟩ := h
    exact slice_sound hop h0 h1 h2 h3 hg hd h
  · rename_i x i hop; exact extract_sound hop hg hd h
  · rename_i c hop
    split at h
    · rename_i b hcal; exact builtin_sound hop hcal hg hd h
    · rename_i f hcal
      split at h
      · rename_i hgl
        have : gl = [] := by simpa using hgl
        subst this
        simp only [Option.bind_eq_some_iff] at h
        obtain ⟨⟨f', cf⟩, hf, ⟨as, ca⟩, ha, h⟩ := h
        exact call_sound hokf hop hcal hf ha hg hd h
      · simp at h
    · simp at h
  · rename_i t l c hop
    refine prim_sound hg hd h ?_
    rintro a vs w rfl
    simp only [execOp, hop, PrimOp.sem, List.map_cons, List.map_nil]
  · rename_i t r hop
    refine prim_sound hg hd h ?_
    rintro a vs w rfl
    cases r <;> simp only [execOp, hop, PrimOp.sem, Option.toList, List.map_cons, List.map_nil, Option.isSome_none, Option.isSome_some, Option.map_none, Option.map_some]
  · rename_i t x i ok hop
    refine prim_sound hg hd h ?_
    rintro a vs w rfl
    simp only [execOp, hop, PrimOp.sem, List.map_cons, List.map_nil]
  · rename_i t m k x hop
    split at h
    · rename_i hdst
      exact mapUpdate_sound (by simpa using hdst) (.inl hop) hg hd h
    · simp at h
  · rename_i t m k x hop
    split at h
    · rename_i hdst
      exact mapUpdate_sound (by simpa using hdst) (.inr hop) hg hd h
    · simp at h
  · rename_i t x hop
    refine prim_sound hg hd h ?_
    rintro a vs w rfl
    simp only [execOp, hop, PrimOp.sem, List.map_cons, List.map_nil]
  · rename_i x str hop
    refine prim_sound hg hd h ?_
    rintro a vs w rfl
    simp only [execOp, hop, PrimOp.sem, List.map_cons, List.map_nil]
  · simp at h

theorem nf_sound {okf : FuncId → Bool} {rules : FuncId → Option (List Nat)} {sp : Bool} {name : Nat} {y : NF} {fp : FP} (hokf : ∀ f, okf f = true → OkFn P f)
    (h : nf P okf rules (tgtOf ops) sp name o s = some (y, fp)) : Sound P ops o s y := by
  unfold nf at h
  split at h
  · simp at h
  · rename_i hdst
    have hd : ∀ d, o.dst = some d → d < s.sz := by
      intro d hd
      simp only [hd, dstOk, Bool.not_eq_true', decide_eq_false_iff_not, Decidable.not_not] at hdst
      exact hdst
    split at h
    · simp at h
    · rename_i hg
      simp only [Option.some.injEq, Prod.mk.injEq] at h
      obtain ⟨rfl, _⟩ := h
      exact sound_skip hg hd
    · rename_i gl hg
      exact nfGo_sound hokf hg hd h
end Go.Sx
