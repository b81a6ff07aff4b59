/- A function's tree says what a call of it does. -/
import Derived.Test.YtafnobmndgjeaaaDoorSx23
namespace Go.Sx
open Go

def flatOf (P : Program) : List TypeId → List Value → Option (List Value)
  | [], [] => some []
  | T :: r, a :: as =>
    if isAggT P T then
      match a with
      | .agg cs => if cs.size = (szOf P T).getD 0 then (flatOf P r as).map (cs.toList ++ ·) else none
      | _ => none
    else (flatOf P r as).map (a :: ·)
  | _, _ => none
/-- The arguments' cells. -/
def entryArgs (P : Program) (fn : Func) (args : List Value) : Option (List Value) :=
  if fn.params.size + fn.nfree ≤ fn.ntmps then flatOf P (fn.params.toList ++ List.replicate fn.nfree 0) args else none

theorem atsFrom_den' (vs : List Value) (i m : Nat) : (atsFrom vs i m).map At.den = (List.range m).map fun j => g vs (i + j) := by
  simp [atsFrom, At.den, Function.comp_def]
theorem range_g (pre cs post : List Value) : ((List.range cs.length).map fun j => g (pre ++ (cs ++ post)) (pre.length + j)) = cs := by
  refine List.ext_getElem (by simp) fun j h1 h2 => ?_
  rw [List.getElem_map, List.getElem_range, g_append_right, g_append_left h2]
  simp [g, h2]

theorem entry_spec {P : Program} : ∀ {Ts : List TypeId} {args vs pre : List Value}, flatOf P Ts args = some vs → Ones (pre ++ vs) →
    args.length = Ts.length ∧ (entrySVs P Ts pre.length (pre ++ vs)).length = Ts.length ∧
    ∀ (t : Nat) (sv : SV) (a : Value), (entrySVs P Ts pre.length (pre ++ vs))[t]? = some sv → args[t]? = some a → sv.rel a ∧ sv.ok
  | [], [], vs, pre, h, _ => by simp [entrySVs]
  | [], _ :: _, _, _, h, _ => by simp [flatOf] at h
  | _ :: _, [], _, _, h, _ => by simp [flatOf] at h
  | T :: r, a :: as, vs, pre, h, ho => by
    simp only [flatOf] at h
    split at h
    · rename_i hA
      split at h
      · rename_i cs
        split at h
        · rename_i hsz
          simp only [Option.map_eq_some_iff] at h
          obtain ⟨vs', h1, rfl⟩ := h
          have e : pre ++ (cs.toList ++ vs') = (pre ++ cs.toList) ++ vs' := by simp
          obtain ⟨i1, i2, i3⟩ := entry_spec (pre := pre ++ cs.toList) h1 (by rw [← e]; exact ho)
          have hl : (pre ++ cs.toList).length = pre.length + (szOf P T).getD 0 := by simp [hsz]
          rw [hl, ← e] at i2 i3
          simp only [entrySVs, hA, if_true]
          refine ⟨by simp [i1], by simp [i2], fun t sv x h2 h3 => ?_⟩
          cases t with
          | zero =>
            simp only [List.getElem?_cons_zero, Option.some.injEq] at h2 h3
            subst h2; subst h3
            refine ⟨?_, ?_⟩
            · show Value.agg cs = S1.den _
              rw [S1.den, atsFrom_den', ← hsz]
              have := range_g pre cs.toList vs'
              simp only [Array.length_toList] at this
              rw [this]
            · intro b hb
              exact ok_atsFrom (vs := pre ++ (cs.toList ++ vs')) (by simp; omega) ho b hb
          | succ t => exact i3 t sv x (by simpa using h2) (by simpa using h3)
        · simp at h
      · simp at h
    · rename_i hA
      simp only [Option.map_eq_some_iff] at h
      obtain ⟨vs', h1, rfl⟩ := h
      have e : pre ++ (a :: vs') = (pre ++ [a]) ++ vs' := by simp
      obtain ⟨i1, i2, i3⟩ := entry_spec (pre := pre ++ [a]) h1 (by rw [← e]; exact ho)
      have hl : (pre ++ [a]).length = pre.length + 1 := by simp
      rw [hl, ← e] at i2 i3
      simp only [entrySVs, hA, Bool.false_eq_true, if_false]
      have hg : g (pre ++ a :: vs') pre.length = a := by
        have := g_append_right (a := pre) (b := a :: vs') (i := 0)
        rw [Nat.add_zero] at this
        rw [this]; rfl
      refine ⟨by simp [i1], by simp [i2], fun t sv x h2 h3 => ?_⟩
      cases t with
      | zero =>
        simp only [List.getElem?_cons_zero, Option.some.injEq] at h2 h3
        subst h2; subst h3
        refine ⟨?_, ?_⟩
        · show a = S1.den _
          rw [S1.den, At.den, hg]
        · intro b hb
          simp only [S1.cells, List.mem_singleton] at hb
          subst hb
          exact ho.get _ (by simp)
      | succ t => exact i3 t sv x (by simpa using h2) (by simpa using h3)

theorem entry_conc {P : Program} {fn : Func} {args vs : List Value} (ha : entryArgs P fn args = some vs) (ho : Ones vs) {F : Own} {H : Heap} {O : Own} {w : World} (hm : Models w H (O ++ F)) :
    Conc F (entrySS P fn vs) H O { tmps := args.toArray ++ Array.replicate (fn.ntmps - args.toArray.size) undef, defers := [] } w := by
  unfold entryArgs at ha
  split at ha
  · rename_i hn
    obtain ⟨h1, h2, h3⟩ := entry_spec (pre := []) ha (by simpa using ho)
    simp only [List.nil_append, List.length_nil] at h2 h3
    have hlen : args.length ≤ fn.ntmps := by rw [h1]; simpa using hn
    have key : ∀ t, ((entrySS P fn vs).tmps t).rel ((args.toArray ++ Array.replicate (fn.ntmps - args.toArray.size) undef).getD t undef) ∧ ((entrySS P fn vs).tmps t).ok := by
      intro t
      simp only [entrySS]
      rcases Nat.lt_or_ge t args.length with hlt | hge
      · have hlt2 : t < (entrySVs P (fn.params.toList ++ List.replicate fn.nfree 0) 0 vs).length := by rw [h2, ← h1]; exact hlt
        obtain ⟨r1, r2⟩ := h3 t _ args[t] (List.getElem?_eq_getElem hlt2) (List.getElem?_eq_getElem hlt)
        rw [List.getElem?_eq_getElem hlt2, Option.getD_some]
        refine ⟨?_, r2⟩
        have : (args.toArray ++ Array.replicate (fn.ntmps - args.toArray.size) undef).getD t undef = args[t] := by
          rw [Array.getD_eq_getD_getElem?, Array.getElem?_append_left (by simpa using hlt)]
          simp [hlt]
        rw [this]; exact r1
      · rw [List.getElem?_eq_none (by rw [h2, ← h1]; exact hge), Option.getD_none]
        refine ⟨?_, ok_k undef⟩
        have : (args.toArray ++ Array.replicate (fn.ntmps - args.toArray.size) undef).getD t undef = undef := by
          rw [Array.getD_eq_getD_getElem?, Array.getElem?_append_right (by simpa using hge)]
          rw [Array.getElem?_replicate]
          split <;> rfl
        rw [this]
        exact rel_of_den rfl
    refine ⟨⟨fun t => (key t).2, fun n b hb => by simp [entrySS] at hb⟩, rfl, by simp [entrySS]; omega, fun t => (key t).1, [], Boxes.none, hm⟩
  · simp at ha

def resSem (tmps : Array Value) : ResultVar → Sem Value
  | .tmp t => pure (tmps.getD t undef)
  | .cell b t => do loadVar t (← asAddr (tmps.getD b undef))
theorem results_eq (fn : Func) (tmps : Array Value) : results fn tmps = (do
    let vs ← fn.results.mapM (resSem tmps)
    pure (if h : vs.size = 1 then vs[0] else .tuple vs)) := by
  unfold results
  congr 2

theorem loadRes {P : Program} {F : Own} {s : SS} {H : Heap} {O : Own} {a : Act} {w : World} (hC : Conc F s H O a w) {x : ResultVar} {v : S1} (hx : resS1 P s x = some v) (hc : AllCk (resChk s x)) :
    (resSem a.tmps x).run P w = .ok v.den w := by
  cases x with
  | tmp t =>
    simp only [resS1] at hx
    split at hx
    · rename_i y hy
      split at hx
      · rename_i hk
        simp only [Option.some.injEq] at hx; subst hx
        have := hC.tm t
        rw [hy] at this
        rw [← rel_s_known hk this]; rfl
      · simp at hx
    · simp at hx
  | cell b T =>
    simp only [resS1] at hx
    split at hx
    · rename_i n r hat
      simp only [Option.bind_eq_some_iff] at hx
      obtain ⟨bx, hbx, hx⟩ := hx
      split at hx
      · rename_i hcond
        simp only [Bool.and_eq_true, beq_iff_eq] at hcond
        obtain ⟨hk, hsz⟩ := hcond
        have hr : r = bx.r := by
          simp only [resChk, hat, hbx] at hc
          exact hc.1
        obtain ⟨x, hx1, hx2, hx3⟩ := atOf_fit (s := s) (t := b) (by rw [hat]; rfl)
        have ht := hC.tm b
        rw [hx1] at ht
        have htv := rel_s_known (x := .at x) (by simpa [S1.known, S1.cells] using At.fit_known hx2) ht
        rw [S1.den, ← hx3, hat, At.den] at htv
        obtain ⟨vs, hvs, hrow⟩ := conc_box hC hbx
        have hvk := hvs.known hk
        have hread := cells_of_row hrow 0 (m := vs.length)
        simp only [List.drop_zero, List.take_length] at hread
        have hmk : isAggT P T = true ∨ bx.cs.length = 1 := by
          unfold mkS1 at hx
          split at hx
          · rename_i h; exact .inl h
          · split at hx
            · rename_i h; right; simp [h]
            · simp at hx
        have := run_loadVar' (P := P) (t := T) hsz.symm (a := ⟨r, 0, none⟩) (vs := vs) (by rw [hvk]; simp) (by rw [hr]; exact hread) hmk
        simp only [resSem, htv, asAddr]
        rw [Sem.run_bind]
        simp only [Sem.run_pure, Result.andThen_ok]
        rw [this]
        congr 1
        unfold mkS1 at hx
        split at hx
        · rename_i hA
          simp only [Option.some.injEq] at hx; subst hx
          simp [hA, S1.den, hvk]
        · rename_i hA
          split at hx
          · rename_i y hy
            simp only [Option.some.injEq] at hx; subst hx
            simp only [hA, Bool.false_eq_true, if_false]
            rw [hvk, hy]; simp [g, S1.den]
          · simp at hx
      · simp at hx
    · simp at hx

theorem res_list {P : Program} {F : Own} {s : SS} {H : Heap} {O : Own} {a : Act} {w : World} (hC : Conc F s H O a w) : ∀ {xs : List ResultVar} {l : List S1}, resAll P s xs = some l → AllCk (xs.flatMap (resChk s)) →
    (xs.mapM (resSem a.tmps)).run P w = .ok (l.map S1.den) w
  | [], l, h, _ => by simp only [resAll, Option.some.injEq] at h; subst h; rfl
  | x :: r, l, h, hc => by
    simp only [resAll] at h
    split at h
    · rename_i v vs h1 h2
      simp only [Option.some.injEq] at h; subst h
      rw [List.flatMap_cons, AllCk.append] at hc
      rw [List.mapM_cons, Sem.run_bind, loadRes hC h1 hc.1]
      simp only [Result.andThen_ok]
      rw [Sem.run_bind, res_list hC h2 hc.2]
      rfl
    · simp at h

theorem ret_sound {P : Program} {fn : Func} {F : Own} {s : SS} {H : Heap} {O : Own} {a : Act} {w : World} {QT : Value → Heap → Own → Prop} (hC : Conc F s H O a w) (h : (retTree P fn s).den P QT H O) :
    a.defers = [] ∧ ∃ v, (results fn a.tmps).run P w = .ok v w ∧ ∃ H' O', QT v H' O' ∧ Heap.le H H' ∧ Models w H' (O' ++ F) := by
  unfold retTree at h
  split at h
  · exact h.elim
  · rename_i l hl
    simp only [] at h
    split at h
    · rename_i hcond
      simp only [Bool.and_eq_true, List.all_eq_true] at hcond
      obtain ⟨hck, hret⟩ := chks_den h
      obtain ⟨L, hL, hmod⟩ := hC.mm
      obtain ⟨L', hp, _⟩ := take_all hL (fun p hp => liveBoxes_spec p hp) (noDup_nodup hcond.2) (fun p hp => by rw [List.all_eq_true]; exact hcond.1 p hp)
      have hm1 : Models w H (((bvs (liveBoxes s (reachSl s 50 (namesP (l.flatMap S1.cells) (namesSl (l.flatMap S1.cells) [])) []))).map BV.obj ++ O) ++ (L' ++ F)) := by
        refine hmod.perm ((hp.append_right _).trans ?_)
        rw [bvs, List.map_map, List.append_assoc, List.append_assoc]
        exact List.Perm.append_left _ (List.perm_append_comm_assoc _ _ _)
      obtain ⟨H', O', hg, hq⟩ := hret ⟨w, _, hm1⟩
      refine ⟨hC.df, _, ?_, H', O', hq, ?_⟩
      · rw [results_eq, Sem.run_bind]
        have hr := res_list hC hl hck
        rw [← Array.toArray_toList (xs := fn.results), List.mapM_toArray]
        simp only [Sem.run_map]
        rw [hr]
        rcases l with _ | ⟨v, _ | ⟨v', r⟩⟩ <;> simp
      · obtain ⟨hm2, hle⟩ := hg w _ hm1
        refine ⟨hle, hm2.sub ((List.sublist_append_right L' F).append_left O')⟩
    · exact h.elim

theorem triple_of_sx {P : Program} (hm : P.follows .mixedOrders = true) {opts : Opts} (hokf : ∀ f, opts.okf f = true → OkFn P f) {f : FuncId} {fn : Func} (hf : P.funcs[f]? = some fn)
    {args vs : List Value} (ha : entryArgs P fn args = some vs) (ho : Ones vs) {H : Heap} {O : Own} {Q : Value → Heap → Own → Prop} (h : (sxFun P fn opts vs).den P Q H O) : Triple P f args H O Q := by
  intro w F hmod
  unfold sxFun at h
  split at h
  · rename_i c hc
    refine calls_of_wp hf hc ?_
    have hC := entry_conc ha ho hmod
    refine sx_sound hm hokf c h hC ⟨fun s' H' O' a' w' hC' hle hd => ?_⟩ (fun id kx he => by simp at he) ⟨fun s' H' O' a' w' hC' hle hd => ?_⟩
    · obtain ⟨h1, v, h2, H2, O2, h3, h4, h5⟩ := ret_sound hC' hd
      exact ⟨h1, v, h2, v, H2, O2, rfl, h3, Heap.le_trans hle h4, h5⟩
    · obtain ⟨h1, v, h2, H2, O2, h3, h4, h5⟩ := ret_sound hC' hd
      exact ⟨h1, v, h2, v, H2, O2, rfl, h3, Heap.le_trans hle h4, h5⟩
  · exact h.elim
end Go.Sx
