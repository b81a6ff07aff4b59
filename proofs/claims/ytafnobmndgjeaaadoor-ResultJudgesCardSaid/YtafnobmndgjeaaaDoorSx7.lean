/- The quiet operations, one by one. -/
import Derived.Test.YtafnobmndgjeaaaDoorSx6
import Derived.Laws.Slices
namespace Go.Sx
open Go

theorem run_underlying' {P : Program} {t : TypeId} {d : TypeDesc} (h : P.underlying t = some d) (w : World) : (underlying t).run P w = .ok d w := by
  simp [underlying, h]
theorem szOf_info {P : Program} {t : TypeId} {m : Nat} (h : szOf P t = some m) : ∃ i d, P.info? t = some i ∧ i.size = m ∧ P.underlying t = some d := by
  unfold szOf at h
  split at h
  · rename_i i d h1 h2; exact ⟨i, d, h1, by simpa using h, h2⟩
  · simp at h
theorem run_sizeOf' {P : Program} {t : TypeId} {m : Nat} (h : szOf P t = some m) (w : World) : (sizeOf t).run P w = .ok m w := by
  obtain ⟨i, d, hi, hs, _⟩ := szOf_info h
  simp [sizeOf, typeInfo, hi, hs]
theorem run_isAgg' {P : Program} {t : TypeId} {m : Nat} (h : szOf P t = some m) (w : World) : (isAgg t).run P w = .ok (isAggT P t) w := by
  obtain ⟨i, d, _, _, hu⟩ := szOf_info h
  unfold isAgg isAggT
  rw [Sem.run_bind, run_underlying' hu w, hu]
  cases d <;> rfl

/-- a variable is read, cell by cell -/
theorem run_loadVar' {P : Program} {t : TypeId} {m : Nat} (hs : szOf P t = some m) {w : World} {a : Addr} {vs : List Value} (hl : vs.length = m)
    (hc : ∀ j v, vs[j]? = some v → w.cell? (a.add j) = some v) (h1 : isAggT P t = true ∨ m = 1) :
    (loadVar t a).run P w = .ok (if isAggT P t then .agg vs.toArray else g vs 0) w := by
  unfold loadVar
  rw [Sem.run_bind, run_isAgg' hs w]
  simp only [Result.andThen_ok]
  cases hA : isAggT P t with
  | true =>
    have hl' := run_loadCells_list (P := P) w a vs hc
    rw [hl] at hl'
    simp [Sem.run_bind, run_sizeOf' hs w, hl']
  | false =>
    have hm : m = 1 := h1.resolve_left (by simp [hA])
    match vs, hl with
    | [v], _ =>
      have := hc 0 v rfl
      have h0 : a.add 0 = a := by simp [Addr.add]
      rw [h0] at this
      simp [run_load, this, g]
    | [], hl => simp [hm] at hl
    | _ :: _ :: _, hl => simp [hm] at hl

theorem conc_box {F : Own} {s : SS} {H : Heap} {O : Own} {a : Act} {w : World} (h : Conc F s H O a w) {n : Nat} {b : Bx} (hb : s.mem n = some b) :
    ∃ vs, CellsRel b.cs vs ∧ w.heap[b.r]? = some (.cells vs.toArray b.T (0, 0)) := by
  obtain ⟨L, hL, hm⟩ := h.mm
  obtain ⟨vs, L', hv, hp, _⟩ := hL.take hb
  refine ⟨vs, hv, ?_⟩
  have := (hm.perm (hp.append_right _)).own (b.r, .cells vs.toArray b.T (0, 0)) (by simp)
  exact this.1

theorem add_none (r off j : Nat) : (⟨r, off, none⟩ : Addr).add j = ⟨r, off + j, none⟩ := by
  unfold Addr.add; split <;> simp_all
theorem add_add (a : Addr) (i j : Nat) : (a.add i).add j = a.add (i + j) := by
  cases a
  by_cases hi : i = 0 <;> by_cases hj : j = 0 <;> simp [Addr.add, hi, hj, Nat.add_assoc]

theorem cells_of_row {w : World} {r : Nat} {vs : List Value} {T : TypeId} (h : w.heap[r]? = some (.cells vs.toArray T (0, 0))) (off : Nat) {m : Nat} :
    ∀ j v, ((vs.drop off).take m)[j]? = some v → w.cell? ((⟨r, off, none⟩ : Addr).add j) = some v := by
  intro j v hv
  rw [add_none, cell_of_row w r (off + j) _ T _ h]
  rw [List.getElem?_take] at hv
  split at hv
  · rw [List.getElem?_drop] at hv; simpa using hv
  · simp at hv

theorem mapM_get {α β : Type} {f : α → Option β} : ∀ {l : List α} {r : List β}, l.mapM f = some r → ∀ (j : Nat) (v : β), r[j]? = some v → ∃ a, l[j]? = some a ∧ f a = some v
  | [], r, h, j, v, hv => by simp at h; subst h; simp at hv
  | a :: l, r, h, j, v, hv => by
    simp only [List.mapM_cons, Option.pure_def, Option.bind_eq_bind] at h
    cases ha : f a with
    | none => simp [ha] at h
    | some b =>
      simp only [ha, Option.bind_some] at h
      cases hl : l.mapM f with
      | none => simp [hl] at h
      | some bs =>
        simp only [hl, Option.bind_some, Option.some.injEq] at h
        subst h
        cases j with
        | zero => simp at hv; subst hv; exact ⟨a, rfl, ha⟩
        | succ j => simpa using mapM_get hl j v (by simpa using hv)
theorem reads_cells {w : World} {H : Heap} {O L : Own} {p : Value} {m : Nat} {vs : List Value} (h : Reads H O p m vs) (hm : Models w H L) (hs : ∀ x, x ∈ O → x ∈ L) (h0 : 0 < m) :
    ∃ a, p = .pointer (some a) ∧ ∀ j v, vs[j]? = some v → w.cell? (a.add j) = some v := by
  rcases h with h | ⟨a, cs, T, rfl, hsp, hin, hv, _⟩
  · unfold Heap.read at h
    split at h
    · rename_i a
      refine ⟨a, rfl, fun j v hv => ?_⟩
      obtain ⟨i, hi, hc⟩ := mapM_get h j v hv
      have : i = j := by
        rw [List.getElem?_eq_some_iff] at hi
        obtain ⟨_, hi⟩ := hi
        simpa using hi.symm
      subst this
      exact hm.cell? hc
    · simp at h
  · refine ⟨a, rfl, fun j v hj => ?_⟩
    have hrow := (hm.own _ (hs _ hin)).1
    rw [← hv] at hj
    have ha : a = ⟨a.block, a.off, none⟩ := by cases a; simp_all
    rw [ha]
    have := cells_of_row (vs := cs.toList) (T := T) (by simpa using hrow) a.off (m := m) j v hj
    exact this

theorem atsFrom_den {vs : List Value} {m : Nat} (h : vs.length = m) : (atsFrom vs 0 m).map At.den = vs := by
  have := (CellsRel.atsFrom h).known (by simp [atsFrom, At.known])
  exact this.symm
theorem Ones.get : ∀ {vs : List Value}, Ones vs → ∀ i, i < vs.length → (g vs i).oneCell' = true
  | [], _, i, h => by simp at h
  | v :: _, h, 0, _ => h.1
  | _ :: r, h, i + 1, hi => by simpa [g] using Ones.get (vs := r) h.2 i (by simpa using hi)
theorem ok_atsFrom {vs : List Value} {i m : Nat} (h : i + m ≤ vs.length) (ho : Ones vs) : ∀ a, a ∈ atsFrom vs i m → a.ok := by
  intro a ha
  simp only [atsFrom, List.mem_map, List.mem_range] at ha
  obtain ⟨j, hj, rfl⟩ := ha
  exact ho.get _ (by omega)

variable {P : Program} {ops : Array Oper} {o : Oper} {s : SS} {gl : List (At × Bool)}

theorem loadNF_sound {t : TypeId} {x : Operand} {y : At} {cs : List Ck} {nfp : NF × FP} (ho : o.op = .load t x) (hx : opAt s gl x = some (y, cs))
    (hg : guardOf (tgtOf ops) s o = .go gl) (hd : ∀ d, o.dst = some d → d < s.sz) (h : loadNF P s gl o.dst t y cs = some nfp) : Sound P ops o s nfp.1 := by
  unfold loadNF at h
  cases hm : szOf P t with
  | none => simp [hm] at h
  | some m =>
    simp only [hm, Option.bind_some] at h
    have far : (isAggT P t = true ∨ m = 1) → Sound P ops o s (.fl cs (.load (gden gl) y.den m) (fun vs => mkSV gl (if isAggT P t then .agg (atsFrom vs 0 m) else .at (.v (g vs 0))))) := by
      intro h1
      refine sound_quiet (X := fun vs => if isAggT P t then .agg (atsFrom vs 0 m) else .at (.v (g vs 0))) hg hd ?_ ?_
      · intro H O vs _ _ ⟨hl, hone, _⟩
        split
        · exact ok_atsFrom (by omega) hone
        · rename_i hA
          have : m = 1 := h1.resolve_left hA
          exact ok_at (hone.get 0 (by omega))
      · intro F H O a w vs hc hcs ⟨hl, hone, hr⟩ hon
        have he := opAt_den hc hx hcs hon
        have hr := hr hon
        by_cases h0 : m = 0
        · have hA : isAggT P t = true := h1.resolve_right (by omega)
          obtain ⟨b, hb⟩ : ∃ b, y.den = .pointer (some b) := by
            rcases hr with hr | ⟨b, _, _, hb, _⟩
            · unfold Heap.read at hr; split at hr
              · rename_i b hb; exact ⟨b, hb⟩
              · simp at hr
            · exact ⟨b, hb⟩
          have hv : vs = [] := List.eq_nil_of_length_eq_zero (by omega)
          subst hv
          have := run_loadVar' (P := P) hm (w := w) (a := b) (vs := []) (by simpa using h0.symm) (by simp) (.inl hA)
          simp only [execOp, ho, he, hb, Instr.loadAt, Instr.sureAddr, Sem.run_bind, Sem.run_pure, Result.andThen_ok, this, hA, if_true]
          simp [S1.den, atsFrom, h0]
        · obtain ⟨L, hL, hmod⟩ := hc.mm
          obtain ⟨b, hb, hcell⟩ := reads_cells hr hmod (fun x hx => by simp [hx]) (by omega)
          have := run_loadVar' (P := P) hm (w := w) (a := b) (vs := vs) hl hcell h1
          simp only [execOp, ho, he, hb, Instr.loadAt, Instr.sureAddr, Sem.run_bind, Sem.run_pure, Result.andThen_ok, this]
          cases hA : isAggT P t with
          | true => simp [S1.den, atsFrom_den hl]
          | false => simp [S1.den, At.den]
    have near : ∀ {n r off : Nat} {b : Bx} {v : S1}, y = .p n r off → s.mem n = some b → ((b.cs.drop off).take m).length = m → ((b.cs.drop off).take m).all At.known = true →
        mkS1 P t ((b.cs.drop off).take m) = some v → Sound P ops o s (.fl (.eqN r b.r :: cs) .sil (fun _ => mkSV gl v)) := by
      intro n r off b v hy hb hlen hk hv
      refine sound_quiet (X := fun _ => v) hg hd ?_ ?_
      · intro H O vs hok _ _ a ha
        have : ∀ a, a ∈ v.cells → a ∈ b.cs := by
          intro a ha
          unfold mkS1 at hv
          split at hv
          · simp only [Option.some.injEq] at hv; subst hv; exact List.mem_of_mem_drop (List.mem_of_mem_take ha)
          · split at hv
            · rename_i a' he; simp only [Option.some.injEq] at hv; subst hv
              simp [S1.cells] at ha; subst ha
              have : a ∈ (b.cs.drop off).take m := by rw [he]; simp
              exact List.mem_of_mem_drop (List.mem_of_mem_take this)
            · simp at hv
        exact hok.2 n b hb a (this a ha)
      · intro F H O a w vs hc hcs _ hon
        have he := opAt_den hc hx hcs.2 hon
        have hr : r = b.r := hcs.1
        obtain ⟨us, hus, hrow⟩ := conc_box hc hb
        have hcells := ((hus.drop off).take m).known hk
        have hlen' : ((us.drop off).take m).length = m := by rw [hcells]; simpa using hlen
        have h1 : isAggT P t = true ∨ m = 1 := by
          unfold mkS1 at hv
          split at hv
          · rename_i hA; exact .inl hA
          · split at hv
            · rename_i a' he'; rw [he'] at hlen; exact .inr (by simpa using hlen.symm)
            · simp at hv
        have := run_loadVar' (P := P) hm (w := w) (a := ⟨b.r, off, none⟩) hlen' (cells_of_row hrow off) h1
        simp only [execOp, ho, he, hy, At.den, hr, Instr.loadAt, Instr.sureAddr, Sem.run_bind, Sem.run_pure, Result.andThen_ok, this]
        rw [hcells]
        unfold mkS1 at hv
        split at hv
        · rename_i hA; simp only [Option.some.injEq] at hv; subst hv; simp [hA, S1.den]
        · rename_i hA
          split at hv
          · rename_i a' he'; simp only [Option.some.injEq] at hv; subst hv
            have hA' : isAggT P t = false := by simpa using hA
            rw [he']; simp [hA', S1.den, g]
          · simp at hv
    split at h
    · rename_i n r off
      split at h
      · rename_i b hb
        split at h
        · rename_i hcond
          simp only [Bool.and_eq_true, decide_eq_true_eq] at hcond
          simp only [Option.map_eq_some_iff] at h
          obtain ⟨v, hv, rfl⟩ := h
          exact near rfl hb hcond.1 hcond.2 hv
        · simp at h
      · split at h
        · simp at h
        · rename_i hcond
          simp only [Option.some.injEq] at h; subst h
          refine far ?_
          simp only [Bool.and_eq_true, Bool.not_eq_true', bne_iff_ne, ne_eq, not_and, Decidable.not_not] at hcond
          cases hA : isAggT P t with
          | true => exact .inl rfl
          | false => exact .inr (hcond hA)
    all_goals first
      | (simp at h; done)
      | (split at h
         · simp at h
         · rename_i hcond
           simp only [Option.some.injEq] at h; subst h
           refine far ?_
           simp only [Bool.and_eq_true, Bool.not_eq_true', bne_iff_ne, ne_eq, not_and, Decidable.not_not] at hcond
           cases hA : isAggT P t with
           | true => exact .inl rfl
           | false => exact .inr (hcond hA))
end Go.Sx
