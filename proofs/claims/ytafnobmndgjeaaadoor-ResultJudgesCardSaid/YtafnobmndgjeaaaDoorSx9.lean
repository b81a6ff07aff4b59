/- The runs of the remaining quiet operations. -/
import Derived.Test.YtafnobmndgjeaaaDoorSx8
namespace Go.Sx
open Go
variable {P : Program} {ops : Array Oper} {o : Oper} {s : SS} {gl : List (At × Bool)}

theorem run_idx {t elem : TypeId} {size : Nat} (hu : P.underlying t = some (.slice elem)) (hs : szOf P elem = some size) {x i v : Value} (h : evalIdx size x i = some v) (w : World) :
    (Instr.indexAt t x i).run P w = .ok v w := by
  unfold evalIdx at h
  split at h
  · rename_i a len c k n
    split at h
    · rename_i hb
      simp only [Option.some.injEq] at h; subst h
      simp [Instr.indexAt, asIntOf, run_underlying' hu, run_sizeOf' hs, hb]
    · simp at h
  · simp at h
theorem run_pidx {t elem : TypeId} {len size : Nat} (hu : P.underlying t = some (.array len elem)) (hs : szOf P elem = some size) {x i v : Value} (h : evalPidx len size x i = some v) (w : World) :
    (Instr.indexAt t x i).run P w = .ok v w := by
  unfold evalPidx at h
  split at h
  · rename_i a k n
    split at h
    · rename_i hb
      simp only [Option.some.injEq] at h; subst h
      simp [Instr.indexAt, asIntOf, run_underlying' hu, run_sizeOf' hs, hb, Instr.sureAddr]
    · simp at h
  · simp at h
theorem run_sidx {t : TypeId} (hu : P.underlying t = some .string) {x i v : Value} (h : evalSidx x i = some v) (w : World) : (Instr.index t x i).run P w = .ok v w := by
  unfold evalSidx at h
  split at h
  · rename_i sb k n
    simp only [Option.map_eq_some_iff] at h
    obtain ⟨b, hb, rfl⟩ := h
    simp only [Instr.index, asIntOf, Sem.run_bind, Sem.run_pure, Result.andThen_ok, run_underlying' hu, hb]
  · simp at h
theorem run_aidx {t elem : TypeId} {len : Nat} {cs : List Value} (hu : P.underlying t = some (.array len elem)) (hs : szOf P elem = some 1) (hA : isAggT P elem = false) (hl : cs.length = len)
    {i v : Value} (h : evalAidx i cs = some v) (w : World) : (Instr.index t (.agg cs.toArray) i).run P w = .ok v w := by
  unfold evalAidx at h
  split at h
  · rename_i k n
    split at h
    · rename_i hb
      rw [hl] at hb
      simp only [Instr.index, asIntOf, Sem.run_bind, Sem.run_pure, Result.andThen_ok, run_underlying' hu, if_pos hb, run_sizeOf' hs, part, run_isAgg' hs, hA, Nat.mul_one]
      have : cs.toArray[n.toNat]? = some v := by simpa using h
      simp [this]
    · simp at h
  · simp at h
theorem run_len {t ty e : TypeId} {x v : Value} (hu : P.underlying t = some (.slice e)) (h : evalPure .len [x] = some v) (w : World) :
    (Builtin.len_ #[t] ty #[x]).run P w = .ok v w := by
  cases x <;> simp [evalPure] at h
  subst h
  simp [Builtin.len_, run_underlying' hu]
theorem run_slen {t ty : TypeId} {x v : Value} (hu : P.underlying t = some .string) (h : evalPure .slen [x] = some v) (w : World) :
    (Builtin.len_ #[t] ty #[x]).run P w = .ok v w := by
  cases x <;> simp [evalPure] at h
  subst h
  simp [Builtin.len_, run_underlying' hu]
theorem run_alen {t ty e : TypeId} {n : Nat} {x : Value} (hu : P.underlying t = some (.array n e)) (w : World) :
    (Builtin.len_ #[t] ty #[x]).run P w = .ok (goInt n) w := by
  simp [Builtin.len_, run_underlying' hu]
theorem run_cap {t ty e : TypeId} {x v : Value} (hu : P.underlying t = some (.slice e)) (h : evalPure .cap [x] = some v) (w : World) :
    (Builtin.cap_ #[t] ty #[x]).run P w = .ok v w := by
  cases x <;> simp [evalPure] at h
  subst h
  simp [Builtin.cap_, run_underlying' hu]
theorem bound_run {v : Value} {y n : Nat} (h : boundI v y = some n) (code : BoundsCode) (w : World) : (Instr.sliceBound v y code).run P w = .ok n w := by
  unfold boundI asI at h
  cases v <;> simp at h
  rename_i k i
  obtain ⟨hb, rfl⟩ := h
  simp [Instr.sliceBound, asIntOf, hb]
theorem bounds_run {isSlice : Bool} {len cap l h m : Nat} {lo hi mx : Option Value} (hb : slcBounds len cap lo hi mx = some (l, h, m)) (w : World) :
    (Instr.sliceBounds isSlice len cap lo hi mx).run P w = .ok (l, h, m) w := by
  unfold slcBounds at hb
  simp only [Option.bind_eq_some_iff, Option.some.injEq, Prod.mk.injEq] at hb
  obtain ⟨m', hm, h', hh, l', hl, rfl, rfl, rfl⟩ := hb
  cases mx with
  | none =>
    simp only [boundOr, Option.some.injEq] at hm; subst hm
    cases hi with
    | none =>
      simp only [boundHi, Option.isSome_none, Bool.false_eq_true, if_false, Option.some.injEq] at hh; subst hh
      cases lo with
      | none => simp only [boundOr, Option.some.injEq] at hl; subst hl; rfl
      | some v => simp only [boundOr] at hl; simp [Instr.sliceBounds, bound_run hl]
    | some u =>
      simp only [boundHi] at hh
      cases lo with
      | none => simp only [boundOr, Option.some.injEq] at hl; subst hl; simp [Instr.sliceBounds, bound_run hh]
      | some v => simp only [boundOr] at hl; simp [Instr.sliceBounds, bound_run hh, bound_run hl]
  | some x =>
    simp only [boundOr] at hm
    cases hi with
    | none => simp [boundHi] at hh
    | some u =>
      simp only [boundHi] at hh
      cases lo with
      | none => simp only [boundOr, Option.some.injEq] at hl; subst hl; simp [Instr.sliceBounds, bound_run hm, bound_run hh]
      | some v => simp only [boundOr] at hl; simp [Instr.sliceBounds, bound_run hm, bound_run hh, bound_run hl]
theorem run_slc {t elem : TypeId} {size : Nat} (hu : P.underlying t = some (.slice elem)) (hs : szOf P elem = some size) {x v : Value} {lo hi mx : Option Value} (h : evalSlc size x lo hi mx = some v) (w : World) :
    (Instr.sliceAt t x lo hi mx).run P w = .ok v w := by
  unfold evalSlc at h
  split at h
  · rename_i a len c
    simp only [Option.map_eq_some_iff] at h
    obtain ⟨⟨l, hh, m⟩, hb, rfl⟩ := h
    simp only [Instr.sliceAt, Sem.run_bind, run_underlying' hu, Result.andThen_ok, Instr.slice, bounds_run hb, run_sizeOf' hs]
    rfl
  · simp at h
theorem run_sslc {t : TypeId} (hu : P.underlying t = some .string) {x v : Value} {lo hi : Option Value} (h : evalSslc x lo hi = some v) (w : World) :
    (Instr.sliceAt t x lo hi none).run P w = .ok v w := by
  unfold evalSslc at h
  split at h
  · rename_i sb
    simp only [Option.map_eq_some_iff] at h
    obtain ⟨⟨l, hh, m⟩, hb, rfl⟩ := h
    simp only [Instr.sliceAt, Sem.run_bind, run_underlying' hu, Result.andThen_ok, Instr.slice, Option.isSome_none, Bool.false_eq_true, if_false, bounds_run hb, Sem.run_pure]
  · simp at h
theorem run_slarr {t elem : TypeId} {n size l h m : Nat} (hu : P.underlying t = some (.array n elem)) (hs : szOf P elem = some size) {r off : Nat} {lo hi mx : Option Value}
    (hb : slcBounds n n lo hi mx = some (l, h, m)) (w : World) :
    (Instr.sliceAt t (.pointer (some ⟨r, off, none⟩)) lo hi mx).run P w = .ok (.slice (some (if m = l then ⟨r, off, none⟩ else ⟨r, off + l * size, none⟩)) (h - l) (m - l)) w := by
  simp only [Instr.sliceAt, Sem.run_bind, run_underlying' hu, Result.andThen_ok, Instr.sureAddr, Sem.run_pure, bounds_run hb, run_sizeOf' hs, add_none]

theorem fieldOf_spec {t : TypeId} {f : Nat} {fd : Field} (h : fieldOf P t f = some fd) : ∃ fs, P.underlying t = some (.struct fs) ∧ fs[f]? = some fd := by
  unfold fieldOf at h
  split at h
  · rename_i fs e; exact ⟨fs, e, h⟩
  · simp at h
theorem run_fieldAt {t : TypeId} {f : Nat} {fd : Field} {m : Nat} (hf : fieldOf P t f = some fd) (hs : szOf P fd.type = some m) (hm : m ≠ 0) (a : Addr) (w : World) :
    (Instr.fieldAt t (.pointer (some a)) f).run P w = .ok (.pointer (some (a.add fd.offset))) w := by
  obtain ⟨fs, hu, hfd⟩ := fieldOf_spec hf
  simp [Instr.fieldAt, run_underlying' hu, hfd, Instr.sureAddr, fieldPlace, run_sizeOf' hs, hm]

theorem extract_map (cs : List At) (off m : Nat) : ((cs.map At.den).toArray.extract off (off + m)) = (((cs.drop off).take m).map At.den).toArray := by
  apply Array.ext'
  simp [List.map_take, List.map_drop]
theorem run_part {t : TypeId} {m : Nat} {cs : List At} {off : Nat} {v : S1} (h : partS1 P t cs off = some v) (w : World) (_hm : szOf P t = some m) :
    (part t (cs.map At.den).toArray off).run P w = .ok v.den w := by
  unfold partS1 at h
  rw [_hm] at h
  simp only [Option.bind_some] at h
  split at h
  · rename_i hl
    unfold mkS1 at h
    unfold part
    rw [Sem.run_bind, run_isAgg' _hm, Result.andThen_ok]
    split at h
    · rename_i hA
      simp only [Option.some.injEq] at h; subst h
      simp [hA, run_sizeOf' _hm, S1.den]
    · rename_i hA
      have hA' : isAggT P t = false := by simpa using hA
      split at h
      · rename_i a he
        simp only [Option.some.injEq] at h; subst h
        have hget : cs[off]? = some a := by
          have : (List.take m (cs.drop off))[0]? = some a := by rw [he]; rfl
          have h0 : 0 < m := by rw [he] at hl; simp at hl; omega
          simpa [List.getElem?_take, h0] using this
        simp [hA', hget, S1.den]
      · simp at h
  · simp at h
theorem partS1_size {t : TypeId} {cs : List At} {off : Nat} {v : S1} (h : partS1 P t cs off = some v) : ∃ m, szOf P t = some m := by
  unfold partS1 at h
  cases hm : szOf P t with
  | none => simp [hm] at h
  | some m => exact ⟨m, rfl⟩
theorem partS1_mem {t : TypeId} {cs : List At} {off : Nat} {v : S1} (h : partS1 P t cs off = some v) : ∀ a, a ∈ v.cells → a ∈ cs := by
  unfold partS1 at h
  cases hm : szOf P t with
  | none => simp [hm] at h
  | some m =>
    simp only [hm, Option.bind_some] at h
    split at h
    · unfold mkS1 at h
      split at h
      · simp only [Option.some.injEq] at h; subst h
        intro a ha; exact List.mem_of_mem_drop (List.mem_of_mem_take ha)
      · split at h
        · rename_i a he
          simp only [Option.some.injEq] at h; subst h
          intro b hb; simp [S1.cells] at hb; subst hb
          have : b ∈ (cs.drop off).take m := by rw [he]; simp
          exact List.mem_of_mem_drop (List.mem_of_mem_take this)
        · simp at h
    · simp at h

theorem cells_den {v : S1} (hf : v.cells.all At.fit = true) (ho : v.ok) : v.den.cells = (v.cells.map At.den).toArray := by
  rcases v with a | l
  · have h1 : a.den.oneCell' = true := At.fit_one (by simpa [S1.cells] using hf) (ho a (by simp [S1.cells]))
    simp only [S1.den, S1.cells, List.map_cons, List.map_nil]
    cases hd : a.den <;> simp_all [Value.cells, Value.oneCell']
  · rfl
/-- the parts of a composite value -/
theorem foldl_set (vs : List Value) : ∀ (off : Nat) (cells : List Value), off + vs.length ≤ cells.length →
    (vs.zipIdx.foldl (fun (cs : Array Value) (p : Value × Nat) => cs.setIfInBounds (off + p.2) p.1) cells.toArray) = (cells.take off ++ vs ++ cells.drop (off + vs.length)).toArray := by
  have gen : ∀ (vs : List Value) (k off : Nat) (cells : List Value), off + k + vs.length ≤ cells.length →
      ((vs.zipIdx k).foldl (fun (cs : Array Value) (p : Value × Nat) => cs.setIfInBounds (off + p.2) p.1) cells.toArray) = (cells.take (off + k) ++ vs ++ cells.drop (off + k + vs.length)).toArray := by
    intro vs
    induction vs with
    | nil => intro k off cells _; simp
    | cons v r ih =>
      intro k off cells h
      simp only [List.length_cons] at h
      simp only [List.zipIdx_cons, List.foldl_cons, List.setIfInBounds_toArray]
      have hlen : (cells.set (off + k) v).length = cells.length := by simp
      have := ih (k + 1) off (cells.set (off + k) v) (by simp; omega)
      rw [this]
      congr 1
      have e1 : (cells.set (off + k) v).take (off + (k + 1)) = cells.take (off + k) ++ [v] := by
        apply List.ext_getElem?
        intro i
        by_cases hi : i < off + k
        · rw [List.getElem?_take, if_pos (by omega), List.getElem?_set_ne (by omega), List.getElem?_append_left (by simp; omega), List.getElem?_take, if_pos hi]
        · by_cases he : i = off + k
          · subst he
            rw [List.getElem?_take, if_pos (by omega), List.getElem?_set_self (by omega), List.getElem?_append_right (by simp; omega)]
            have : off + k - (cells.take (off + k)).length = 0 := by simp; omega
            rw [this]; rfl
          · rw [List.getElem?_take, if_neg (by omega), List.getElem?_eq_none (by simp; omega)]
      have e2 : (cells.set (off + k) v).drop (off + (k + 1) + r.length) = cells.drop (off + k + (r.length + 1)) := by
        rw [List.drop_set_of_lt (by omega)]; congr 1; omega
      rw [e1, e2]; simp
  intro off cells h
  simpa using gen vs 0 off cells (by simpa using h)

theorem fill_run {F : Own} {H : Heap} {O : Own} {a : Act} {w : World} (hc : Conc F s H O a w) {place : Nat → Option (Nat × Nat)} (hon : On (gden gl)) :
    ∀ {parts : List (Nat × Operand)} {cells out : List At} {cs : List Ck}, fillParts s gl place parts cells = some (out, cs) → AllCk cs →
      Instr.fill place (cells.map At.den).toArray (parts.map fun p => (p.1, a.eval p.2)) = some (out.map At.den).toArray
  | [], cells, out, cs, h, _ => by simp only [fillParts, Option.some.injEq, Prod.mk.injEq] at h; rw [← h.1]; rfl
  | (i, x) :: r, cells, out, cs, h, hcs => by
    simp only [fillParts] at h
    split at h
    · rename_i off size v c hp hx
      split at h
      · rename_i hcond
        simp only [Bool.and_eq_true, decide_eq_true_eq] at hcond
        obtain ⟨hcond, hfit⟩ := hcond
        simp only [Option.map_eq_some_iff] at h
        obtain ⟨⟨cs', c'⟩, hr, he⟩ := h
        simp only [Prod.mk.injEq] at he
        obtain ⟨rfl, rfl⟩ := he
        rw [AllCk.append] at hcs
        have hv := opS1_den hc hx hcs.1 hon
        have hcells : v.den.cells = (v.cells.map At.den).toArray := by
          have hok := opS1_ok hc.ok hx
          exact cells_den hfit hok
        simp only [List.map_cons, Instr.fill, hp, hv, hcells]
        have hsz : (v.cells.map At.den).toArray.size = size := by simp [hcond.1]
        have : (decide ((v.cells.map At.den).toArray.size ≠ size) || decide (off + (v.cells.map At.den).toArray.size > (cells.map At.den).toArray.size)) = false := by
          simp only [List.size_toArray, List.length_map, Bool.or_eq_false_iff, decide_eq_false_iff_not]; omega
        rw [this]
        simp only [Bool.false_eq_true, if_false]
        have hf := foldl_set (v.cells.map At.den) off (cells.map At.den) (by simp; omega)
        have hz : ((v.cells.map At.den).toArray.zipIdx).foldl (fun (cs : Array Value) (p : Value × Nat) => cs.setIfInBounds (off + p.2) p.1) (cells.map At.den).toArray = ((fillAt cells off v.cells).map At.den).toArray := by
          rw [← Array.foldl_toList, Array.toList_zipIdx, List.toList_toArray, hf]
          simp [fillAt, List.map_take, List.map_drop]
        rw [hz]
        exact fill_run hc hon hr hcs.2
      · simp at h
    · simp at h
end Go.Sx
