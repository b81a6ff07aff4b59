/- Data in memory: arrays, slices; strings as lists of bytes; calls that freeze blocks. -/
import Derived.Test.YtafnobmndgjeaaaDoorSx25
import Derived.Lib.Bytealg
import Derived.Laws.Strings
namespace Go.Sx
open Go

/-- Rows of cells in memory, one behind the other. -/
def Arr (H : Heap) (size : Nat) (a : Addr) (rows : List (List Value)) : Prop :=
  ∀ i r, rows[i]? = some r → H.read (.pointer (some (a.add (i * size)))) size = some r ∧ r.length = size ∧ Ones r
theorem Arr.le {H H' : Heap} (hl : Heap.le H H') {size : Nat} {a : Addr} {rows : List (List Value)} (h : Arr H size a rows) : Arr H' size a rows :=
  fun i r hr => ⟨hl.read (h i r hr).1, (h i r hr).2⟩
/-- A slice: its rows. -/
def Sl (H : Heap) (size : Nat) (s : Value) (rows : List (List Value)) : Prop :=
  ∃ a cap, s = .slice a rows.length cap ∧ rows.length ≤ cap ∧ cap < 2 ^ 63 ∧ (rows ≠ [] → ∃ ad, a = some ad ∧ Arr H size ad rows)
theorem Sl.le {H H' : Heap} (hl : Heap.le H H') {size : Nat} {s : Value} {rows : List (List Value)} (h : Sl H size s rows) : Sl H' size s rows :=
  let ⟨a, cap, h1, h2, h3, h4⟩ := h
  ⟨a, cap, h1, h2, h3, fun hn => let ⟨ad, e, hA⟩ := h4 hn; ⟨ad, e, hA.le hl⟩⟩
theorem Sl.nil (H : Heap) (size : Nat) : Sl H size (.slice none 0 0) [] := ⟨none, 0, rfl, Nat.le_refl _, by omega, fun h => absurd rfl h⟩
theorem Sl.one {H : Heap} {size : Nat} {s : Value} {rows : List (List Value)} (h : Sl H size s rows) : s.oneCell' = true := by
  obtain ⟨a, cap, rfl, _⟩ := h; rfl
theorem Sl.lenB {H : Heap} {size : Nat} {s : Value} {rows : List (List Value)} (h : Sl H size s rows) : rows.length < 2 ^ 63 := by
  obtain ⟨a, cap, rfl, h1, h2, _⟩ := h; omega
theorem Sl.len {H : Heap} {size : Nat} {s : Value} {rows : List (List Value)} (h : Sl H size s rows) : evalPure .len [s] = some (.int .i64 rows.length) := by
  obtain ⟨a, cap, rfl, _⟩ := h; rfl
theorem Sl.idx {H : Heap} {size : Nat} {s : Value} {rows : List (List Value)} (h : Sl H size s rows) {k : IntKind} {i : Nat} {r : List Value} (hr : rows[i]? = some r) :
    ∃ a, evalPure (.idx size) [s, .int k i] = some (.pointer (some a)) ∧ H.read (.pointer (some a)) size = some r ∧ r.length = size ∧ Ones r := by
  obtain ⟨a, cap, rfl, _, _, h4⟩ := h
  have hlt : i < rows.length := (List.getElem?_eq_some_iff.1 hr).1
  obtain ⟨ad, rfl, hA⟩ := h4 (by intro e; simp [e] at hlt)
  refine ⟨ad.add (i * size), ?_, hA i r hr⟩
  simp only [evalPure, evalIdx]
  rw [if_pos ⟨by omega, by omega⟩]
  simp
theorem Arr.pidx {H : Heap} {size : Nat} {a : Addr} {rows : List (List Value)} (h : Arr H size a rows) {k : IntKind} {n i : Nat} (hn : n = rows.length) {r : List Value} (hr : rows[i]? = some r) :
    ∃ b, evalPure (.pidx n size) [.pointer (some a), .int k i] = some (.pointer (some b)) ∧ H.read (.pointer (some b)) size = some r ∧ r.length = size ∧ Ones r := by
  subst hn
  have hlt : i < rows.length := (List.getElem?_eq_some_iff.1 hr).1
  refine ⟨a.add (i * size), ?_, h i r hr⟩
  simp only [evalPure, evalPidx]
  rw [if_pos ⟨by omega, by omega⟩]
  simp

/-- Fields: a part of a row. -/
theorem read_part {H : Heap} {a : Addr} : ∀ {size : Nat} {r : List Value}, H.read (.pointer (some a)) size = some r → ∀ off m, off + m ≤ size → H.read (ptrAdd (.pointer (some a)) off) m = some ((r.drop off).take m) := by
  intro size r h off m hle
  simp only [Heap.read] at h
  have hlen : ∀ {α β : Type} {f : α → Option β} {l : List α} {r : List β}, l.mapM f = some r → r.length = l.length := by
    intro α β f l
    induction l with
    | nil => intro r h; simp at h; subst h; rfl
    | cons a l ih =>
      intro r h
      simp only [List.mapM_cons, Option.pure_def, Option.bind_eq_bind] at h
      cases ha : f a with
      | none => simp [ha] at h
      | some b =>
        simp only [ha, Option.bind_some] at h
        cases hl : l.mapM f with
        | none => simp [hl] at h
        | some bs => simp only [hl, Option.bind_some, Option.some.injEq] at h; subst h; simp [ih hl]
  have hget := mapM_get h
  have hl := hlen h
  simp only [List.length_range] at hl
  show (List.range m).mapM (fun i => H.cell? ((a.add off).add i)) = _
  have key : ∀ (n i : Nat), i + n = m → (List.range' i n).mapM (fun i => H.cell? ((a.add off).add i)) = some (((r.drop off).drop i).take n) := by
    intro n
    induction n with
    | zero => intro i _; simp
    | succ n ih =>
      intro i hi
      have hlt : off + i < r.length := by omega
      have hc : H.cell? ((a.add off).add i) = some r[off + i] := by
        obtain ⟨j, hj, hc⟩ := hget (off + i) r[off + i] (List.getElem?_eq_getElem hlt)
        have : off + i = j := by
          rw [List.getElem?_eq_some_iff] at hj
          obtain ⟨_, hj⟩ := hj
          simpa using hj
        subst this
        rw [add_add]; exact hc
      rw [List.range'_succ, List.mapM_cons, hc, ih (i + 1) (by omega)]
      simp only [Option.pure_def, Option.bind_eq_bind, Option.bind_some]
      congr 1
      rw [show (r.drop off).drop i = r[off + i] :: (r.drop off).drop (i + 1) by
        rw [List.drop_drop, List.drop_drop, List.drop_eq_getElem_cons hlt]; rfl]
      rfl
  rw [List.range_eq_range']
  simpa using key m 0 (by omega)

theorem insAll_get : ∀ {l : List BV} {H : Heap} {X : Own}, Cons H (l.map BV.obj ++ X) → ∀ b ∈ l, (H.insAll l) b.r = some b.obj.2
  | [], _, _, _, b, h => by simp at h
  | c :: l, H, X, hc, b, hb => by
    obtain ⟨w, F, hm⟩ := hc
    simp only [List.map_cons, List.cons_append] at hm
    have hf : Models w (H.ins c.r c.obj.2) (l.map BV.obj ++ X ++ F) := Models.freeze hm
    simp only [Heap.insAll]
    rcases List.mem_cons.1 hb with rfl | hb
    · refine (Heap.le_insAll l _).1 b.r _ ?_
      have := (hm.own (b.obj) (by simp)).2
      simp only [Heap.ins, show H b.r = none from this, if_true]
    · exact insAll_get (X := X) ⟨w, F, hf⟩ b hb
theorem call_givesF {P : Program} {f : FuncId} {args : List Value} {H : Heap} {O : Own} {S : Value → Heap → Prop} {d : Bool} {frz : List BV} {shp : Shp} {K : List Value → List (List Value) → Heap → Own → Prop}
    (h : ∀ Hf, Heap.le H Hf → (∀ b ∈ frz, Hf b.r = some b.obj.2) → Gives P f args Hf S ∧ ∀ v H', S v H' → Heap.le Hf H' → ∃ vs, shp.open v = some vs ∧ Ones vs ∧ K vs [] H' O) :
    CallD (fun H1 O1 R => Triple P f args H1 O1 R) d frz [] shp K H O := by
  intro hc
  obtain ⟨h1, h2⟩ := h (H.insAll frz) (Heap.le_insAll frz H) (insAll_get hc)
  refine ⟨H.insAll frz, [], O, _, ?_, h1, fun v H' O' hq hle => ?_⟩
  · cases d
    · exact Ghost.refl _ _
    · exact ⟨rfl, rfl, rfl⟩
  · obtain ⟨hs, rfl⟩ := hq
    obtain ⟨vs, h3, h4, h5⟩ := h2 v H' hs hle
    exact ⟨vs, [], [], h3, h4, trivial, rfl, h5⟩

/-- A block as rows of one cell. -/
theorem read_block {H : Heap} {r : Nat} {cs : List Value} {T : TypeId} (h : H r = some (.cells cs.toArray T (0, 0))) {off m : Nat} (hle : off + m ≤ cs.length) :
    H.read (.pointer (some ⟨r, off, none⟩)) m = some ((cs.drop off).take m) := by
  simp only [Heap.read]
  have key : ∀ (n i : Nat), i + n = m → (List.range' i n).mapM (fun i => H.cell? ((⟨r, off, none⟩ : Addr).add i)) = some (((cs.drop off).drop i).take n) := by
    intro n
    induction n with
    | zero => intro i _; simp
    | succ n ih =>
      intro i hi
      have hlt : off + i < cs.length := by omega
      have hc : H.cell? ((⟨r, off, none⟩ : Addr).add i) = some cs[off + i] := by
        rw [add_none]
        simp [Heap.cell?, h, hlt]
      rw [List.range'_succ, List.mapM_cons, hc, ih (i + 1) (by omega)]
      simp only [Option.pure_def, Option.bind_eq_bind, Option.bind_some]
      congr 1
      rw [show (cs.drop off).drop i = cs[off + i] :: (cs.drop off).drop (i + 1) by
        rw [List.drop_drop, List.drop_drop, List.drop_eq_getElem_cons hlt]; rfl]
      rfl
  rw [List.range_eq_range']
  simpa using key m 0 (by omega)
theorem Arr.block {H : Heap} {r : Nat} {cs : List Value} {T : TypeId} (h : H r = some (.cells cs.toArray T (0, 0))) (ho : Ones cs) : Arr H 1 ⟨r, 0, none⟩ (cs.map fun v => [v]) := by
  intro i x hx
  rw [List.getElem?_map, Option.map_eq_some_iff] at hx
  obtain ⟨v, hv, rfl⟩ := hx
  have hlt := (List.getElem?_eq_some_iff.1 hv).1
  have hg := ho.get i hlt
  rw [g_get hv] at hg
  refine ⟨?_, rfl, hg, trivial⟩
  rw [add_none, read_block h (by omega), Nat.zero_add, Nat.mul_one, List.drop_eq_getElem_cons hlt]
  rw [List.getElem?_eq_getElem hlt] at hv
  simp only [Option.some.injEq] at hv
  simp [hv]
theorem Sl.block {H : Heap} {r : Nat} {cs : List Value} {T : TypeId} (h : H r = some (.cells cs.toArray T (0, 0))) (ho : Ones cs) {n : Nat} (hn : n = cs.length) (hb : n < 2 ^ 63) :
    Sl H 1 (.slice (some ⟨r, 0, none⟩) n n) (cs.map fun v => [v]) := by
  subst hn
  exact ⟨_, _, by simp, by simp, hb, fun _ => ⟨_, rfl, Arr.block h ho⟩⟩

/-! Strings -/
abbrev Str (l : List UInt8) : Value := .string ⟨l.toArray⟩
theorem ba_toList (l : List UInt8) : (⟨l.toArray⟩ : ByteArray).toList = l := by
  rw [ByteArray.toList_eq]
theorem ba_size (l : List UInt8) : (⟨l.toArray⟩ : ByteArray).size = l.length := by simp [ByteArray.size]
theorem str_add {a b : List UInt8} (h : a.length + b.length < 2 ^ 62) : evalPure (.bin .add .str) [Str a, Str b] = some (Str (a ++ b)) := by
  simp only [evalPure, evalBin, evalStr, ba_size]
  rw [if_neg (by simp only [IntKind.max, IntKind.bits, IntKind.signed]; simp; omega)]
  congr 2
theorem str_eql (a b : List UInt8) : evalPure (.bin .eql .str) [Str a, Str b] = some (.bool (a == b)) := by
  simp only [evalPure, evalBin, evalStr, ba_toList]
theorem str_neq (a b : List UInt8) : evalPure (.bin .neq .str) [Str a, Str b] = some (.bool (!(a == b))) := by
  simp only [evalPure, evalBin, evalStr, ba_toList]
theorem str_len (a : List UInt8) : evalPure .slen [Str a] = some (.int .i64 a.length) := by
  simp only [evalPure, ba_size]; rfl
theorem ba_extract (a : List UInt8) (l h : Nat) : (⟨a.toArray⟩ : ByteArray).extract l h = ⟨((a.drop l).take (h - l)).toArray⟩ := by
  apply ByteArray.ext
  simp only [ByteArray.data_extract]
  simp
theorem str_take (a : List UInt8) (n : Nat) (h : n ≤ a.length) : evalPure (.sslc false true) [Str a, .int .i64 n] = some (Str (a.take n)) := by
  have hb : slcBounds a.length a.length none (some (.int .i64 n)) none = some (0, n, a.length) := by
    simp [slcBounds, boundOr, boundHi, boundI, asI, h]
  simp only [evalPure, takeArgs, evalSslc, ba_size, hb, Option.map_some, ba_extract]
  simp
theorem str_drop (a : List UInt8) (n : Nat) (h : n ≤ a.length) : evalPure (.sslc true false) [Str a, .int .i64 n] = some (Str (a.drop n)) := by
  have hb : slcBounds a.length a.length (some (.int .i64 n)) none none = some (n, a.length, a.length) := by
    simp [slcBounds, boundOr, boundHi, boundI, asI, h]
  simp only [evalPure, takeArgs, evalSslc, ba_size, hb, Option.map_some, ba_extract]
  congr 4
  apply List.take_of_length_le
  simp
theorem str_get (a : List UInt8) (n : Nat) (h : n < a.length) : evalPure .sidx [Str a, .int .i64 (n : Nat)] = some (.int .u8 (a[n]'h).toNat) := by
  have hb : (⟨a.toArray⟩ : ByteArray)[n]? = some a[n] := by
    have h' : n < (⟨a.toArray⟩ : ByteArray).size := by rw [ba_size]; exact h
    rw [getElem?_pos (⟨a.toArray⟩ : ByteArray) n h']
    rfl
  simp only [evalPure, evalSidx, Int.toNat_natCast]
  rw [if_pos (by omega), hb]
  rfl
theorem str_of (b : ByteArray) : Value.string b = Str b.data.toList := by
  show _ = Value.string _
  congr
end Go.Sx
