/- My framework, part 2: a function's code is reckoned to a tree; what the tree says, the function does. Generic: no program in sight. -/
import Derived.Maps.AppendAt
import Derived.ArgAppend
import Derived.Carry
import Derived.Laws.StructEq
import Derived.Scope
import Derived.Deep.AppendSrc
import Derived.DeepKeys3
import Derived.Laws.BytesArg
import Derived.Laws.IdiomStrings
import Derived.Test.YtnjfdgjbeeocjaaGreatDoorFw1
namespace Go.Sx
open Go
def OSl (e : TypeId) (size : Nat) (v : Value) (rows : List (List Value)) (O : Own) : Prop :=
 ((∃ a, v = .slice a 0 0) ∧ rows = [] ∧ O = []) ∨
 ∃ (r : Nat) (cs : List Value) (cap : Nat), v = .slice (some ⟨r, 0, none⟩) rows.length cap ∧ O = [(r, .cells cs.toArray e (0, 0))] ∧ cs.length = cap * size ∧ rows.length ≤ cap ∧ cap < 2 ^ 63 ∧
  (∀ row ∈ rows, row.length = size) ∧ (∀ row ∈ rows, Ones row) ∧ cs.take (rows.length * size) = rows.flatten
theorem OSl.nil (e : TypeId) (size : Nat) : OSl e size (.slice none 0 0) [] [] := .inl ⟨⟨none, rfl⟩, rfl, rfl⟩
theorem OSl.one {e : TypeId} {size : Nat} {v : Value} {rows : List (List Value)} {O : Own} (h : OSl e size v rows O) : v.oneCell' = true := by
 rcases h with ⟨⟨a, rfl⟩, _⟩ | ⟨r, cs, cap, rfl, _⟩ <;> rfl
theorem OSl.len {e : TypeId} {size : Nat} {v : Value} {rows : List (List Value)} {O : Own} (h : OSl e size v rows O) : ag .len [v] = some (.int .i64 rows.length) := by
 rcases h with ⟨⟨a, rfl⟩, rfl, _⟩ | ⟨r, cs, cap, rfl, _⟩ <;> rfl
theorem OSl.lenB {e : TypeId} {size : Nat} {v : Value} {rows : List (List Value)} {O : Own} (h : OSl e size v rows O) : rows.length < 2 ^ 63 := by
 rcases h with ⟨⟨a, rfl⟩, rfl, _⟩ | ⟨r, cs, cap, rfl, _, _, h1, h2, _⟩
 ·simp
 ·omega
theorem cq {size : Nat} : ∀ {rows : List (List Value)}, (∀ row ∈ rows, row.length = size) → rows.flatten.length = rows.length * size
 | [], _ => by simp
 | r :: rs, h => by
  rw [List.flatten_cons, List.length_append, cq (fun x hx => h x (by simp [hx])), h r (by simp), List.length_cons, Nat.add_mul]; omega
theorem bK {size : Nat} : ∀ {rows : List (List Value)} {i : Nat} {row : List Value}, (∀ row ∈ rows, row.length = size) → rows[i]? = some row → (rows.flatten.drop (i * size)).take size = row
 | [], i, row, _, h => by simp at h
 | r :: rs, 0, row, hl, h => by
  simp at h; subst h
  have : r.length = size := hl r (by simp)
  simp [this]
 | r :: rs, i + 1, row, hl, h => by
  have hr : r.length = size := hl r (by simp)
  rw [List.flatten_cons, Nat.add_mul, Nat.one_mul, Nat.add_comm, ← List.drop_drop, ← hr, List.drop_left, hr]
  exact bK (fun x hx => hl x (by simp [hx])) (by simpa using h)
theorem Ones.drop {vs : List Value} (h : Ones vs) (n : Nat) : Ones (vs.drop n) := fq fun v hv => g7 h v (List.mem_of_mem_drop hv)
theorem Ones.take {vs : List Value} (h : Ones vs) (n : Nat) : Ones (vs.take n) := fq fun v hv => g7 h v (List.mem_of_mem_take hv)
theorem OSl.rows_ok {e : TypeId} {size : Nat} {v : Value} {rows : List (List Value)} {O : Own} (h : OSl e size v rows O) {i : Nat} {row : List Value} (hr : rows[i]? = some row) : row.length = size ∧ Ones row := by
 rcases h with ⟨⟨a, rfl⟩, rfl, _⟩ | ⟨r, cs, cap, rfl, _, _, _, _, hl, ho, ht⟩
 ·simp at hr
 ·exact ⟨hl row (List.mem_of_getElem? hr), ho row (List.mem_of_getElem? hr)⟩
theorem OSl.idx {e : TypeId} {size : Nat} {v : Value} {rows : List (List Value)} {O1 O : Own} (h : OSl e size v rows O1) (hO : ∀ p ∈ O1, p ∈ O) (H : Heap) {k : IntKind} {i : Nat} {row : List Value} (hr : rows[i]? = some row) :
  ∃ a, ag (.idx size) [v, .int k i] = some (.pointer (some a)) ∧ a.spot = none ∧ Reads H O (.pointer (some a)) size row ∧ ∀ off m, off + m ≤ size → Reads H O (fh (.pointer (some a)) off) m ((row.drop off).take m) := by
 have hrow := h.rows_ok hr
 rcases h with ⟨⟨a, rfl⟩, rfl, _⟩ | ⟨r, cs, cap, rfl, rfl, hcl, hlc, _, hl, ho, ht⟩
 ·simp at hr
 ·have hlt : i < rows.length := (List.getElem?_eq_some_iff.1 hr).1
  have hfl := bK hl hr
  have hmul : (i + 1) * size ≤ rows.length * size := Nat.mul_le_mul_right _ hlt
  have hmul2 : rows.length * size ≤ cap * size := Nat.mul_le_mul_right _ hlc
  rw [Nat.add_mul, Nat.one_mul] at hmul
  have hget : (cs.drop (i * size)).take size = row := by
   rw [← hfl, ← ht, List.drop_take, List.take_take, Nat.min_eq_left (by omega)]
  refine ⟨⟨r, i * size, none⟩, ?_, rfl, .inr ⟨_, cs.toArray, e, rfl, rfl, hO _ (by simp), by simpa using hget, hrow.1⟩, fun off m hle => .inr ⟨⟨r, i * size + off, none⟩, cs.toArray, e, ?_, rfl, hO _ (by simp), ?_, ?_⟩⟩
  ·simp only [ag, cP]
   rw [if_pos ⟨by omega, by omega⟩, aK]
   simp
  ·show Value.pointer (some ((⟨r, i * size, none⟩ : Addr).add off)) = _
   rw [aK]
  ·rw [← hget, List.drop_take, List.take_take, Nat.min_eq_left (by omega), List.drop_drop]
  ·rw [List.length_take, List.length_drop]; omega
theorem OSl.store {e : TypeId} {size : Nat} {v : Value} {rows : List (List Value)} {O1 O2 O : Own} (h : OSl e size v rows O1) (hO : O.Perm (O1 ++ O2)) {k : IntKind} {i : Nat} {row : List Value} (hr : rows[i]? = some row) :
  ∃ a, ag (.idx size) [v, .int k i] = some (.pointer (some a)) ∧ ∀ off ys, off + ys.length ≤ size → Ones ys → ∃ O1', iE O (fh (.pointer (some a)) off) ys (O1' ++ O2) ∧ OSl e size v (rows.set i (aI row off ys)) O1' := by
 have hrow := h.rows_ok hr
 rcases h with ⟨⟨a, rfl⟩, rfl, _⟩ | ⟨r, cs, cap, rfl, rfl, hcl, hlc, hcap, hl, ho, ht⟩
 ·simp at hr
 ·have hlt : i < rows.length := (List.getElem?_eq_some_iff.1 hr).1
  have hfl := bK hl hr
  have hmul : (i + 1) * size ≤ rows.length * size := Nat.mul_le_mul_right _ hlt
  have hmul2 : rows.length * size ≤ cap * size := Nat.mul_le_mul_right _ hlc
  rw [Nat.add_mul, Nat.one_mul] at hmul
  refine ⟨⟨r, i * size, none⟩, ?_, fun off ys hle hys => ⟨[(r, .cells (aI cs (i * size + off) ys).toArray e (0, 0))], ⟨⟨r, i * size + off, none⟩, cs.toArray, e, O2, ?_, rfl, hO, ?_, ?_⟩, .inr ⟨r, aI cs (i * size + off) ys, cap, ?_, rfl, ?_, ?_, hcap, ?_, ?_, ?_⟩⟩⟩
  ·simp only [ag, cP]
   rw [if_pos ⟨by omega, by omega⟩, aK]
   simp
  ·show Value.pointer (some ((⟨r, i * size, none⟩ : Addr).add off)) = _
   rw [aK]
  ·simp; omega
  ·simp
  ·simp
  ·simp only [aI, List.length_append, List.length_take, List.length_drop]; omega
  ·simpa using hlc
  ·intro x hx
   rcases List.mem_or_eq_of_mem_set hx with hx | rfl
   ·exact hl x hx
   ·simp only [aI, List.length_append, List.length_take, List.length_drop]; omega
  ·intro x hx
   rcases List.mem_or_eq_of_mem_set hx with hx | rfl
   ·exact ho x hx
   ·simp only [aI]
    exact Ones.append.2 ⟨Ones.append.2 ⟨hrow.2.take _, hys⟩, hrow.2.drop _⟩
  ·
   have key : ∀ (rows : List (List Value)) (i : Nat) (cs : List Value), (∀ row ∈ rows, row.length = size) → rows[i]? = some row → cs.take (rows.length * size) = rows.flatten → rows.length * size ≤ cs.length →
     (aI cs (i * size + off) ys).take (rows.length * size) = (rows.set i (aI row off ys)).flatten := by
    intro rows
    induction rows with
    | nil => intro i cs _ h; simp at h
    | cons r0 rs ih =>
     intro i cs hl hi ht hcl
     have hr0 : r0.length = size := hl r0 (by simp)
     rw [List.length_cons, Nat.add_mul, Nat.one_mul, List.flatten_cons] at ht
     rw [List.length_cons, Nat.add_mul, Nat.one_mul] at hcl
     have e0 : cs.take size = r0 := by
      have := congrArg (fun l => l.take size) ht
      simpa [List.take_take, hr0, Nat.min_eq_left] using this
     have e1 : (cs.drop size).take (rs.length * size) = rs.flatten := by
      have := congrArg (fun l => l.drop size) ht
      rw [List.drop_take] at this
      simpa [hr0] using this
     cases i with
     | zero =>
      simp only [List.getElem?_cons_zero, Option.some.injEq] at hi
      subst hi
      simp only [List.set_cons_zero, List.length_cons, List.flatten_cons, Nat.zero_mul, Nat.zero_add]
      have : aI cs off ys = aI r0 off ys ++ cs.drop size := by
       simp only [aI]
       rw [← e0, List.take_take, Nat.min_eq_left (by omega), List.drop_take, List.append_assoc, List.append_assoc, List.append_assoc]
       congr 2
       rw [show cs.drop size = (cs.drop (off + ys.length)).drop (size - (off + ys.length)) by rw [List.drop_drop]; congr 1; omega, List.take_append_drop]
      rw [this, Nat.add_mul, Nat.one_mul, Nat.add_comm, List.take_append]
      have hsl : (aI r0 off ys).length = size := by simp only [aI, List.length_append, List.length_take, List.length_drop]; omega
      rw [hsl, Nat.add_sub_cancel_left, e1, List.take_of_length_le (by omega)]
     | succ i =>
      have hi' : rs[i]? = some row := by simpa using hi
      have := ih i (cs.drop size) (fun x hx => hl x (by simp [hx])) hi' e1 (by rw [List.length_drop]; omega)
      simp only [List.set_cons_succ, List.length_cons, List.flatten_cons]
      rw [← this]
      have e2 : aI cs ((i + 1) * size + off) ys = cs.take size ++ aI (cs.drop size) (i * size + off) ys := by
       simp only [aI]
       rw [← List.append_assoc, ← List.append_assoc, List.drop_drop]
       congr 1
       ·congr 1
        rw [show (i + 1) * size + off = size + (i * size + off) by rw [Nat.add_mul]; omega, List.take_add]
       ·congr 1; rw [Nat.add_mul]; omega
      rw [e2, e0, Nat.add_mul, Nat.one_mul, Nat.add_comm, List.take_append, hr0, Nat.add_sub_cancel_left, List.take_of_length_le (by omega)]
   have := key rows i cs hl hr ht (by omega)
   simpa using this
theorem OSl.freeze {e : TypeId} {size : Nat} {v : Value} {rows : List (List Value)} {O1 X : Own} {H : Heap} (h : OSl e size v rows O1) (hc : Cons H (O1 ++ X)) : ∃ H', Ghost H (O1 ++ X) H' X ∧ Sl H' size v rows ∧ Heap.le H H' := by
 rcases h with ⟨⟨a, rfl⟩, rfl, rfl⟩ | ⟨r, cs, cap, rfl, rfl, hcl, hlc, hcap, hl, ho, ht⟩
 ·exact ⟨H, Ghost.refl _ _, ⟨a, 0, rfl, Nat.le_refl _, by omega, fun h => absurd rfl h⟩, Heap.le_refl H⟩
 ·have hn : H r = none := hc.none (p := (r, .cells cs.toArray e (0, 0))) (by simp)
  refine ⟨H.ins r (.cells cs.toArray e (0, 0)), Ghost.freeze H r _ X, ⟨_, cap, rfl, hlc, hcap, fun _ => ⟨_, rfl, fun i row hr => ?_⟩⟩, Heap.le_ins H r _⟩
  have hb : (H.ins r (.cells cs.toArray e (0, 0))) r = some (.cells cs.toArray e (0, 0)) := by simp only [Heap.ins, hn, if_true]
  have hlt : i < rows.length := (List.getElem?_eq_some_iff.1 hr).1
  have hmul : (i + 1) * size ≤ rows.length * size := Nat.mul_le_mul_right _ hlt
  have hmul2 : rows.length * size ≤ cap * size := Nat.mul_le_mul_right _ hlc
  rw [Nat.add_mul, Nat.one_mul] at hmul
  refine ⟨?_, hl row (List.mem_of_getElem? hr), ho row (List.mem_of_getElem? hr)⟩
  rw [aK, Nat.zero_add, gn hb (by omega), ← bK hl hr, ← ht, List.drop_take, List.take_take, Nat.min_eq_left (by omega)]
def nK (P : Program) (t e : TypeId) (size bytes : Nat) : Bool :=
 match P.underlying t, P.info? e with
 | some (.slice e'), some i => e' == e && i.size == size && i.bytes == bytes && (i.zero.map fun z => z.cells.size == size).getD false && decide (0 < size)
 | _, _ => false
theorem kM {size : Nat} {a : Addr} {news : List (List Value)} {H : Heap} {w : World} {O : Own} (h0 : 0 < size) (hA : news ≠ [] → Arr H size a news) (hm : Models w H O) :
  (∀ row ∈ news, row.length = size ∧ Ones row) ∧ ∀ j u, news.flatten[j]? = some u → w.cell? (a.add j) = some u := by
 have hnl : ∀ row ∈ news, row.length = size ∧ Ones row := fun row hr => by
  obtain ⟨i, hi⟩ := List.mem_iff_getElem?.1 hr
  exact (hA (by intro e; rw [e] at hr; simp at hr) i row hi).2
 refine ⟨hnl, fun j u hj => ?_⟩
 have hne : news ≠ [] := by intro e; rw [e] at hj; simp at hj
 have hjl : j < news.length * size := by
  have := (List.getElem?_eq_some_iff.1 hj).1
  rwa [cq fun r hr => (hnl r hr).1] at this
 have hq : j / size < news.length := (Nat.div_lt_iff_lt_mul h0).2 hjl
 obtain ⟨hr1, hr2, _⟩ := hA hne (j / size) news[j / size] (List.getElem?_eq_getElem hq)
 have hfg := bK (fun r hr => (hnl r hr).1) (List.getElem?_eq_getElem hq)
 have hdm : size * (j / size) + j % size = j := Nat.div_add_mod j _
 have hu2 : news[j / size][j % size]? = some u := by
  rw [← hfg, List.getElem?_take, if_pos (Nat.mod_lt _ h0), List.getElem?_drop, Nat.mul_comm, hdm, hj]
 simp only [Heap.read] at hr1
 obtain ⟨k, hk, hc⟩ := hX hr1 (j % size) u hu2
 have : k = j % size := by
  rw [List.getElem?_range (Nat.mod_lt _ h0)] at hk
  simpa using hk.symm
 subst this
 have := hm.cell? hc
 rwa [ly, Nat.mul_comm, hdm] at this
theorem li {w w' : World} {H : Heap} {F : Own} {e : TypeId} {size : Nat} {v' : Value} {rows : List (List Value)} (hm : Models w H F) (hrows : ∀ row ∈ rows, row.length = size ∧ Ones row)
  (ho : w'.ownsRow w.heap.size e size v' rows.length rows.flatten) (hg : w.grownBy w' none) : ∃ O', OSl e size v' rows O' ∧ Models w' H (O' ++ F) := by
 have hlt : ∀ b (o : Obj), w.heap[b]? = some o → b < w.heap.size := fun b o hb => (Array.getElem?_eq_some_iff.1 hb).1
 have hother : ∀ b (o : Obj), w.heap[b]? = some o → w'.heap[b]? = some o := fun b o hb => by
  rw [hg.block b (hlt b o hb) (by simp)]; exact hb
 have henv : cA w' = cA w := by simp only [cA, hg.os, hg.tape, hg.output]
 rcases ho.2 with ⟨rfl, hn0⟩ | ⟨gb, cap', cur, rfl, hgb0, hgb, hnc, hcm, hcs, htk⟩
 ·exact ⟨[], .inl ⟨⟨none, rfl⟩, List.eq_nil_of_length_eq_zero hn0, rfl⟩, ⟨fun b o hb => hother b o (hm.pers b o hb), fun p hp => ⟨hother _ _ (hm.own p (by simpa using hp)).1, (hm.own p (by simpa using hp)).2⟩, by simpa using hm.nodup, henv.trans hm.env⟩⟩
 ·refine ⟨[(gb, .cells cur e (0, 0))], .inr ⟨gb, cur.toList, cap', rfl, by simp, by simpa using hcs, hnc, by simp only [maxLen] at hcm; omega, fun r hr => (hrows r hr).1, fun r hr => (hrows r hr).2, htk⟩,
   ⟨fun b o hb => hother b o (hm.pers b o hb), fun p hp => ?_, ?_, henv.trans hm.env⟩⟩
  ·rcases List.mem_append.1 hp with hp | hp
   ·simp at hp; subst hp
    refine ⟨hgb, ?_⟩
    cases hH : H gb with
    | none => rfl
    | some o => have := hlt _ _ (hm.pers _ _ hH); omega
   ·exact ⟨hother _ _ (hm.own p hp).1, (hm.own p hp).2⟩
  ·simp only [List.cons_append, List.nil_append, List.map_cons, List.nodup_cons]
   refine ⟨fun hmem => ?_, hm.nodup⟩
   obtain ⟨p, hp, he⟩ := List.mem_map.1 hmem
   have := hlt _ _ (hm.own p hp).1
   omega
theorem append_empty {P : Program} {t ty e : TypeId} {size bytes : Nat} (ha : nK P t e size bytes = true) {va : Option Addr} {x : Value} {news : List (List Value)} {H : Heap} (hs : Sl H size x news)
  (hb : news.length * bytes ≤ 140737488355328) (h63 : news.length < 2 ^ 63) :
  dQ P ((PrimOp.bi .append #[t, t] ty).sem [.slice va 0 0, x]) H [] fun v' H' O' => H' = H ∧ OSl e size v' news O' := by
 unfold nK at ha
 split at ha
 ·rename_i e' i hu hi
  simp only [Bool.and_eq_true, beq_iff_eq, decide_eq_true_eq] at ha
  obtain ⟨⟨⟨⟨rfl, hsz⟩, hby⟩, hz⟩, h0⟩ := ha
  intro w F hm
  simp only [List.nil_append] at hm
  obtain ⟨xa, xcap, rfl, hx1, hx2, hx3⟩ := hs
  by_cases hne : news = []
  ·subst hne
   have : (Builtin.append_ #[t, t] ty #[.slice va 0 0, .slice xa 0 xcap]).run P w = .ok (.slice va 0 0) w := by
    cases va <;> cases xa <;> simp [Builtin.append_, run_underlying hu, sizeOf, typeInfo, hi, Builtin.lenOf, Builtin.firstCells, storeCells, loadCells, loadCellsFrom]
   refine ⟨.slice va 0 0, w, H, [], ?_, ⟨rfl, .inl ⟨⟨va, rfl⟩, rfl, rfl⟩⟩, Heap.le_refl H, by simpa using hm⟩
   simp only [PrimOp.sem, builtin, List.length_nil]
   rw [Sem.run_bind, this]
   rfl
  ·obtain ⟨a, rfl, hA⟩ := hx3 hne
   obtain ⟨hnl, hcells⟩ := kM (H := H) h0 (fun _ => hA) hm
   have hpos : 0 < news.length := List.length_pos_iff.2 hne
   cases hzz : i.zero with
   | none => rw [hzz] at hz; simp at hz
   | some z =>
    rw [hzz] at hz
    simp only [Option.map_some, Option.getD_some, beq_iff_eq] at hz
    have hfl := cq fun r hr => (hnl r hr).1
    have hones : ∀ u ∈ news.flatten, u.oneCell' = true := by
     intro u hu
     obtain ⟨r, hr, hur⟩ := List.mem_flatten.1 hu
     exact g7 (hnl r hr).2 u hur
    obtain ⟨v', w', hrun, ho, hg⟩ : ∃ v' w', (Builtin.append_ #[t, t] ty #[.slice va 0 0, .slice (some a) news.length xcap]).run P w = .ok v' w' ∧ w'.ownsRow w.heap.size e' size v' news.length news.flatten ∧ w.grownBy w' none := by
     cases va with
     | none =>
      obtain ⟨v', w', h1, h2, h3, _⟩ := run_append_own_at (P := P) w w.heap.size t ty e' i z size bytes hu hi hzz hsz hby hz h0 (.slice none 0 0) 0 [] (World.ownsRow_nil w _ e' size) a news.length xcap news.flatten hfl hcells hones (by simp only [maxLen]; omega) (by simpa using hb) (Nat.le_refl _)
      exact ⟨v', w', h1, by simpa using h2, h3⟩
     | some b =>
      obtain ⟨v', w', h1, h2, h3⟩ := run_append_arg_grows (P := P) w t ty e' i z size bytes hu hi hzz hsz hby hz h0 b 0 0 [] (by simp) (by simp) a news.length xcap news.flatten hfl hcells (by omega) (by simp only [maxLen]; omega) (by simpa using hb)
      exact ⟨v', w', h1, by simpa using h2, h3⟩
    obtain ⟨O', h1, h2⟩ := li hm hnl ho hg
    refine ⟨v', w', H, O', ?_, ⟨rfl, h1⟩, Heap.le_refl H, h2⟩
    simp only [PrimOp.sem, builtin]
    rw [Sem.run_bind, hrun]
    rfl
 ·cases ha
theorem OSl.ownsRow {e : TypeId} {size : Nat} {v : Value} {rows : List (List Value)} {O1 F : Own} {H : Heap} {w : World} (h : OSl e size v rows O1) (hne : O1 ≠ []) (hm : Models w H (O1 ++ F)) : w.ownsRow 0 e size v rows.length rows.flatten := by
 rcases h with ⟨⟨a, rfl⟩, rfl, rfl⟩ | ⟨r, cs, cap, rfl, rfl, hcl, hlc, hcap, hl, ho, ht⟩
 ·exact absurd rfl hne
 ·refine ⟨cq hl, .inr ⟨r, cap, cs.toArray, rfl, Nat.zero_le _, (hm.own (r, .cells cs.toArray e (0, 0)) (by simp)).1, hlc, by simp only [maxLen]; omega, by simpa using hcl, by simpa using ht⟩⟩
structure RSl (H : Heap) (O : Own) (size : Nat) (v : Value) (rows : List (List Value)) : Prop where
 one : v.oneCell' = true
 len : ag .len [v] = some (.int .i64 rows.length)
 lenB : rows.length < 2 ^ 63
 idx : ∀ (k : IntKind) (i : Nat) (row : List Value), rows[i]? = some row → ∃ a, ag (.idx size) [v, .int k i] = some (.pointer (some a)) ∧ Reads H O (.pointer (some a)) size row ∧
  (∀ off m, off + m ≤ size → Reads H O (fh (.pointer (some a)) off) m ((row.drop off).take m)) ∧ row.length = size ∧ Ones row
theorem RSl.le {H H' : Heap} {O : Own} {size : Nat} {v : Value} {rows : List (List Value)} (h : RSl H O size v rows) (hl : Heap.le H H') : RSl H' O size v rows := by
 have hr : ∀ {p m vs}, Reads H O p m vs → Reads H' O p m vs := fun h => h.imp (fun h => hl.read h) id
 exact ⟨h.one, h.len, h.lenB, fun k i row hi => by
  obtain ⟨a, h1, h2, h3, h4⟩ := h.idx k i row hi
  exact ⟨a, h1, hr h2, fun off m hle => hr (h3 off m hle), h4⟩⟩
theorem RSl.own {H : Heap} {O O' : Own} {size : Nat} {v : Value} {rows : List (List Value)} (h : RSl H O size v rows) (ho : ∀ p ∈ O, p ∈ O') : RSl H O' size v rows := by
 have hr : ∀ {p m vs}, Reads H O p m vs → Reads H O' p m vs := fun h => h.imp id fun ⟨a, cs, T, h1, h2, h3, h4⟩ => ⟨a, cs, T, h1, h2, ho _ h3, h4⟩
 exact ⟨h.one, h.len, h.lenB, fun k i row hi => by
  obtain ⟨a, h1, h2, h3, h4⟩ := h.idx k i row hi
  exact ⟨a, h1, hr h2, fun off m hle => hr (h3 off m hle), h4⟩⟩
def FunB (P : Program) (fv : Value) (H : Heap) (O : Own) (args : List Value → List Value) (Dom : List Value → Prop) (p : List Value → Bool) : Prop :=
 ∃ f caps, fv = .func (.func f) #[] caps ∧ gm P f ∧ ∀ H', Heap.le H H' → ∀ row, Dom row → ob P f (args row ++ caps.toList) H' O (.bool (p row))
theorem FunB.one {P : Program} {fv : Value} {H : Heap} {O : Own} {args : List Value → List Value} {Dom : List Value → Prop} {p : List Value → Bool} (h : FunB P fv H O args Dom p) : fv.oneCell' = true := by
 obtain ⟨f, caps, rfl, _⟩ := h; rfl
theorem k9 {P : Program} {ok : List Nat} (h : ok.all (lX P) = true) {f : FuncId} (hf : ok.contains f = true) : gm P f := lj h [] [] [] f hf
abbrev lF := List (Int × Value)
def dV (m : lF) (k : Int) : Option Value := (m.find? fun p => k == p.1).map (·.2)
def kB : lF → Int → Value → lF
 | [], k, v => [(k, v)]
 | p :: r, k, v => if k == p.1 then (k, v) :: r else p :: kB r k v
def OMap (kd : IntKind) (v : Value) (m : lF) (O : Own) : Prop :=
 ∃ r es clock, v = .map (some r) ∧ O = [(r, .map es clock)] ∧ es.toList.map (fun e => (e.key, e.val)) = m.map fun p => (.int kd p.1, p.2)
theorem OMap.one {kd : IntKind} {v : Value} {m : lF} {O : Own} (h : OMap kd v m O) : v.oneCell' = true := by obtain ⟨r, es, c, rfl, _⟩ := h; rfl
theorem dm {kd k' : IntKind} {x : Int} : ∀ {es : List MapEntry} {m : lF} {i : Nat}, es.map (fun e => (e.key, e.val)) = m.map (fun p => ((.int kd p.1 : Value), p.2)) →
  (Instr.findNow (.int k') (.int kd x) es i = some none ∧ dV m x = none ∧ m.findIdx? (fun p => x == p.1) = none) ∨
  ∃ j v, Instr.findNow (.int k') (.int kd x) es i = some (some (i + j, v)) ∧ dV m x = some v ∧ m.findIdx? (fun p => x == p.1) = some j
 | [], [], i, _ => .inl ⟨rfl, rfl, rfl⟩
 | [], _ :: _, _, h => by simp at h
 | _ :: _, [], _, h => by simp at h
 | e :: es, p :: m, i, h => by
  simp only [List.map_cons, List.cons.injEq, Prod.mk.injEq] at h
  obtain ⟨⟨h1, h2⟩, h3⟩ := h
  have hs : Instr.sameNow (.int k') (.int kd x) e.key = some (x == p.1) := by rw [h1]; simp [Instr.sameNow]
  simp only [Instr.findNow, hs]
  by_cases hx : x = p.1
  ·right
   refine ⟨0, p.2, ?_, ?_, ?_⟩
   ·simp [hx, h2]
   ·simp [dV, hx]
   ·simp [List.findIdx?_cons, hx]
  ·have hb : (x == p.1) = false := by simpa using hx
   rw [hb]
   rcases dm (i := i + 1) h3 with ⟨a, b, c⟩ | ⟨j, v, a, b, c⟩
   ·left
    refine ⟨by simpa using a, ?_, ?_⟩
    ·simp only [dV, List.find?_cons, hb]; exact b
    ·simp [List.findIdx?_cons, hb, c]
   ·right
    refine ⟨j + 1, v, ?_, ?_, ?_⟩
    ·simp only; rw [a]; congr 3; omega
    ·simp only [dV, List.find?_cons, hb]; exact b
    ·simp [List.findIdx?_cons, hb, c]
theorem ez {P : Program} {kt : TypeId} {k : IntKind} (hk : P.underlying kt = some (.int k)) (em : Bool) (v : Value) (w : World) : (Instr.checkKey em 10000 kt v).run P w = .ok () w := by
 show (Instr.checkKey em (9999 + 1) kt v).run P w = _
 unfold Instr.checkKey
 rw [Sem.run_bind, ab hk]
 rfl
theorem f8 {P : Program} {t kt et : TypeId} {k kd : IntKind} (ht : P.underlying t = some (.map kt et)) (hk : P.underlying kt = some (.int k)) {z : Value} (hz : ∀ w, (zeroValue et).run P w = .ok z w)
  {v : Value} {m : lF} {O1 O : Own} (h : OMap kd v m O1) (hO : ∀ p ∈ O1, p ∈ O) {H : Heap} {w : World} {F : Own} (hm : Models w H (O ++ F)) (x : Int) (ok : Bool) :
  ((PrimOp.lookup t ok).sem [v, .int kd x]).run P w = .ok (.value (if ok then .tuple #[(dV m x).getD z, .bool (dV m x).isSome] else (dV m x).getD z)) w := by
 obtain ⟨r, es, clock, rfl, rfl, he⟩ := h
 have hrow := (hm.own (r, .map es clock) (List.mem_append_left _ (hO _ (by simp)))).1
 have hg : (getObj r).run P w = .ok (.map es clock) w := by simp [getObj, Sem.run, hrow]
 simp only [PrimOp.sem, Instr.lookup, Sem.run_bind, ab ht, Result.andThen_ok, hg, Sem.run_pure, ez hk, Instr.findKey, ab hk]
 rcases dm (k' := k) (x := x) (i := 0) he with ⟨a, b, _⟩ | ⟨j, u, a, b, _⟩
 ·rw [a, b]
  simp only [Sem.run_pure, Result.andThen_ok, hz, Option.getD_none, Option.isSome_none, Sem.run_bind]
 ·rw [a, b]
  simp only [Sem.run_pure, Result.andThen_ok, Option.getD_some, Option.isSome_some, Sem.run_bind]
theorem kH {m : lF} {k : Int} {v : Value} (h : m.findIdx? (fun p => k == p.1) = none) : kB m k v = m ++ [(k, v)] := by
 induction m with
 | nil => rfl
 | cons p r ih =>
  simp only [List.findIdx?_cons] at h
  split at h
  ·cases h
  ·rename_i hb
   simp only [Option.map_eq_none_iff] at h
   simp only [kB, hb, Bool.false_eq_true, if_false, ih h, List.cons_append]
theorem kG {m : lF} {k : Int} {v : Value} {j : Nat} (h : m.findIdx? (fun p => k == p.1) = some j) : kB m k v = m.set j (k, v) ∧ ∃ u, m[j]? = some (k, u) := by
 induction m generalizing j with
 | nil => simp at h
 | cons p r ih =>
  simp only [List.findIdx?_cons] at h
  split at h
  ·rename_i hb
   simp only [Option.some.injEq] at h; subst h
   have : k = p.1 := by simpa using hb
   exact ⟨by simp [kB, hb], p.2, by simp [this]⟩
  ·rename_i hb
   simp only [Option.map_eq_some_iff] at h
   obtain ⟨i, hi, rfl⟩ := h
   obtain ⟨h1, u, h2⟩ := ih hi
   refine ⟨?_, u, by simpa using h2⟩
   simp only [kB, hb, Bool.false_eq_true, if_false, h1, List.set_cons_succ]
theorem gR {P : Program} {t kt et : TypeId} {k kd : IntKind} (ht : P.underlying t = some (.map kt et)) (hk : P.underlying kt = some (.int k)) {v : Value} {m : lF} {O1 : Own} (h : OMap kd v m O1) (H : Heap) (x : Int) (u : Value) :
  dQ P ((PrimOp.mapUpdate t).sem [v, .int kd x, u]) H O1 fun _ H' O' => H' = H ∧ OMap kd v (kB m x u) O' := by
 intro w F hm
 obtain ⟨r, es, clock, rfl, rfl, he⟩ := h
 have hrow := (hm.own (r, .map es clock) (by simp)).1
 have hlt : r < w.heap.size := (Array.getElem?_eq_some_iff.1 hrow).1
 have hg : (getObj r).run P w = .ok (.map es clock) w := by simp [getObj, Sem.run, hrow]
 have hset : ∀ o, (setObj r o).run P w = .ok () { w with heap := w.heap.setIfInBounds r o } := fun o => by
  simp only [setObj, Sem.run, hrow]
 have key : ∀ es' clock' m', es'.toList.map (fun e => (e.key, e.val)) = m'.map (fun p => ((.int kd p.1 : Value), p.2)) → Models { w with heap := w.heap.setIfInBounds r (.map es' clock') } H ([(r, .map es' clock')] ++ F) ∧ OMap kd (.map (some r)) m' [(r, .map es' clock')] := by
  intro es' clock' m' hm'
  refine ⟨?_, r, es', clock', rfl, rfl, hm'⟩
  have hm0 : Models w H ((r, .map es clock) :: F) := by simpa using hm
  refine hm0.update (fun b hb => ?_) ?_ rfl
  ·simp [Ne.symm hb]
  ·simp [hlt]
 simp only [PrimOp.sem, Instr.mapUpdate, Sem.run_bind, ab ht, Result.andThen_ok, hg, ez hk, Instr.findKey, ab hk]
 rcases dm (k' := k) (x := x) (i := 0) he with ⟨a, _, c⟩ | ⟨j, u', a, _, c⟩
 ·rw [a]
  simp only [Sem.run_pure, Result.andThen_ok, hset, Sem.run_bind]
  obtain ⟨k1, k2⟩ := key (es.push { key := .int kd x, val := u, born := clock }) (clock + 1) (kB m x u) (by rw [kH c]; simp [he])
  exact ⟨_, _, H, _, rfl, ⟨rfl, k2⟩, Heap.le_refl H, k1⟩
 ·rw [a]
  obtain ⟨e1, u0, e2⟩ := kG (v := u) c
  have hj : (es.toList.map fun e => (e.key, e.val))[j]? = some (.int kd x, u0) := by rw [he, List.getElem?_map, e2]; rfl
  rw [List.getElem?_map, Option.map_eq_some_iff] at hj
  obtain ⟨ent, hent, hk2⟩ := hj
  simp only [Prod.mk.injEq] at hk2
  have hent' : es[j]? = some ent := by simpa using hent
  have hjlt : j < es.size := (Array.getElem?_eq_some_iff.1 hent').1
  have hstay : (Instr.keyThatStays (.int kd x) (.int kd x)).run P w = .ok (.int kd x) w := by
   have : Instr.sameBits 10000 (.int kd x) (.int kd x) = true := by unfold Instr.sameBits; simp
   simp [Instr.keyThatStays, this]
  have hes : (es[0 + j]?).map (·.key) = some (.int kd x) := by rw [Nat.zero_add, hent', Option.map_some, hk2.1]
  simp only [Sem.run_pure, Result.andThen_ok, Sem.run_bind, hes, Option.getD_some, hstay, hset]
  obtain ⟨k1, k2⟩ := key (es.modify (0 + j) fun e => { e with key := .int kd x, val := u }) clock (kB m x u) (by
   rw [e1, List.map_set, ← he, Nat.zero_add]
   refine List.ext_getElem? fun i => ?_
   simp only [Array.toList_modify, List.getElem?_map, List.getElem?_modify, List.getElem?_set, List.length_map]
   by_cases hij : j = i
   ·subst hij
    simp [hent', hjlt]
   ·simp [hij])
  exact ⟨_, _, H, _, rfl, ⟨rfl, k2⟩, Heap.le_refl H, k1⟩
noncomputable section
inductive G (α : Type) where
 | fail (n : Nat)
 | done (a : α)
 | box (k : Nat → G α)
 | chk (c : List Ck) (g : G α)
 | eql (a b : List At) (g : G α)
variable {α β : Type}
def G.bind (g : G α) (f : α → G β) : G β :=
 G.rec (motive := fun _ => G β) (fun n => .fail n) (fun a => f a) (fun _ ih => .box ih) (fun c _ ih => .chk c ih) (fun a b _ ih => .eql a b ih) g
def G.mchk (c : List Ck) (g : G α) : G α := match c with | [] => g | c => .chk c g
def G.den : G α → (α → Prop) → Prop
 | .fail _, _ => False
 | .done a, P => P a
 | .box k, P => ∀ r, (k r).den P
 | .chk c g, P => AllCk c ∧ g.den P
 | .eql a b g, P => a = b ∧ g.den P
theorem G.den_mono {P Q : α → Prop} (h : ∀ a, P a → Q a) : ∀ {g : G α}, g.den P → g.den Q
 | .fail _, hg => hg
 | .done a, hg => h a hg
 | .box _, hg => fun r => den_mono h (hg r)
 | .chk _ _, hg => ⟨hg.1, den_mono h hg.2⟩
 | .eql _ _ _, hg => ⟨hg.1, den_mono h hg.2⟩
theorem G.den_bind {P : β → Prop} {f : α → G β} : ∀ {g : G α}, (g.bind f).den P → g.den fun a => (f a).den P
 | .fail _, hg => hg
 | .done _, hg => hg
 | .box _, hg => fun r => den_bind (hg r)
 | .chk _ _, hg => ⟨hg.1, den_bind hg.2⟩
 | .eql _ _ _, hg => ⟨hg.1, den_bind hg.2⟩
theorem G.den_mchk {P : α → Prop} {c : List Ck} {g : G α} (h : (G.mchk c g).den P) : AllCk c ∧ g.den P := by
 cases c with
 | nil => exact ⟨trivial, h⟩
 | cons x r => exact h
theorem G.den_ex {P : α → Prop} : ∀ {g : G α}, g.den P → ∃ a, P a
 | .fail _, hg => hg.elim
 | .done a, hg => ⟨a, hg⟩
 | .box _, hg => den_ex (hg 0)
 | .chk _ _, hg => den_ex hg.2
 | .eql _ _ _, hg => den_ex hg.2
theorem G.den_forall {P : Nat → α → Prop} : ∀ {g : G α}, (∀ r, g.den (P r)) → g.den fun a => ∀ r, P r a
 | .fail _, hg => hg 0
 | .done _, hg => hg
 | .box _, hg => fun r => den_forall fun r' => hg r' r
 | .chk _ _, hg => ⟨(hg 0).1, den_forall fun r => (hg r).2⟩
 | .eql _ _ _, hg => ⟨(hg 0).1, den_forall fun r => (hg r).2⟩
theorem G.den_and {c : Prop} {P : α → Prop} (hc : c) {g : G α} (h : g.den P) : g.den fun a => c ∧ P a := den_mono (fun _ h => ⟨hc, h⟩) h
theorem G.den_comm {R : α → β → Prop} : ∀ {a : G α} {b : G β}, a.den (fun u => b.den fun v => R u v) → b.den fun v => a.den fun u => R u v
 | .fail _, _, h => h.elim
 | .done _, _, h => h
 | .box _, _, h => den_forall fun r => den_comm (h r)
 | .chk _ _, _, h => den_and h.1 (den_comm h.2)
 | .eql _ _ _, _, h => den_and h.1 (den_comm h.2)
inductive LT where
 | leaf (l : List Nat)
 | ats (l : List At)
 | node (a b : LT)
def dq : List Ck → Option (List Nat × List Nat)
 | [] => some ([], [])
 | .eqN a b :: r => match dq r with | some (x, y) => some (a :: x, b :: y) | none => none
 | .ptr _ v :: r => if kn v then dq r else none
 | _ :: _ => none
theorem cS : ∀ {c : List Ck} {x y : List Nat}, dq c = some (x, y) → x = y → AllCk c
 | [], _, _, _, _ => trivial
 | .eqN a b :: r, x, y, h, e => by
  simp only [dq] at h
  split at h
  ·rename_i x' y' hr
   simp only [Option.some.injEq, Prod.mk.injEq] at h
   obtain ⟨rfl, rfl⟩ := h
   simp only [List.cons.injEq] at e
   exact ⟨e.1, cS hr e.2⟩
  ·simp at h
 | .ptr _ v :: r, x, y, h, e => by
  simp only [dq] at h
  split at h
  ·rename_i hv; exact ⟨fun _ => hv, cS h e⟩
  ·simp at h
 | .eqV _ _ :: _, _, _, h, _ => by simp [dq] at h
structure XS (α : Type) where
 x : LT
 y : LT
 rs : List Nat
 g : G α
def G.exN : Nat → G α → List Nat → XS α
 | 0, g, rs =>
  match g with
  | .box k => match rs with | [] => ⟨.leaf [], .leaf [], [], .fail 801⟩ | r :: rs => ⟨.leaf [], .leaf [], rs, k r⟩
  | .chk c g => match dq c with | some (x, y) => ⟨.leaf x, .leaf y, rs, g⟩ | none => ⟨.leaf [], .leaf [], rs, .fail 802⟩
  | .eql a b g => ⟨.ats a, .ats b, rs, g⟩
  | g => ⟨.leaf [], .leaf [], rs, g⟩
 | n + 1, g, rs =>
  match G.exN n g rs with
  | ⟨x, y, rs', g'⟩ =>
   match g' with
   | .done a => ⟨x, y, rs', .done a⟩
   | .fail k => ⟨x, y, rs', .fail k⟩
   | g' => match G.exN n g' rs' with | ⟨x', y', rs'', g''⟩ => ⟨.node x x', .node y y', rs'', g''⟩
theorem G.exN_spec : ∀ (n : Nat) (g : G α) (rs : List Nat), (∃ m, m ≤ rs.length ∧ (G.exN n g rs).rs = rs.drop m ∧
  ∀ t, G.exN n g (rs.take m ++ t) = ⟨(G.exN n g rs).x, (G.exN n g rs).y, t, (G.exN n g rs).g⟩) ∨ (∃ k, (G.exN n g rs).g = .fail k)
 | 0, g, rs => by
  cases g with
  | fail k => exact .inr ⟨k, rfl⟩
  | done a => exact .inl ⟨0, Nat.zero_le _, rfl, fun t => rfl⟩
  | box k =>
   cases rs with
   | nil => exact .inr ⟨801, rfl⟩
   | cons r rs => exact .inl ⟨1, by simp, rfl, fun t => rfl⟩
  | chk c g =>
   simp only [exN]
   split
   ·exact .inl ⟨0, Nat.zero_le _, rfl, fun t => rfl⟩
   ·exact .inr ⟨802, rfl⟩
  | eql a b g => exact .inl ⟨0, Nat.zero_le _, rfl, fun t => rfl⟩
 | n + 1, g, rs => by
  have h1 := exN_spec n g rs
  simp only [exN]
  generalize hx : G.exN n g rs = X at h1 ⊢
  obtain ⟨x, y, rs', g'⟩ := X
  rcases h1 with ⟨m, hm, hrs, ht⟩ | ⟨k, hk⟩
  ·simp only at hrs ht ⊢
   cases g' with
   | fail k => exact .inr ⟨k, rfl⟩
   | done a => exact .inl ⟨m, hm, hrs, fun t => by rw [ht t]⟩
   | box gg =>
    simp only
    rcases exN_spec n (.box gg) rs' with ⟨m', hm', hrs', ht'⟩ | ⟨k, hk⟩
    ·refine .inl ⟨m + m', ?_, ?_, fun t => ?_⟩
     ·rw [hrs, List.length_drop] at hm'; omega
     ·rw [hrs', hrs, List.drop_drop]
     ·have e : rs.take (m + m') ++ t = rs.take m ++ (rs'.take m' ++ t) := by
       rw [hrs, List.take_add, List.append_assoc]
      rw [e, ht]
      simp only
      rw [ht']
    ·exact .inr ⟨k, hk⟩
   | chk cc gg =>
    simp only
    rcases exN_spec n (.chk cc gg) rs' with ⟨m', hm', hrs', ht'⟩ | ⟨k, hk⟩
    ·refine .inl ⟨m + m', ?_, ?_, fun t => ?_⟩
     ·rw [hrs, List.length_drop] at hm'; omega
     ·rw [hrs', hrs, List.drop_drop]
     ·have e : rs.take (m + m') ++ t = rs.take m ++ (rs'.take m' ++ t) := by
       rw [hrs, List.take_add, List.append_assoc]
      rw [e, ht]
      simp only
      rw [ht']
    ·exact .inr ⟨k, hk⟩
   | eql aa bb gg =>
    simp only
    rcases exN_spec n (.eql aa bb gg) rs' with ⟨m', hm', hrs', ht'⟩ | ⟨k, hk⟩
    ·refine .inl ⟨m + m', ?_, ?_, fun t => ?_⟩
     ·rw [hrs, List.length_drop] at hm'; omega
     ·rw [hrs', hrs, List.drop_drop]
     ·have e : rs.take (m + m') ++ t = rs.take m ++ (rs'.take m' ++ t) := by
       rw [hrs, List.take_add, List.append_assoc]
      rw [e, ht]
      simp only
      rw [ht']
    ·exact .inr ⟨k, hk⟩
  ·simp only at hk
   subst hk
   exact .inr ⟨k, rfl⟩
theorem G.exN_den {P : α → Prop} : ∀ (n N : Nat) (g : G α), (∀ rs : List Nat, rs.length = N → (G.exN n g rs).x = (G.exN n g rs).y ∧
  (∀ t : List Nat, t.length = (G.exN n g rs).rs.length → (G.exN n g rs).g.den P)) → g.den P
 | 0, N, g, h => by
  cases g with
  | fail k => exact (h (List.replicate N 0) (by simp)).2 _ rfl
  | done a => exact (h (List.replicate N 0) (by simp)).2 _ rfl
  | box k =>
   cases N with
   | zero => exact ((h [] rfl).2 [] rfl).elim
   | succ N => exact fun r => (h (r :: List.replicate N 0) (by simp)).2 _ rfl
  | chk c g =>
   have := h (List.replicate N 0) (by simp)
   simp only [exN] at this
   split at this
   ·rename_i x y hc
    simp only [LT.leaf.injEq] at this
    exact ⟨cS hc this.1, this.2 _ rfl⟩
   ·exact (this.2 _ rfl).elim
  | eql a b g =>
   have := h (List.replicate N 0) (by simp)
   simp only [exN, LT.ats.injEq] at this
   exact ⟨this.1, this.2 _ rfl⟩
 | n + 1, N, g, h => by
  refine exN_den n N g fun rs hl => ?_
  have h0 := h rs hl
  simp only [exN] at h0
  have sp := exN_spec n g rs
  generalize hx : G.exN n g rs = X at h0 sp ⊢
  obtain ⟨x, y, rs', g'⟩ := X
  cases g' with
  | fail k => exact h0
  | done a => exact h0
  | box k =>
   simp only [LT.node.injEq] at h0 ⊢
   refine ⟨h0.1.1, fun _ _ => ?_⟩
   rcases sp with ⟨m, hm, hrs, ht⟩ | ⟨k', hk⟩
   ·refine exN_den n rs'.length _ fun rs2 hl2 => ?_
    have h2 := h (rs.take m ++ rs2) (by simp only at hrs; rw [List.length_append, List.length_take, hl2, hrs, List.length_drop]; omega)
    simp only [exN] at h2
    rw [ht] at h2
    simp only [LT.node.injEq] at h2
    exact ⟨h2.1.2, h2.2⟩
   ·simp at hk
  | chk c g'' =>
   simp only [LT.node.injEq] at h0 ⊢
   refine ⟨h0.1.1, fun _ _ => ?_⟩
   rcases sp with ⟨m, hm, hrs, ht⟩ | ⟨k', hk⟩
   ·refine exN_den n rs'.length _ fun rs2 hl2 => ?_
    have h2 := h (rs.take m ++ rs2) (by simp only at hrs; rw [List.length_append, List.length_take, hl2, hrs, List.length_drop]; omega)
    simp only [exN] at h2
    rw [ht] at h2
    simp only [LT.node.injEq] at h2
    exact ⟨h2.1.2, h2.2⟩
   ·simp at hk
  | eql a b g'' =>
   simp only [LT.node.injEq] at h0 ⊢
   refine ⟨h0.1.1, fun _ _ => ?_⟩
   rcases sp with ⟨m, hm, hrs, ht⟩ | ⟨k', hk⟩
   ·refine exN_den n rs'.length _ fun rs2 hl2 => ?_
    have h2 := h (rs.take m ++ rs2) (by simp only at hrs; rw [List.length_append, List.length_take, hl2, hrs, List.length_drop]; omega)
    simp only [exN] at h2
    rw [ht] at h2
    simp only [LT.node.injEq] at h2
    exact ⟨h2.1.2, h2.2⟩
   ·simp at hk
def XS.fine (p : α → Bool) (X : XS α) : Bool := match X.g with | .done a => p a | _ => false
theorem G.reckon {P : α → Prop} {p : α → Bool} (hp : ∀ a, p a = true → P a) (n N : Nat) (g : G α) (h : ∀ f : Nat → Nat, (G.exN n g ((List.range N).map f)).x = (G.exN n g ((List.range N).map f)).y ∧
  (G.exN n g ((List.range N).map f)).fine p = true) : g.den P := by
 refine G.exN_den n N g fun rs hl => ?_
 have e : rs = (List.range N).map fun i => rs.getD i 0 := by
  refine List.ext_getElem (by simp [hl]) fun i h1 h2 => ?_
  simp [h1]
 have := h fun i => rs.getD i 0
 rw [← e] at this
 refine ⟨this.1, fun _ _ => ?_⟩
 have h2 := this.2
 unfold XS.fine at h2
 split at h2
 ·rename_i a ha; rw [ha]; exact hp a h2
 ·cases h2
end
noncomputable section
abbrev nM := List (List UInt8 × Value)
structure MB where
 r : Nat
 kd : IntKind
 m : List (Int × Value)
 sm : Option nM
def MB.rows (m : MB) : List (Value × Value) :=
 match m.sm with
 | none => m.m.map fun p => (.int m.kd p.1, p.2)
 | some l => l.map fun p => (.string ⟨p.1.toArray⟩, p.2)
def MB.is (m : MB) (p : Nat × Obj) : Prop := ∃ es clock, p = (m.r, .map es clock) ∧ es.toList.map (fun e => (e.key, e.val)) = m.rows
def eH : List (Nat × MB) → Own → Prop
 | [], O => O = []
 | (_, m) :: r, O => ∃ p O', O = p :: O' ∧ m.is p ∧ eH r O'
structure HS where
 ms : List (Nat × MB)
 gr : List (Nat × Nat × Nat)
structure CS where
 s : SS
 h : HS
structure Upd where
 val : Option SV
 bx : List (Nat × Option Bx)
 hv : Option (Nat × HS)
def aH (l : List (Nat × Option Bx)) (n : Nat) : Option (Option Bx) :=
 match l with
 | [] => none
 | (k, a) :: r => if n = k then some a else aH r n
def f9 (d : Option Tmp) (v : Option SV) (f : Nat → SV) : Nat → SV :=
 match d, v with
 | some d, some v => fun t => if t = d then v else f t
 | _, _ => f
def mH (l : List (Nat × Option Bx)) (f : Nat → Option Bx) : Nat → Option Bx :=
 match l with
 | [] => f
 | p :: r => fun n => match aH (p :: r) n with | some b => b | none => f n
def CS.app (d : Option Tmp) (u : Upd) (x : CS) : CS :=
  { s :=
    { sz := x.s.sz
      tmps := f9 d u.val x.s.tmps
      mem := mH u.bx x.s.mem
      next := match u.hv with | some h => h.1 | none => x.s.next }
    h := match u.hv with | some h => h.2 | none => x.h }
structure Ef where
 cs : List Ck
 body : G Upd
 rd : List Nat
 wr : List Nat
 lo : Option Nat
def okU (hi : Nat) (e : Ef) (u : Upd) : Bool :=
 match e.lo with
 | none => u.hv.isNone && u.bx.all (fun p => e.wr.contains p.1) && e.wr.all (fun n => decide (n < hi))
 | some l => match u.hv with
  | some h => decide (l ≤ h.1) && decide (hi ≤ l) && u.bx.all fun p => (e.wr.contains p.1 || decide (l ≤ p.1)) && decide (p.1 < h.1)
  | none => false
def Ef.run (hi : Nat) (e : Ef) (d : Option Tmp) (x : CS) (K : CS → Prop) : Prop := AllCk e.cs ∧ e.body.den fun u => okU hi e u = true ∧ K (x.app d u)
theorem Ef.run_mono {hi : Nat} {e : Ef} {d : Option Tmp} {x : CS} {K K' : CS → Prop} (hk : ∀ x, K x → K' x) (h : e.run hi d x K) : e.run hi d x K' :=
 ⟨h.1, G.den_mono (fun _ h => ⟨h.1, hk _ h.2⟩) h.2⟩
theorem gx {l : List (Nat × Option Bx)} {n : Nat} (h : ∀ p ∈ l, p.1 ≠ n) : aH l n = none := by
 induction l with
 | nil => rfl
 | cons p r ih =>
  obtain ⟨k, a⟩ := p
  have := h (k, a) (by simp)
  simp only at this
  simp only [aH, if_neg (fun e : n = k => this e.symm)]
  exact ih fun p hp => h p (List.mem_cons_of_mem _ hp)
theorem dW {l : List (Nat × Option Bx)} {n : Nat} {b : Option Bx} (h : aH l n = some b) : (n, b) ∈ l := by
 induction l with
 | nil => simp [aH] at h
 | cons p r ih =>
  obtain ⟨k, a⟩ := p
  simp only [aH] at h
  split at h
  ·rename_i e; simp only [Option.some.injEq] at h; subst h; subst e; simp
  ·exact List.mem_cons_of_mem _ (ih h)
theorem mX {d : Option Tmp} {v : Option SV} {f : Nat → SV} {t : Nat} (h : ∀ e, d = some e → t ≠ e) : f9 d v f t = f t := by
 unfold f9
 split
 ·simp only [if_neg (h _ rfl)]
 ·rfl
theorem fe {d : Tmp} {v : Option SV} {f : Nat → SV} : f9 (some d) v f d = v.getD (f d) := by
 cases v <;> simp [f9]
theorem ff {l : List (Nat × Option Bx)} {f : Nat → Option Bx} {n : Nat} : mH l f n = match aH l n with | some b => b | none => f n := by
 cases l <;> rfl
theorem CS.app_tmps {d : Option Tmp} {u : Upd} {x : CS} {t : Nat} (h : ∀ e, d = some e → t ≠ e) : (x.app d u).s.tmps t = x.s.tmps t := mX h
theorem CS.app_mem {d : Option Tmp} {u : Upd} {x : CS} {n : Nat} : (x.app d u).s.mem n = match aH u.bx n with | some b => b | none => x.s.mem n := ff
theorem CS.app_mem' {d : Option Tmp} {u : Upd} {x : CS} {n : Nat} (h : ∀ p ∈ u.bx, p.1 ≠ n) : (x.app d u).s.mem n = x.s.mem n := by
 rw [CS.app_mem, gx h]
theorem CS.ext' {x y : CS} (h1 : x.s.sz = y.s.sz) (h2 : ∀ t, x.s.tmps t = y.s.tmps t) (h3 : ∀ n, x.s.mem n = y.s.mem n) (h4 : x.s.next = y.s.next) (h5 : x.h = y.h) : x = y := by
 obtain ⟨⟨a, b, c, d⟩, e⟩ := x
 obtain ⟨⟨a', b', c', d'⟩, e'⟩ := y
 simp only at *
 subst h1; subst h4; subst h5
 have : b = b' := funext h2
 subst this
 have : c = c' := funext h3
 subst this
 rfl
theorem CS.app_comm {da db : Option Tmp} {u v : Upd} {x : CS} (hd : ∀ d, da = some d → db ≠ some d) (hb : ∀ p ∈ u.bx, ∀ q ∈ v.bx, p.1 ≠ q.1) (hh : u.hv = none ∨ v.hv = none) :
  (x.app db v).app da u = (x.app da u).app db v := by
 refine CS.ext' rfl (fun t => ?_) (fun n => ?_) ?_ ?_
 ·by_cases h1 : da = some t
  ·have h2 : ∀ e, db = some e → t ≠ e := fun e he e' => hd t h1 (e' ▸ he)
   rw [CS.app_tmps (d := db) h2]
   subst h1
   show f9 _ _ (x.app db v).s.tmps t = f9 _ _ x.s.tmps t
   rw [fe, fe, CS.app_tmps h2]
  ·have h1' : ∀ e, da = some e → t ≠ e := fun e he e' => h1 (e' ▸ he)
   rw [CS.app_tmps (d := da) h1']
   by_cases h2 : db = some t
   ·subst h2
    show f9 _ _ x.s.tmps t = f9 _ _ (x.app da u).s.tmps t
    rw [fe, fe, CS.app_tmps h1']
   ·have h2' : ∀ e, db = some e → t ≠ e := fun e he e' => h2 (e' ▸ he)
    rw [CS.app_tmps h2', CS.app_tmps h2', CS.app_tmps h1']
 ·rw [CS.app_mem, CS.app_mem]
  cases hu : aH u.bx n with
  | none =>
   simp only
   rw [CS.app_mem]
   cases hv : aH v.bx n with
   | none => simp only; rw [CS.app_mem, hu]
   | some b => rfl
  | some b =>
   have : aH v.bx n = none := gx fun q hq e => hb _ (dW hu) q hq e.symm
   simp only
   rw [CS.app_mem, this]
   simp only
   rw [CS.app_mem, hu]
 ·unfold CS.app
  rcases hh with h | h <;> simp only [h]
 ·unfold CS.app
  rcases hh with h | h <;> simp only [h]
def jN (N : CS → Option Ef) (l : List Tmp) : Prop :=
 ∀ x x' e, N x = some e → x'.s.sz = x.s.sz → (∀ t ∈ l, x'.s.tmps t = x.s.tmps t) → (∀ n ∈ e.rd, x'.s.mem n = x.s.mem n) → (e.lo.isSome = true → x'.s.next = x.s.next ∧ x'.h = x.h) → N x' = some e
def cL (a b : Ef) : Bool := kE a.wr b.rd && kE a.wr b.wr && kE a.rd b.wr &&
 match a.lo, b.lo with
 | some _, some _ => false
 | some l, none => b.rd.all (fun n => decide (n < l)) && b.wr.all (fun n => decide (n < l))
 | none, some l => a.rd.all (fun n => decide (n < l)) && a.wr.all (fun n => decide (n < l))
 | none, none => true
theorem dk {hi : Nat} {a b : Ef} {u : Upd} (h : cL a b = true) (hu : okU hi a u = true) : ∀ p ∈ u.bx, p.1 ∉ b.rd ∧ p.1 ∉ b.wr ∧ (∀ l, b.lo = some l → p.1 < l) := by
 intro p hp
 simp only [cL, Bool.and_eq_true] at h
 obtain ⟨⟨⟨h1, h2⟩, h3⟩, h4⟩ := h
 unfold okU at hu
 cases hl : a.lo with
 | none =>
  simp only [hl, Bool.and_eq_true, List.all_eq_true] at hu
  have := hu.1.2 p hp
  have hin : p.1 ∈ a.wr := by simpa using this
  refine ⟨cQ h1 hin, cQ h2 hin, fun l hb => ?_⟩
  simp only [hl, hb, Bool.and_eq_true, List.all_eq_true] at h4
  simpa using h4.2 _ hin
 | some l =>
  simp only [hl] at hu
  split at hu
  ·rename_i hh hhv
   simp only [Bool.and_eq_true, List.all_eq_true] at hu
   have hp' := (hu.2 p hp).1
   simp only [Bool.or_eq_true, decide_eq_true_eq] at hp'
   cases hb : b.lo with
   | some l' => simp only [hl, hb] at h4; cases h4
   | none =>
    simp only [hl, hb, Bool.and_eq_true, List.all_eq_true, decide_eq_true_eq] at h4
    rcases hp' with hin | hge
    ·have hin : p.1 ∈ a.wr := by simpa using hin
     exact ⟨cQ h1 hin, cQ h2 hin, fun _ e => by cases e⟩
    ·exact ⟨fun hr => by have := h4.1 _ hr; omega, fun hw => by have := h4.2 _ hw; omega, fun _ e => by cases e⟩
  ·cases hu
theorem gA {a b : Ef} (h : cL a b = true) : cL b a = true := by
 simp only [cL, Bool.and_eq_true] at h ⊢
 obtain ⟨⟨⟨h1, h2⟩, h3⟩, h4⟩ := h
 have sw : ∀ {x y : List Nat}, kE x y = true → kE y x = true := by
  intro x y hxy
  unfold kE
  rw [List.all_eq_true]
  intro n hn
  simpa using kq hxy hn
 refine ⟨⟨⟨sw h3, sw h2⟩, sw h1⟩, ?_⟩
 cases ha : a.lo <;> cases hb : b.lo <;> simp_all
theorem k7 {hi : Nat} {a : Ef} {u : Upd} (hu : okU hi a u = true) (h : a.lo = none) : u.hv = none := by
 unfold okU at hu
 simp only [h, Bool.and_eq_true, Option.isNone_iff_eq_none] at hu
 exact hu.1.1
theorem j2 {a b : Ef} (h : cL a b = true) : a.lo = none ∨ b.lo = none := by
 simp only [cL, Bool.and_eq_true] at h
 cases ha : a.lo with
 | none => exact .inl rfl
 | some l => cases hb : b.lo with
  | none => exact .inr rfl
  | some l' => simp [ha, hb] at h
theorem iq {hi : Nat} {N : CS → Option Ef} {l : List Tmp} (hC : jN N l) {da : Option Tmp} (hd : ∀ d, da = some d → d ∉ l) {a b : Ef} {u : Upd} {x : CS} (hi' : cL a b = true) (hu : okU hi a u = true) :
  N x = some b ↔ N (x.app da u) = some b := by
 have hn := dk hi' hu
 have hne : ∀ n ∈ b.rd, (x.app da u).s.mem n = x.s.mem n := fun n hr => CS.app_mem' fun p hp e => (hn p hp).1 (e ▸ hr)
 have ht : ∀ t ∈ l, (x.app da u).s.tmps t = x.s.tmps t := fun t htl => CS.app_tmps fun e he e' => hd e he (e' ▸ htl)
 have hs : b.lo.isSome = true → (x.app da u).s.next = x.s.next ∧ (x.app da u).h = x.h := by
  intro hb
  have hau : u.hv = none := k7 hu ((j2 hi').resolve_right (fun e => by simp [e] at hb))
  unfold CS.app
  simp only [hau]
  exact ⟨trivial, trivial⟩
 constructor
 ·intro h; exact hC x _ b h rfl ht hne hs
 ·intro h; exact hC _ x b h rfl (fun t h' => (ht t h').symm) (fun n h' => (hne n h').symm) (fun h' => ⟨(hs h').1.symm, (hs h').2.symm⟩)
theorem nR {hi : Nat} {da db : Option Tmp} {la lb : List Tmp} {Na Nb : CS → Option Ef} (Ca : jN Na la) (Cb : jN Nb lb)
  (h1 : ∀ d, da = some d → d ∉ lb) (h2 : ∀ d, da = some d → db ≠ some d) (h3 : ∀ d, db = some d → d ∉ la)
  {x : CS} {ea : Ef} (ha : Na x = some ea) {C : Ef → Prop} {K : CS → Prop}
  (hb : ea.run hi da x fun x' => ∃ eb, Nb x' = some eb ∧ cL ea eb = true ∧ C eb ∧ eb.run hi db x' K) :
  ∃ eb, Nb x = some eb ∧ cL ea eb = true ∧ C eb ∧ eb.run hi db x fun x' => Na x' = some ea ∧ ea.run hi da x' K := by
 obtain ⟨hcs, hb⟩ := hb
 obtain ⟨u0, hu0, eb, hn0, hi0, hC0, hr0⟩ := G.den_ex hb
 have hNb : Nb x = some eb := (iq Cb h1 hi0 hu0).2 hn0
 refine ⟨eb, hNb, hi0, hC0, hr0.1, ?_⟩
 have hb' : ea.body.den fun u => eb.body.den fun v => okU hi ea u = true ∧ okU hi eb v = true ∧ K ((x.app da u).app db v) := by
  refine G.den_mono ?_ hb
  rintro u ⟨hu, eb', hn', hi', _, hr'⟩
  have : eb' = eb := by
   have := (iq Cb h1 hi' hu).2 hn'
   rw [hNb] at this
   exact (Option.some.inj this).symm
  subst this
  exact G.den_mono (fun v hv => ⟨hu, hv.1, hv.2⟩) hr'.2
 have hc := G.den_comm hb'
 refine G.den_mono ?_ hc
 intro v hv
 obtain ⟨u1, hu1, hv1, _⟩ := G.den_ex hv
 refine ⟨hv1, (iq Ca h3 (gA hi0) hv1).1 ha, hcs, G.den_mono ?_ hv⟩
 rintro u ⟨hu, _, hk⟩
 refine ⟨hu, ?_⟩
 rw [CS.app_comm h2 ?_ ?_]
 ·exact hk
 ·intro p hp q hq e
  have hp' := dk hi0 hu p hp
  have hq' := dk (gA hi0) hv1 q hq
  have hv1' := hv1
  unfold okU at hv1'
  cases hl : eb.lo with
  | none =>
   simp only [hl, Bool.and_eq_true, List.all_eq_true] at hv1'
   have := hv1'.1.2 q hq
   exact hp'.2.1 (e ▸ (by simpa using this))
  | some l =>
   simp only [hl] at hv1'
   split at hv1'
   ·simp only [Bool.and_eq_true, List.all_eq_true] at hv1'
    have h5 := (hv1'.2 q hq).1
    simp only [Bool.or_eq_true, decide_eq_true_eq] at h5
    rcases h5 with h5 | h5
    ·exact hp'.2.1 (e ▸ (by simpa using h5))
    ·have := hp'.2.2 l hl; omega
   ·cases hv1'
 ·rcases j2 hi0 with h | h
  ·exact .inl (k7 hu h)
  ·exact .inr (k7 hv1 h)
def nQ (bx : List (Nat × Option Bx)) (hv : Option (Nat × HS)) (sz : Nat) (tm : Nat → SV) (mem : Nat → Option Bx) (next : Nat) (h : HS) : CS :=
 match hv with
 | none => match bx with
  | [] => ⟨⟨sz, tm, mem, next⟩, h⟩
  | p :: r => ⟨⟨sz, tm, fun n => match aH (p :: r) n with | some b => b | none => mem n, next⟩, h⟩
 | some q => match q with
  | (nx, h') => match bx with
   | [] => ⟨⟨sz, tm, mem, nx⟩, h'⟩
   | p :: r => ⟨⟨sz, tm, fun n => match aH (p :: r) n with | some b => b | none => mem n, nx⟩, h'⟩
def CS.appD (d : Option Tmp) (u : Upd) (x : CS) : CS :=
 match x with
 | ⟨⟨sz, tmps, mem, next⟩, h⟩ =>
  match u with
  | ⟨val, bx, hv⟩ =>
   match d with
   | none => nQ bx hv sz tmps mem next h
   | some d => match val with
    | none => nQ bx hv sz tmps mem next h
    | some v => nQ bx hv sz (fun t => match Nat.beq t d with | true => v | false => tmps t) mem next h
theorem jF (bx : List (Nat × Option Bx)) (hv : Option (Nat × HS)) (sz : Nat) (tm : Nat → SV) (mem : Nat → Option Bx) (next : Nat) (h : HS) :
  nQ bx hv sz tm mem next h = ⟨⟨sz, tm, mH bx mem, match hv with | some h => h.1 | none => next⟩, match hv with | some h => h.2 | none => h⟩ := by
 cases hv with
 | none => cases bx <;> rfl
 | some q => cases bx <;> rfl
theorem CS.appD_eq (d : Option Tmp) (u : Upd) (x : CS) : x.appD d u = x.app d u := by
 obtain ⟨⟨sz, tmps, mem, next⟩, h⟩ := x
 obtain ⟨val, bx, hv⟩ := u
 cases d with
 | none => simp only [CS.appD, CS.app, jF, f9]
 | some d =>
  cases val with
  | none => simp only [CS.appD, CS.app, jF, f9]
  | some v =>
   have e : (fun t => match Nat.beq t d with | true => v | false => tmps t) = f9 (some d) (some v) tmps := by
    funext t
    simp only [f9]
    by_cases e : t = d
    ·subst e; simp
    ·have : Nat.beq t d = false := by
      cases hb : Nat.beq t d with
      | false => rfl
      | true => exact absurd (Nat.eq_of_beq_eq_true hb) e
     rw [this, if_neg e]
   simp only [CS.appD, CS.app, jF]
   rw [e]
def CS.bump (x : CS) (n : Nat) : CS := match x with | ⟨⟨sz, tmps, mem, next⟩, h⟩ => ⟨⟨sz, tmps, mem, next + n⟩, h⟩
theorem CS.bump_eq (x : CS) (n : Nat) : x.bump n = { x with s := { x.s with next := x.s.next + n } } := by
 obtain ⟨⟨sz, tmps, mem, next⟩, h⟩ := x; rfl
structure kz where
 i : Nat
 o : Oper
 e : Ef
def b0 (ops : Array Oper) (tab : List (Nat × Nat)) (i : Nat) (o : Oper) (x : Ef) (log : List kz) : Bool :=
 log.all fun l => k3 tab l.i i || (cL l.e x && Oper.apart ops l.o o)
structure RX where
 P : Program
 ops : Array Oper
 tab : List (Nat × Nat)
 hi : Nat
 N : Nat → Oper → CS → Option Ef
def RX.rr (c : RX) (d : Bool) (K : CS → Prop) : List (Nat × Oper) → List kz → CS → Prop
 | [], _, x => K x
 | (i, o) :: r, log, x => ∃ e, c.N i o x = some e ∧ (d = true → b0 c.ops c.tab i o e log = true) ∧ e.run c.hi o.dst x (RX.rr c d K r (if d then ⟨i, o, e⟩ :: log else log))
def RX.reg (c : RX) (d : Bool) : List (Nat × Oper) → List kz → CS → G CS
 | [], _, x => .done x
 | (i, o) :: r, log, x =>
  match c.N i o x with
  | none => .fail (1000 + i)
  | some e =>
   if d && !b0 c.ops c.tab i o e log then .fail (2000 + i)
   else G.mchk e.cs (e.body.bind fun u => if okU c.hi e u then RX.reg c d r (if d then ⟨i, o, e⟩ :: log else log) (x.appD o.dst u) else .fail (3000 + i))
theorem RX.reg_den {c : RX} {d : Bool} {K : CS → Prop} : ∀ {l : List (Nat × Oper)} {log : List kz} {x : CS}, (c.reg d l log x).den K → c.rr d K l log x
 | [], _, _, h => h
 | (i, o) :: r, log, x, h => by
  simp only [RX.reg] at h
  split at h
  ·exact h.elim
  ·rename_i e he
   split at h
   ·exact h.elim
   ·rename_i hc
    obtain ⟨h1, h2⟩ := G.den_mchk h
    refine ⟨e, he, fun hd => ?_, h1, G.den_mono (fun u hu => ?_) (G.den_bind h2)⟩
    ·subst hd
     simpa using hc
    ·split at hu
     ·rename_i hok; rw [CS.appD_eq] at hu; exact ⟨hok, RX.reg_den hu⟩
     ·exact hu.elim
theorem gq {ops : Array Oper} {tab : List (Nat × Nat)} {i : Nat} {o : Oper} {x : Ef} {log log' : List kz} (hs : ∀ e, e ∈ log' → e ∈ log) (h : b0 ops tab i o x log = true) : b0 ops tab i o x log' = true := by
 unfold b0 at *
 rw [List.all_eq_true] at *
 exact fun e he => h e (hs e he)
theorem RX.weaken {c : RX} {K : CS → Prop} : ∀ {l : List (Nat × Oper)} {log log' : List kz} {x : CS}, (∀ e, e ∈ log' → e ∈ log) → c.rr true K l log x → c.rr true K l log' x
 | [], _, _, _, _, h => h
 | (i, o) :: r, log, log', x, hs, ⟨e, he, hc, hr⟩ => by
  refine ⟨e, he, fun hd => gq hs (hc hd), Ef.run_mono (fun _ hk => RX.weaken ?_ hk) hr⟩
  intro e he
  simp only [if_true, List.mem_cons] at he ⊢
  exact he.imp id (hs e)
theorem RX.front {c : RX} (hcong : ∀ i o, jN (c.N i o) (o.looksAt c.ops)) {K : CS → Prop} {i : Nat} {o : Oper} {l2 : List (Nat × Oper)} : ∀ {l1 : List (Nat × Oper)} {log : List kz} {x : CS},
  c.rr true K (l1 ++ (i, o) :: l2) log x → (∀ e ∈ l1, k3 c.tab e.1 i = false) →
  ∃ e, c.N i o x = some e ∧ b0 c.ops c.tab i o e log = true ∧ e.run c.hi o.dst x (c.rr true K (l1 ++ l2) log)
 | [], log, x, ⟨e, he, hc, hr⟩, _ => ⟨e, he, hc rfl, Ef.run_mono (fun _ hk => RX.weaken (fun e he => by simp [he]) hk) hr⟩
 | (a, oa) :: l1, log, x, ⟨ea, hea, hc, hr⟩, ho => by
  have hc := hc rfl
  have hoa : k3 c.tab a i = false := ho (a, oa) (by simp)
  have hr' := Ef.run_mono (fun x' hk => RX.front hcong (l1 := l1) hk (fun e he => ho e (by simp [he]))) hr
  have hlog : ∀ {y : Ef}, b0 c.ops c.tab i o y (⟨a, oa, ea⟩ :: log) = true → cL ea y = true ∧ Oper.apart c.ops oa o = true ∧ b0 c.ops c.tab i o y log = true := by
   intro y h
   refine ⟨?_, ?_, gq (fun e he => by simp [he]) h⟩
   all_goals
    unfold b0 at h
    rw [List.all_cons, Bool.and_eq_true] at h
    have := h.1
    simp only [hoa, Bool.false_or, Bool.and_eq_true] at this
   ·exact this.1
   ·exact this.2
  have hap : Oper.apart c.ops oa o = true := by
   obtain ⟨_, _, y, _, hl, _⟩ := G.den_ex hr'.2
   exact (hlog hl).2.1
  obtain ⟨p1, p2, p3⟩ := Oper.apart_spec hap
  have := nR (hi := c.hi) (hcong a oa) (hcong i o) p1 p2 p3 hea (C := fun y => b0 c.ops c.tab i o y log = true) (K := c.rr true K (l1 ++ l2) (⟨a, oa, ea⟩ :: log))
   (Ef.run_mono (fun x' ⟨y, hy, hl, hrun⟩ => ⟨y, hy, (hlog hl).1, (hlog hl).2.2, hrun⟩) hr')
  obtain ⟨y, hy, he, hC, hrun⟩ := this
  exact ⟨y, hy, hC, Ef.run_mono (fun x' ⟨h1, h3⟩ => ⟨ea, h1, fun _ => hc, h3⟩) hrun⟩
def CC (hi : Nat) (F : Own) (x : CS) (H : Heap) (a : Act) (w : World) : Prop :=
 (∃ O, eH x.h.ms O ∧ Conc F x.s H O a w) ∧ (∀ n, x.s.next ≤ n → x.s.mem n = none) ∧ hi ≤ x.s.next
def RX.Sound (c : RX) (H : Heap) : Prop := ∀ i o x e, c.ops[i]? = some o → c.N i o x = some e → ∀ (F : Own) (a : Act) (w : World) (K : CS → Prop) (Q : Exit → Act → World → Prop),
 CC c.hi F x H a w → e.run c.hi o.dst x K → wp1 c.P c.ops Q o (fun a' w' => ∃ x', CC c.hi F x' H a' w' ∧ K x') a w
theorem RX.any {c : RX} (hcong : ∀ i o, jN (c.N i o) (o.looksAt c.ops)) {H : Heap} (hsound : c.Sound H) (R : RC) (hRo : R.ops = c.ops) (hRt : R.tab = c.tab) (hT : nL R) {F : Own} {K : CS → Prop} {Q : Exit → Act → World → Prop} : ∀ (n : Nat) {l : List (Nat × Oper)} {fuel : Nat} {L : Array Bool} {x : CS} {a : Act} {w : World},
  l.length = n → n ≤ fuel → Inv R L l → CC c.hi F x H a w → c.rr true K l [] x →
  (∀ x' a' w', CC c.hi F x' H a' w' → K x' → Q .normal a' w') → wpAny c.P .any c.ops Q fuel L a w := by
 intro n
 induction n with
 | zero =>
  intro l fuel L x a w hl hf hI hC hR hK
  have : l = [] := List.eq_nil_of_length_eq_zero hl
  subst this
  refine wpAny_done ?_ (hK x a w hC hR) fuel
  refine List.eq_nil_iff_forall_not_mem.2 fun i hi => ?_
  obtain ⟨o, ho⟩ := (hI.pend i).1 (mem_ready.1 hi).1
  simp at ho
 | succ n ih =>
  intro l fuel L x a w hl hf hI hC hR hK
  cases fuel with
  | zero => omega
  | succ f =>
   refine ⟨fun h0 => ?_, fun i hi => ?_⟩
   ·exfalso
    match l, hl with
    | (i, o) :: r, _ =>
     have : i ∈ Region.ready .any c.ops L := by
      refine mem_ready.2 ⟨(hI.pend i).2 ⟨o, by simp⟩, o, by rw [← hRo]; exact hI.op i o (by simp), fun e he hb => ?_⟩
      exact hI.topo.1 e.on (iU.2 ⟨e, he, hb, rfl⟩)
     rw [h0] at this; simp at this
   ·obtain ⟨hun, o, ho, hall⟩ := mem_ready.1 hi
    obtain ⟨o', hmem⟩ := (hI.pend i).1 hun
    have : o' = o := by have := hI.op i o' hmem; rw [hRo, ho] at this; exact (Option.some.inj this).symm
    subst this
    obtain ⟨l1, l2, rfl⟩ := List.append_of_mem hmem
    have hpr : ∀ p ∈ a9 o', L.getD p false = true := by
     intro p hp
     obtain ⟨e, he, hb, rfl⟩ := iU.1 hp
     exact hall e he hb
    obtain ⟨y, hy, _, hrun⟩ := RX.front hcong hR (fun e he => by
     cases hoe : k3 c.tab e.1 i with
     | false => rfl
     | true =>
      exfalso
      have hu : L.getD e.1 false = false := hI.unlisted (o := e.2) (by simp [he])
      rcases hT i e.1 o' (by rw [hRt]; exact hoe) (by rw [hRo]; exact ho) with h1 | ⟨p, hp, h1⟩
      ·rw [hpr _ h1] at hu; cases hu
      ·rw [hI.closed p e.1 (hpr p hp) h1] at hu; cases hu)
    have hs := hsound i o' x y ho hy F a w _ Q hC hrun
    have hwp : wpOp c.P c.ops Q i (fun a' w' => ∃ x', CC c.hi F x' H a' w' ∧ c.rr true K (l1 ++ l2) [] x') a w := by
     unfold wpOp
     rw [ho]
     exact hs
    refine wpOp_mono ?_ hwp
    rintro a' w' ⟨x', hC', hR'⟩
    refine ih (l := l1 ++ l2) ?_ (by omega) (hI.step hT hpr) hC' hR' hK
    simp only [List.length_append, List.length_cons] at hl ⊢; omega
theorem RX.ordered {c : RX} {H : Heap} (hsound : c.Sound H) {F : Own} {K : CS → Prop} {Q : Exit → Act → World → Prop} : ∀ (l : List (Nat × Oper)) {log : List kz} {x : CS} {a : Act} {w : World},
  (∀ e ∈ l, c.ops[e.1]? = some e.2) → CC c.hi F x H a w → c.rr false K l log x →
  (∀ x' a' w', CC c.hi F x' H a' w' → K x' → Q .normal a' w') → wpOps c.P c.ops Q (l.map (·.1)) a w
 | [], _, x, a, w, _, hC, hR, hK => hK x a w hC hR
 | (i, o) :: r, log, x, a, w, ho, hC, ⟨y, hy, _, hrun⟩, hK => by
  have hs := hsound i o x y (ho (i, o) (by simp)) hy F a w _ Q hC hrun
  rw [List.map_cons, wpOps_cons]
  have hwp : wpOp c.P c.ops Q i (fun a' w' => ∃ x', CC c.hi F x' H a' w' ∧ c.rr false K r log x') a w := by
   unfold wpOp
   rw [ho (i, o) (by simp)]
   exact hs
  refine wpOp_mono ?_ hwp
  rintro a' w' ⟨x', hC', hR'⟩
  exact RX.ordered hsound r (fun e he => ho e (by simp [he])) hC' hR' hK
def dL (P : Program) (N : Array Oper → Nat → Nat → Oper → CS → Option Ef) (ops : Array Oper) (draw : Bool) (x : CS) : G CS :=
 let l := aQ 0 ops.toList
 let hi := x.s.next + ops.size
 let x' : CS := x.bump ops.size
 if draw then
  let l' := bU ops.size 0 l
  if topo ops.size 0 l' then RX.reg ⟨P, ops, ba l' [], hi, N ops x.s.next⟩ true l' [] x' else .fail 3000
 else RX.reg ⟨P, ops, [], hi, N ops x.s.next⟩ false l [] x'
theorem CC.drew {hi : Nat} {F : Own} {x : CS} {H : Heap} {a : Act} {w : World} (h : CC hi F x H a w) (n : Nat) : CC hi F x H a { w with drawn := n } :=
 let ⟨⟨O, h1, h2⟩, h3, h4⟩ := h; ⟨⟨O, h1, h2.drew n⟩, h3, h4⟩
theorem gk {P : Program} (hm : P.follows .mixedOrders = true) {N : Array Oper → Nat → Nat → Oper → CS → Option Ef} {id : Nat} {ops : Array Oper} {draw : Bool} {x : CS}
  (hcong : ∀ base i o, jN (N ops base i o) (o.looksAt ops)) {H : Heap} (hsound : ∀ base tab, RX.Sound ⟨P, ops, tab, base + ops.size, N ops base⟩ H)
  {F : Own} {a : Act} {w : World} {K : CS → Prop} {Q : Exit → Act → World → Prop} (h : (dL P N ops draw x).den K) {hi : Nat} (hC : CC hi F x H a w)
  (hK : ∀ x' a' w', CC hi F x' H a' w' → K x' → Q .normal a' w') : (Code.region id ops draw).wp P Q a w := by
 have hC' : CC (x.s.next + ops.size) F { x with s := { x.s with next := x.s.next + ops.size } } H a w := by
  obtain ⟨⟨O, h1, h2⟩, h3, h4⟩ := hC
  exact ⟨⟨O, h1, h2.next _⟩, fun n hn => h3 n (by simp only at hn; omega), Nat.le_refl _⟩
 have hK' : ∀ x' a' w', CC (x.s.next + ops.size) F x' H a' w' → K x' → Q .normal a' w' := by
  intro x' a' w' h1 h2
  obtain ⟨h3, h4, h5⟩ := h1
  exact hK x' a' w' ⟨h3, h4, by have := hC.2.2; omega⟩ h2
 unfold dL at h
 simp only [CS.bump_eq] at h
 have hops : ∀ e ∈ aQ 0 ops.toList, ops[e.1]? = some e.2 := by
  intro e he
  have := (er he).2
  simpa using this
 cases draw with
 | true =>
  simp only [if_true] at h
  split at h
  ·rename_i ht
   have hR := RX.reg_den h
   obtain ⟨t1, t2, t3, t4⟩ := iG ht
   have hop : ∀ i o, (i, o) ∈ bU ops.size 0 (aQ 0 ops.toList) → ops[i]? = some o := fun i o hi => hops (i, o) (eZ hi)
   refine wp_region_any hm ?_
   refine RX.any (c := ⟨P, ops, ba (bU ops.size 0 (aQ 0 ops.toList)) [], x.s.next + ops.size, N ops x.s.next⟩) (hcong _) (hsound _ _)
    ⟨P, fun _ => false, fun _ => none, ops, ba (bU ops.size 0 (aQ 0 ops.toList)) [], [], 0⟩ rfl rfl ?_ (bU ops.size 0 (aQ 0 ops.toList)).length rfl ?_ ?_ (hC'.drew _) hR hK'
   ·intro i j o ho hi
    have hlt : i < ops.size := (Array.getElem?_eq_some_iff.1 hi).1
    obtain ⟨o', ho'⟩ := ((t1 i).1 hlt).resolve_left (by simp)
    have : o' = o := by have := hop i o' ho'; simp only [] at hi; rw [hi] at this; exact (Option.some.inj this).symm
    subst this
    exact (ej (tab := []) t2 (fun _ _ h => by simp [t3 _ _ h]) t4).2 i o' j ho' ho
   ·have := fx ops.size _ t2 (fun i hi => by
     obtain ⟨e, he, rfl⟩ := List.mem_map.1 hi
     exact (t1 e.1).2 (.inr ⟨e.2, he⟩))
    simpa using this
   ·refine ⟨by simp, fun i => ?_, hop, t2, t4.mono (by simp), fun i j hi => ?_⟩
    ·rw [show ((Array.replicate ops.size false).getD i true = false) ↔ i < ops.size by
      by_cases hlt : i < ops.size <;> simp [Array.getD, hlt]]
     rw [t1]; simp
    ·exfalso
     by_cases hlt : i < ops.size <;> simp [Array.getD, hlt] at hi
  ·exact h.elim
 | false =>
  simp only [Bool.false_eq_true, if_false] at h
  have hR := RX.reg_den h
  refine wp_region ?_
  have := RX.ordered (c := ⟨P, ops, [], x.s.next + ops.size, N ops x.s.next⟩) (Q := Q) (hsound _ _) (aQ 0 ops.toList) hops hC' hR hK'
  rw [eu] at this
  rw [List.range_eq_range']
  simpa using this
end
noncomputable section
variable {P : Program}
def nt : Value → Bool
 | .int _ _ | .bool _ | .string _ | .nilFunc | .nilIface => true
 | .pointer none | .slice none _ _ | .map none => true
 | _ => false
def hF : At → At
 | .v x => if nt x then .k x else .v x
 | a => a
def hD : S1 → S1
 | .at a => .at (hF a)
 | .agg l => .agg (l.map hF)
def a3 : SV → SV
 | .s x => .s (hD x)
 | .tup l => .tup (l.map hD)
 | .opt gl x => .opt gl (hD x)
theorem dC (a : At) : (hF a).den = a.den := by
 cases a <;> simp only [hF]
 split <;> rfl
theorem hE {a : At} (h : a.ok) : (hF a).ok := by
 cases a <;> simp only [hF] <;> first | exact h | skip
 split
 ·trivial
 ·exact h
theorem fw (x : S1) : (hD x).den = x.den := by
 rcases x with a | l
 ·exact dC a
 ·simp only [hD, S1.den, List.map_map, Function.comp_def, dC]
theorem g9 {x : S1} (h : x.ok) : (hD x).ok := by
 rcases x with a | l
 ·exact aW (hE (h a (by simp [S1.cells])))
 ·intro a ha
  simp only [hD, S1.cells, List.mem_map] at ha
  obtain ⟨b, hb, rfl⟩ := ha
  exact hE (h b (by simpa [S1.cells] using hb))
theorem g8 {x : SV} (h : x.ok) : (a3 x).ok := by
 cases x with
 | s x => exact g9 h
 | tup l =>
  intro y hy
  obtain ⟨z, hz, rfl⟩ := List.mem_map.1 hy
  exact g9 (h z hz)
 | opt gl x => exact g9 h
theorem fu {x : SV} {v : Value} (h : x.rel v) : (a3 x).rel v := by
 cases x with
 | s x =>
  rcases x with a | l
  ·have hd := dC a
   cases a <;> simp only [a3, hD, hF] at hd ⊢ <;> first | exact h | skip
   split
   ·exact h
   ·exact h
  ·have : v = (S1.agg l).den := h
   show v = (hD (.agg l)).den
   rw [fw]; exact this
 | tup l =>
  simp only [a3, SV.rel, List.map_map, Function.comp_def, fw]
  exact h
 | opt gl x =>
  simp only [a3, SV.rel, fw]
  exact h
def kg (P : Program) (t : TypeId) (cs : Array Value) (off : Nat) : Option Value :=
 (bT P t).bind fun m => if aG P t then some (.agg (cs.extract off (off + m))) else cs[off]?
theorem bX {t : TypeId} {cs : Array Value} {off : Nat} {v : Value} (h : kg P t cs off = some v) (w : World) : (part t cs off).run P w = .ok v w := by
 simp only [kg, Option.bind_eq_some_iff] at h
 obtain ⟨m, hm, h⟩ := h
 unfold part
 rw [Sem.run_bind, cX hm]
 simp only [Result.andThen_ok]
 split at h
 ·rename_i hA
  simp only [Option.some.injEq] at h
  subst h
  rw [if_pos hA, Sem.run_bind, ak hm]
  rfl
 ·rename_i hA
  rw [if_neg hA, h]
  rfl
def nh (eq : TypeId → Value → Value → Option Bool) (P : Program) (xs ys : Array Value) : List Field → Option Bool
 | [] => some true
 | f :: fs =>
  if f.name = "_" then nh eq P xs ys fs else
  match kg P f.type xs f.offset, kg P f.type ys f.offset with
  | some a, some b => match eq f.type a b with
   | some true => nh eq P xs ys fs
   | some false => some false
   | none => none
  | _, _ => none
def lu (eq : TypeId → Value → Value → Option Bool) (P : Program) (t : TypeId) (n : Nat) (xs ys : Array Value) : List Nat → Option Bool
 | [] => some true
 | i :: r =>
  match kg P t xs (i * n), kg P t ys (i * n) with
  | some a, some b => match eq t a b with
   | some true => lu eq P t n xs ys r
   | some false => some false
   | none => none
  | _, _ => none
def eqC (P : Program) : Nat → TypeId → Value → Value → Option Bool
 | 0, _, _, _ => none
 | d + 1, t, x, y =>
  match P.underlying t, x, y with
  | some .bool, .bool a, .bool b => some (a == b)
  | some (.int _), .int k a, .int k' b => if k = k' then some (a == b) else none
  | some .string, .string a, .string b => some (a.toList == b.toList)
  | some (.struct fs), .agg xs, .agg ys => if P.stoodInHeld t then none else nh (eqC P d) P xs ys fs.toList
  | some (.array len elem), .agg xs, .agg ys => (bT P elem).bind fun n => lu (eqC P d) P elem n xs ys (List.range' 0 len)
  | _, _, _ => none
theorem im {d : Nat} (ih : ∀ t x y b, eqC P d t x y = some b → ∀ m w, (Op.equalIn (d + m) t x y).run P w = .ok b w) {xs ys : Array Value} (m : Nat) (w : World) : ∀ (fs : List Field) (b : Bool),
  nh (eqC P d) P xs ys fs = some b → (Op.eqFields (d + m) xs ys fs).run P w = .ok b w
 | [], b, h => by simp only [nh, Option.some.injEq] at h; subst h; rfl
 | f :: fs, b, h => by
  simp only [nh] at h
  simp only [Op.eqFields]
  split at h
  ·rename_i hn; rw [if_neg (by simpa using hn)]; exact im ih m w fs b h
  ·rename_i hn
   rw [if_pos hn]
   split at h
   ·rename_i va vb ha hb
    simp only [Sem.run_bind, bX ha, bX hb, Result.andThen_ok]
    split at h
    ·rename_i he
     rw [ih _ _ _ _ he]
     simp only [Result.andThen_ok, Bool.not_true, Bool.false_eq_true, if_false]
     exact im ih m w fs b h
    ·rename_i he
     simp only [Option.some.injEq] at h
     subst h
     rw [ih _ _ _ _ he]
     simp only [Result.andThen_ok, Bool.not_false, if_true, Sem.run_pure]
    ·simp at h
   ·simp at h
theorem fN : ∀ (d : Nat) (t : TypeId) (x y : Value) (b : Bool), eqC P d t x y = some b → ∀ m w, (Op.equalIn (d + m) t x y).run P w = .ok b w
  | 0, t, x, y, b, h => by simp [eqC] at h
  | d + 1, t, x, y, b, h => by
    intro m w
    rw [show d + 1 + m = (d + m) + 1 by omega]
    unfold eqC at h
    split at h
    · rename_i u a b' hu
      simp only [Option.some.injEq] at h; subst h
      exact run_equalIn_bool' w _ _ _ _ hu
    · rename_i u k' k a k2 b' hu
      split at h
      · rename_i e
        simp only [Option.some.injEq] at h; subst h; subst e
        exact run_equalIn_int w _ _ _ _ _ _ hu
      · simp at h
    · rename_i u a b' hu
      simp only [Option.some.injEq] at h; subst h
      exact run_equalIn_string w _ _ _ _ hu
    · rename_i u fs xs ys hu
      split at h
      · simp at h
      · rename_i hs
        have hf : P.fieldsOf t = fs := by unfold Program.fieldsOf; rw [hu]
        rw [run_equalIn_struct w _ _ _ _ (by rw [hf]; exact hu) (by simpa using hs), hf]
        exact im (fN d) m w _ _ h
    · rename_i u len elem xs ys hu
      simp only [Option.bind_eq_some_iff] at h
      obtain ⟨n, hn, h⟩ := h
      have key : ∀ (l : List Nat) (b : Bool), lu (eqC P d) P elem n xs ys l = some b →
          ((do
            let r ← forIn l ((none, ()) : Option Bool × Unit) fun i _ => do
              if !(← Op.equalIn (d + m) elem (← part elem xs (i * n)) (← part elem ys (i * n))) then pure (.done (some false, ())) else pure (.yield (none, ()))
            match r.fst with
            | some a => pure a
            | none => pure true) : Sem Bool).run P w = .ok b w := by
        intro l
        induction l with
        | nil => intro b h; simp only [lu, Option.some.injEq] at h; subst h; rfl
        | cons i r ih =>
          intro b h
          simp only [lu] at h
          split at h
          · rename_i va vb ha hb
            split at h
            · rename_i he
              have := ih b h
              simp only [List.forIn_cons, Sem.run_bind, bX ha, bX hb, Result.andThen_ok, fN d _ _ _ _ he, Bool.not_true, Bool.false_eq_true, if_false, Sem.run_pure] at this ⊢
              exact this
            · rename_i he
              simp only [Option.some.injEq] at h
              subst h
              simp only [List.forIn_cons, Sem.run_bind, bX ha, bX hb, Result.andThen_ok, fN d _ _ _ _ he, Bool.not_false, if_true, Sem.run_pure]
            · simp at h
          · simp at h
      simp only [Op.equalIn, Sem.run_bind, run_underlying hu, Result.andThen_ok, ak hn]
      have := key _ _ h
      simp only [Sem.run_bind] at this
      simp only [Std.Legacy.Range.forIn_eq_forIn_range', Std.Legacy.Range.size]
      simp at this ⊢
      refine Eq.trans ?_ this
      congr 1
      funext a w'
      obtain ⟨a, _⟩ := a
      cases a <;> rfl
    · simp at h
def nS (P : Program) (op : PrimOp) (args : List Value) : Option Value :=
 match op, args with
 | .eqv .eql t _, [.agg a, .agg b] => if P.eqGuardType P.depth t then none else (eqC P 100 t (.agg a) (.agg b)).map .bool
 | .eqv .neq t _, [.agg a, .agg b] => if P.eqGuardType P.depth t then none else (eqC P 100 t (.agg a) (.agg b)).map fun b => .bool (!b)
 | _, _ => none
theorem jY {op : PrimOp} {args : List Value} {v : Value} (h : nS P op args = some v) (w : World) : (op.sem args).run P w = .ok (.value v) w ∧ v.oneCell' = true := by
 unfold nS at h
 split at h
 ·rename_i t c a b
  split at h
  ·simp at h
  ·rename_i hg
   simp only [Option.map_eq_some_iff] at h
   obtain ⟨r, hr, rfl⟩ := h
   refine ⟨?_, rfl⟩
   simp only [PrimOp.sem, Sem.run_bind, run_eqGuard_agg w _ _ _ _ _ _ (by simpa using hg), Result.andThen_ok, run_eql_struct, fN 100 _ _ _ _ hr 9900 w, Sem.run_pure]
 ·rename_i t c a b
  split at h
  ·simp at h
  ·rename_i hg
   simp only [Option.map_eq_some_iff] at h
   obtain ⟨r, hr, rfl⟩ := h
   refine ⟨?_, rfl⟩
   simp only [PrimOp.sem, Sem.run_bind, run_eqGuard_agg w _ _ _ _ _ _ (by simpa using hg), Result.andThen_ok, run_neq_struct, fN 100 _ _ _ _ hr 9900 w, Sem.run_pure]
 ·simp at h
end
noncomputable section
variable {P : Program}
theorem gQ {ops : Array Oper} {Q : Exit → Act → World → Prop} {o : Oper} {K K' : Act → World → Prop} {a : Act} {w : World} (h : ∀ a w, K a w → K' a w) (hh : wp1 P ops Q o K a w) : wp1 P ops Q o K' a w := by
 unfold wp1 at *
 split
 ·rename_i hc
  rw [if_pos hc] at hh
  rcases hh with hh | hh
  ·exact .inl (Oper.wp_mono h hh)
  ·exact .inr hh
 ·rename_i hc
  rw [if_neg hc] at hh
  exact h _ _ hh
abbrev mQ := Nat → Option (List Value)
def GlobOk (gl : mQ) (H : Heap) : Prop := ∀ g cs, gl g = some cs → Ones cs ∧ ∀ off m, off + m ≤ cs.length → H.read (.pointer (some ⟨g, off, none⟩)) m = some ((cs.drop off).take m)
theorem GlobOk.le {gl : mQ} {H H' : Heap} (h : GlobOk gl H) (hl : Heap.le H H') : GlobOk gl H' := fun g cs hg => ⟨(h g cs hg).1, fun off m hle => hl.read ((h g cs hg).2 off m hle)⟩
def j4 (gl : mQ) (p : Value) (m : Nat) : Option (List Value) :=
 match p with
 | .pointer (some ⟨g, off, none⟩) => (gl g).bind fun cs => if off + m ≤ cs.length then some ((cs.drop off).take m) else none
 | _ => none
def m0 (P : Program) (glob : mQ) (x : NF) (fp : FP) : Option Ef :=
 match x with
 | .fl cs k X =>
  let q (vs : List Value) : Option Ef := some ⟨cs, .done ⟨some (a3 (X vs)), [], none⟩, fp.reads, [], none⟩
  match k with
  | .sil => q []
  | .pure gd op args => match ag op args with
   | some v => if gd.isEmpty || v.oneCell' then q [v] else none
   | none => none
  | .raw _ op args => match nS P op args with
   | some v => q [v]
   | none => none
  | .split c => match c with
   | .bool b => q [.bool b]
   | _ => none
  | .isplit c n => match c with
   | .int _ i => if 0 ≤ i ∧ i < n then q [.int .i64 i] else none
   | _ => none
  | .load _ p m => match j4 glob p m with
   | some vs => q vs
   | none => none
 | .box cs n T cells val => some ⟨cs, .box fun r => .done ⟨some (.s (.at (val r))), [(n, some ⟨r, T, cells⟩)], none⟩, fp.reads, [n], none⟩
 | .stb cs n b => some ⟨cs, .done ⟨none, [(n, some b)], none⟩, fp.reads, [n], none⟩
 | _ => none
theorem lc {glob : mQ} {x : NF} {fp : FP} {e : Ef} (h : m0 P glob x fp = some e) : e.lo = none ∧ e.rd = fp.reads := by
 unfold m0 at h
 split at h
 ·simp only at h
  split at h
  ·simp only [Option.some.injEq] at h; subst h; exact ⟨rfl, rfl⟩
  ·split at h
   ·split at h
    ·simp only [Option.some.injEq] at h; subst h; exact ⟨rfl, rfl⟩
    ·simp at h
   ·simp at h
  ·split at h
   ·simp only [Option.some.injEq] at h; subst h; exact ⟨rfl, rfl⟩
   ·simp at h
  ·split at h
   ·simp only [Option.some.injEq] at h; subst h; exact ⟨rfl, rfl⟩
   ·simp at h
  ·split at h
   ·split at h
    ·simp only [Option.some.injEq] at h; subst h; exact ⟨rfl, rfl⟩
    ·simp at h
   ·simp at h
  ·split at h
   ·simp only [Option.some.injEq] at h; subst h; exact ⟨rfl, rfl⟩
   ·simp at h
 ·simp only [Option.some.injEq] at h; subst h; exact ⟨rfl, rfl⟩
 ·simp only [Option.some.injEq] at h; subst h; exact ⟨rfl, rfl⟩
 ·simp at h
theorem Conc.tmps {F : Own} {s s' : SS} {H : Heap} {O : Own} {a : Act} {w : World} (h : Conc F s H O a w) (hz : s'.sz = s.sz) (hm : s'.mem = s.mem) (ht : ∀ t, (s'.tmps t) = s.tmps t ∨ s'.tmps t = a3 (s.tmps t)) :
  Conc F s' H O a w := by
 refine ⟨⟨fun t => ?_, fun n b hb => h.ok.2 n b (by rw [← hm]; exact hb)⟩, h.df, by rw [hz]; exact h.sz, fun t => ?_, by rw [hm]; exact h.mm⟩
 ·rcases ht t with e | e
  ·rw [e]; exact h.ok.1 t
  ·rw [e]; exact g8 (h.ok.1 t)
 ·rcases ht t with e | e
  ·rw [e]; exact h.tm t
  ·rw [e]; exact fu (h.tm t)
theorem fG {ops : Array Oper} {okf : FuncId → Bool} {rules : FuncId → Option (List Nat)} (hokf : ∀ f, okf f = true → gm P f) {sp : Bool} {name : Nat} {glob : mQ} {o : Oper} {x : CS} {y : NF} {fp : FP} {e : Ef}
  (hy : nf P okf rules (am ops) sp name o x.s = some (y, fp)) (he : m0 P glob y fp = some e) {hi : Nat} {F : Own} {H : Heap} (hgl : GlobOk glob H) {a : Act} {w : World} {K : CS → Prop} {Q : Exit → Act → World → Prop}
  (hC : CC hi F x H a w) (hr : e.run hi o.dst x K) : wp1 P ops Q o (fun a' w' => ∃ x', CC hi F x' H a' w' ∧ K x') a w := by
 obtain ⟨⟨O, hM, hc⟩, hf, hn⟩ := hC
 have quiet : ∀ sv : SV, K (x.app o.dst ⟨some (a3 sv), [], none⟩) → ∀ (H' : Heap) (O' : Own) (a' : Act) (w' : World), H' = H → O' = O → Conc F (x.s.set o.dst sv) H' O' a' w' →
   ∃ x', CC hi F x' H a' w' ∧ K x' := by
  intro sv hk H' O' a' w' hH hO hc'
  subst hH; subst hO
  refine ⟨x.app o.dst ⟨some (a3 sv), [], none⟩, ⟨⟨O', hM, hc'.tmps ?_ ?_ (fun t => ?_)⟩, hf, hn⟩, hk⟩
  ·cases o.dst <;> rfl
  ·cases o.dst <;> rfl
  ·cases hd : o.dst with
   | none => exact .inl rfl
   | some d =>
    by_cases e : t = d
    ·right; subst e; simp [CS.app, f9, SS.set]
    ·left; simp [CS.app, f9, SS.set, e]
 have go : ∀ (vs : List Value) (cs : List Ck) (k : FK) (X : List Value → SV), y = .fl cs k X → AllCk cs → k.pre P H O vs → K (x.app o.dst ⟨some (a3 (X vs)), [], none⟩) →
   wp1 P ops Q o (fun a' w' => ∃ x', CC hi F x' H a' w' ∧ K x') a w := by
  intro vs cs k X hyx hcs hp hk
  have hs := hJ hokf hy F H O a w false (fun s' H' O' => s' = x.s.set o.dst (X vs) ∧ H' = H ∧ O' = O) Q hc (by subst hyx; exact ⟨hcs, vs, hp, rfl, rfl, rfl⟩)
  refine gQ ?_ hs
  rintro a' w' ⟨s', H', O', hc', _, rfl, hH, hO⟩
  exact quiet _ hk H' O' a' w' hH hO hc'
 obtain ⟨hcs, hr⟩ := hr
 unfold m0 at he
 split at he
 ·rename_i cs k X
  simp only at he
  split at he
  ·simp only [Option.some.injEq] at he; subst he
   exact go [] cs _ X rfl hcs rfl hr.2
  ·rename_i gd op args
   split at he
   ·rename_i v hv
    split at he
    ·rename_i hcond
     simp only [Option.some.injEq] at he; subst he
     refine go [v] cs _ X rfl hcs ⟨v, rfl, fun _ => hv, ?_⟩ hr.2
     simpa using hcond
    ·simp at he
   ·simp at he
  ·rename_i gd op args
   split at he
   ·rename_i v hv
    simp only [Option.some.injEq] at he; subst he
    exact go [v] cs _ X rfl hcs ⟨v, rfl, fun _ w' => (jY hv w').1, (jY hv default).2⟩ hr.2
   ·simp at he
  ·rename_i c
   split at he
   ·rename_i b
    simp only [Option.some.injEq] at he; subst he
    exact go [.bool b] cs _ X rfl hcs ⟨b, rfl, rfl⟩ hr.2
   ·simp at he
  ·rename_i c n
   split at he
   ·rename_i kd i
    split at he
    ·rename_i hb
     simp only [Option.some.injEq] at he; subst he
     exact go [.int .i64 i] cs _ X rfl hcs ⟨kd, i, rfl, hb.1, hb.2, rfl⟩ hr.2
    ·simp at he
   ·simp at he
  ·rename_i gd p m
   split at he
   ·rename_i vs hv
    simp only [Option.some.injEq] at he; subst he
    refine go vs cs _ X rfl hcs ?_ hr.2
    unfold j4 at hv
    split at hv
    ·rename_i g off
     simp only [Option.bind_eq_some_iff] at hv
     obtain ⟨cells, hg, hv⟩ := hv
     split at hv
     ·rename_i hle
      simp only [Option.some.injEq] at hv
      subst hv
      obtain ⟨h1, h2⟩ := hgl g cells hg
      exact ⟨by simp; omega, (h1.drop off).take m, fun _ => .inl (h2 off m hle)⟩
     ·simp at hv
    ·simp at hv
   ·simp at he
 ·rename_i cs n T cells val
  simp only [Option.some.injEq] at he; subst he
  have hs := hJ hokf hy F H O a w false (fun s' H' O' => ∃ r, s' = (x.s.setBox n (some ⟨r, T, cells⟩)).set o.dst (.s (.at (val r))) ∧ H' = H ∧ O' = O) Q hc ⟨hcs, fun r => ⟨r, rfl, rfl, rfl⟩⟩
  refine gQ ?_ hs
  rintro a' w' ⟨s', H', O', hc', _, r, rfl, rfl, rfl⟩
  obtain ⟨hok, hk⟩ := hr r
  have hlt : n < hi := by
   simp only [okU, Bool.and_eq_true, List.all_eq_true, decide_eq_true_eq] at hok
   exact hok.2 n (by simp)
  refine ⟨x.app o.dst ⟨some (.s (.at (val r))), [(n, some ⟨r, T, cells⟩)], none⟩, ⟨⟨O', hM, hc'.tmps ?_ ?_ (fun t => .inl ?_)⟩, fun m hm => ?_, hn⟩, hk⟩
  ·cases o.dst <;> rfl
  ·funext m
   rw [CS.app_mem]
   cases o.dst <;> simp only [aH, SS.set, SS.setBox] <;> by_cases e : m = n <;> simp [e]
  ·cases o.dst <;> simp [CS.app, f9, SS.set, SS.setBox]
  ·have hm' : x.s.next ≤ m := hm
   rw [CS.app_mem' (fun p hp => by simp only [List.mem_singleton] at hp; subst hp; simp only; omega)]
   exact hf m hm'
 ·rename_i cs n b
  simp only [Option.some.injEq] at he; subst he
  have hs := hJ hokf hy F H O a w false (fun s' H' O' => s' = x.s.setBox n (some b) ∧ H' = H ∧ O' = O) Q hc ⟨hcs, rfl, rfl, rfl⟩
  refine gQ ?_ hs
  rintro a' w' ⟨s', H', O', hc', _, rfl, rfl, rfl⟩
  obtain ⟨hok, hk⟩ := hr
  have hlt : n < hi := by
   simp only [okU, Bool.and_eq_true, List.all_eq_true, decide_eq_true_eq] at hok
   exact hok.2 n (by simp)
  refine ⟨x.app o.dst ⟨none, [(n, some b)], none⟩, ⟨⟨O', hM, hc'.tmps ?_ ?_ (fun t => .inl ?_)⟩, fun m hm => ?_, hn⟩, hk⟩
  ·rfl
  ·funext m
   rw [CS.app_mem]
   simp only [aH, SS.setBox]; by_cases e : m = n <;> simp [e]
  ·cases o.dst <;> simp [CS.app, f9, SS.setBox]
  ·have hm' : x.s.next ≤ m := hm
   rw [CS.app_mem' (fun p hp => by simp only [List.mem_singleton] at hp; subst hp; simp only; omega)]
   exact hf m hm'
 ·simp at he
end
noncomputable section
variable {P : Program}
inductive Out where
 | nrm (x : CS)
 | ext (j : Nat) (x : CS)
 | ret (x : CS)
def Out.cs : Out → CS
 | .nrm x | .ext _ x | .ret x => x
def Out.exit : Out → Exit
 | .nrm _ => .normal
 | .ext j _ => .exit j
 | .ret _ => .ret
def jA (f : CS → G Out) : Nat → CS → G Out
 | 0, _ => .fail 903
 | n + 1, x => (f x).bind fun o => match o with
  | .nrm x' => jA f n x'
  | o => .done o
abbrev NF1 := Array Oper → Nat → Nat → Oper → CS → Option Ef
def b6 (P : Program) (N : NF1) (n : Nat) : Code → CS → G Out
 | .skip, x => .done (.nrm x)
 | .label _, x => .done (.nrm x)
 | .region _ ops draw, x => (dL P N ops draw x).bind fun x' => .done (.nrm x')
 | .seq a b, x => (b6 P N n a x).bind fun o => match o with
  | .nrm x' => b6 P N n b x'
  | o => .done o
 | .cond c a b, x => match a5 x.s [] c with
  | some (.k (.bool true), _) => b6 P N n a x
  | some (.k (.bool false), _) => b6 P N n b x
  | _ => .fail 904
 | .block id b, x => (b6 P N n b x).bind fun o => match o with
  | .ext j x' => if j = id then .done (.nrm x') else .done (.ext j x')
  | o => .done o
 | .exit id, x => .done (.ext id x)
 | .ret, x => .done (.ret x)
 | .loop b, x => jA (b6 P N n b) n x
 | .scope b, x => b6 P N n b x
 | _, _ => .fail 907
structure NOk (P : Program) (N : NF1) (H : Heap) : Prop where
 cong : ∀ ops base i o, jN (N ops base i o) (o.looksAt ops)
 sound : ∀ ops base tab, RX.Sound ⟨P, ops, tab, base + ops.size, N ops base⟩ H
theorem mr (hm : P.follows .mixedOrders = true) {N : NF1} {H : Heap} (hN : NOk P N H) {n : Nat} {hi : Nat} {F : Own} : ∀ (c : Code) {x : CS} {K : Out → Prop} {a : Act} {w : World} {Q : Exit → Act → World → Prop},
  (b6 P N n c x).den K → CC hi F x H a w → (∀ o a' w', CC hi F o.cs H a' w' → K o → Q o.exit a' w') → c.wp P Q a w := by
 intro c
 induction c with
 | skip => intro x K a w Q h hC hQ; exact wp_skip (hQ (.nrm x) _ _ hC h)
 | label l => intro x K a w Q h hC hQ; exact wp_label (hQ (.nrm x) _ _ hC h)
 | region id ops draw =>
  intro x K a w Q h hC hQ
  exact gk hm (hN.cong ops) (hN.sound ops) (G.den_bind h) hC (fun x' a' w' h1 h2 => hQ (.nrm x') a' w' h1 h2)
 | seq c d ihc ihd =>
  intro x K a w Q h hC hQ
  refine wp_seq (ihc (G.den_bind h) hC ?_)
  intro o a' w' hC' hk
  cases o with
  | nrm x' => exact ihd hk hC' hQ
  | ext j x' => exact hQ (.ext j x') a' w' hC' hk
  | ret x' => exact hQ (.ret x') a' w' hC' hk
 | cond c d e ihd ihe =>
  intro x K a w Q h hC hQ
  simp only [b6] at h
  have hden : ∀ v cs, a5 x.s [] c = some (v, cs) → a.eval c = v.den := fun v cs he => by
   have := g5 he; subst this
   obtain ⟨⟨O, _, hc⟩, _⟩ := hC
   exact ah hc he trivial trivial
  split at h
  ·rename_i cs he; exact wp_cond_true (hden _ _ he) (ihd h hC hQ)
  ·rename_i cs he; exact wp_cond_false (hden _ _ he) (ihe h hC hQ)
  ·exact h.elim
 | block id b ih =>
  intro x K a w Q h hC hQ
  refine wp_block (ih (G.den_bind h) hC ?_)
  intro o a' w' hC' hk
  cases o with
  | nrm x' => exact hQ (.nrm x') a' w' hC' hk
  | ext j x' =>
   simp only at hk
   show Exit.inBlock id Q (.exit j) a' w'
   split at hk
   ·rename_i e
    subst e
    simp only [Exit.inBlock, if_true]
    exact hQ (.nrm x') a' w' hC' hk
   ·rename_i e
    simp only [Exit.inBlock, if_neg e]
    exact hQ (.ext j x') a' w' hC' hk
  | ret x' => exact hQ (.ret x') a' w' hC' hk
 | exit id => intro x K a w Q h hC hQ; exact wp_exit (hQ (.ext id x) _ _ hC h)
 | ret => intro x K a w Q h hC hQ; exact wp_ret (hQ (.ret x) _ _ hC h)
 | loop b ih =>
  intro x K a w Q h hC hQ
  refine gK (G := Nat × CS) (fun g a w => CC hi F g.2 H a w ∧ (jA (b6 P N n b) g.1 g.2).den K) (fun g => g.1) (g0 := (n, x)) ⟨hC, h⟩ ?_
  rintro ⟨m, x1⟩ a1 w1 ⟨hC1, hd1⟩
  cases m with
  | zero => exact hd1.elim
  | succ m =>
   refine ih (G.den_bind hd1) hC1 ?_
   intro o a' w' hC' hk
   cases o with
   | nrm x' => exact ⟨(m, x'), ⟨hC', hk⟩, Nat.lt_succ_self m⟩
   | ext j x' => exact hQ (.ext j x') a' w' hC' hk
   | ret x' => exact hQ (.ret x') a' w' hC' hk
 | scope b ih =>
  intro x K a w Q h hC hQ
  refine wp_scope_straight (ih h hC ?_)
  intro o a' w' hC' hk
  cases o with
  | nrm x' => exact hQ (.nrm x') a' w' hC' hk
  | ext j x' => exact hQ (.ext j x') a' w' hC' hk
  | ret x' => exact hQ (.ret x') a' w' hC' hk
 | _ => intro x K a w Q h; exact h.elim
def ll (l : List (Nat × Nat × Nat)) (n : Nat) : Option (Nat × Nat) :=
 match l with
 | [] => none
 | (k, a) :: r => if n = k then some a else ll r n
def lw (np : Nat) (gr : List (Nat × Nat × Nat)) (n : Nat) (b : Bx) : List At :=
 match Nat.testBit np b.T with
 | true => []
 | false => match ll gr n with
  | some k => b.cs.take k.1
  | none => b.cs
def cellsOf (np : Nat) (x : CS) (n : Nat) : List At :=
 match x.s.mem n with
 | some b => lw np x.h.gr n b
 | none => []
def nZ (n : Nat) (acc : List Nat) : List Nat :=
 List.rec (motive := fun _ => List Nat → List Nat) (fun all => n :: all) (fun m _ ih all => Bool.rec (motive := fun _ => List Nat) (ih all) all (Nat.beq n m)) acc acc
def nw (c : Cp) : List Nat → List Nat := Cp.rec (motive := fun _ => List Nat → List Nat) (fun n _ _ acc => nZ n acc) (fun _ acc => acc) c
def ny (a : At) : List Nat → List Nat :=
 At.rec (motive := fun _ => List Nat → List Nat) (fun acc => acc) (fun _ acc => acc) (fun _ acc => acc) (fun _ _ acc => acc) (fun n _ _ acc => nZ n acc) (fun n _ _ _ _ acc => nZ n acc)
  (fun _ cs acc => List.rec (motive := fun _ => List Nat → List Nat) (fun acc => acc) (fun c _ ih acc => ih (nw c acc)) cs acc) (fun _ _ acc => acc) a
def aP (l : List At) (acc : List Nat) : List Nat := List.rec (motive := fun _ => List Nat → List Nat) (fun acc => acc) (fun a _ ih acc => ih (ny a acc)) l acc
def aL (np : Nat) (x : CS) : Nat → List Nat → List Nat → List Nat
 | 0, _, acc => acc
 | _, [], acc => acc
 | k + 1, n :: r, acc => if acc.contains n then aL np x k r acc else aL np x k (aP (cellsOf np x n) r) (n :: acc)
theorem dT {np : Nat} {x : CS} : ∀ (k : Nat) (r acc : List Nat), ∀ n ∈ acc, n ∈ aL np x k r acc
 | 0, _, _, _, h => by simpa [aL] using h
 | _ + 1, [], _, _, h => by simpa [aL] using h
 | k + 1, m :: r, acc, n, h => by
  simp only [aL]
  split
  ·exact dT k r acc n h
  ·exact dT k _ _ n (by simp [h])
theorem cD {np : Nat} {x x' : CS} (hh : x'.h = x.h) : ∀ (k : Nat) (r acc : List Nat), (∀ n ∈ aL np x k r acc, x'.s.mem n = x.s.mem n) → aL np x' k r acc = aL np x k r acc
 | 0, _, _, _ => by simp [aL]
 | _ + 1, [], _, _ => by simp [aL]
 | k + 1, m :: r, acc, h => by
  simp only [aL] at h ⊢
  by_cases hc : acc.contains m = true
  ·rw [if_pos hc] at h
   rw [if_pos hc, if_pos hc]
   exact cD hh k _ _ h
  ·rw [if_neg hc] at h
   rw [if_neg hc, if_neg hc]
   have hm : x'.s.mem m = x.s.mem m := h m (dT k _ _ m (by simp))
   have hcell : cellsOf np x' m = cellsOf np x m := by simp only [cellsOf, hm, hh]
   rw [hcell]
   exact cD hh k _ _ h
def nA (n : Nat) (l : List (Nat × Option Bx)) : Bool :=
 List.rec (motive := fun _ => Bool) false (fun p _ ih => Bool.rec (motive := fun _ => Bool) ih true (Nat.beq n p.1)) l
theorem lk (n : Nat) (p : Nat × Option Bx) (r : List (Nat × Option Bx)) : nA n (p :: r) = Bool.rec (motive := fun _ => Bool) (nA n r) true (Nat.beq n p.1) := rfl
theorem jz (n : Nat) : ∀ l : List (Nat × Option Bx), nA n l = (l.map Prod.fst).contains n
 | [] => rfl
 | p :: r => by
  rw [lk, jz n r, List.map_cons, List.contains_cons]
  cases h : Nat.beq n p.1 with
  | true => simp [Nat.eq_of_beq_eq_true h]
  | false =>
   have : ¬ n = p.1 := fun e => by rw [e] at h; simp at h
   simp [this]
def dh (np : Nat) (x : CS) : Nat → List Nat → List (Nat × Option Bx) → List (Nat × Option Bx)
 | 0, _, acc => acc
 | _, [], acc => acc
 | k + 1, n :: r, acc => match nA n acc with
  | true => dh np x k r acc
  | false => match x.s.mem n with
   | some b => dh np x k (aP (lw np x.h.gr n b) r) ((n, some b) :: acc)
   | none => dh np x k (aP [] r) ((n, none) :: acc)
theorem fc (np : Nat) (x : CS) : ∀ (k : Nat) (r acc : List Nat), dh np x k r (acc.map fun m => (m, x.s.mem m)) = (aL np x k r acc).map fun m => (m, x.s.mem m)
 | 0, _, acc => by simp only [dh, aL]
 | k + 1, [], acc => by simp only [dh, aL]
 | k + 1, n :: r, acc => by
  have hk : ((acc.map fun m => (m, x.s.mem m)).map Prod.fst) = acc := by
   rw [List.map_map]
   exact (List.map_congr_left fun m _ => rfl).trans (List.map_id acc)
  simp only [dh, aL, jz, hk]
  cases hc : acc.contains n with
  | true => simp only [if_true]; exact fc np x k r acc
  | false =>
   simp only [Bool.false_eq_true, if_false, cellsOf]
   have h1 := fc np x k (aP (match x.s.mem n with | some b => lw np x.h.gr n b | none => []) r) (n :: acc)
   rw [List.map_cons] at h1
   cases hm : x.s.mem n with
   | none => rw [hm] at h1; exact h1
   | some b => rw [hm] at h1; exact h1
theorem ke (np : Nat) (x : CS) (k : Nat) (r : List Nat) : dh np x k r [] = (aL np x k r []).map fun m => (m, x.s.mem m) := fc np x k r []
theorem lq {f : Nat → Option Bx} (l : List Nat) : (l.map fun m => (m, f m)).map Prod.fst = l := by
 rw [List.map_map]
 exact (List.map_congr_left fun m _ => rfl).trans (List.map_id l)
def jn : SV → List At
 | .s x => x.cells
 | .tup l => l.flatMap S1.cells
 | .opt _ x => x.cells
def nm : List S1 → SV
 | [v] => .s v
 | l => .tup l
def mw : Cp → S1
 | .b n r off => .at (.p n r off)
 | .v x => .at (hF (.v x))
def oe : Cp → Bool
 | .b .. => true
 | .v x => x.oneCell'
abbrev aX := FuncId → List S1 → List (Nat × Option Bx) → Nat → HS → G (SV × CS)
def cv (fn : Func) (args : List S1) (mem : List (Nat × Option Bx)) (next : Nat) (h : HS) : CS :=
 ⟨{ sz := fn.ntmps, tmps := fun t => match args[t]? with | some x => .s x | none => .s (.at (.k undef)), mem := fun n => (aH mem n).getD none, next := next }, h⟩
def lC (P : Program) (fn : Func) (x : CS) : G (SV × CS) :=
 match eg P x.s fn.results.toList with
 | none => .fail 908
 | some l => G.mchk (fn.results.toList.flatMap (jW x.s)) (.done (nm l, x))
def nG (P : Program) (N : aX → NF1) (loops : Nat) : Nat → aX
 | 0, _, _, _, _, _ => .fail 700
 | k + 1, f, args, mem, next, h =>
  match P.funcs[f]? with
  | none => .fail 701
  | some fn => match fn.body with
   | none => .fail 702
   | some c =>
    if args.length ≤ fn.ntmps then
     (b6 P (N (nG P N loops k)) loops c (cv fn args mem next h)).bind fun o => match o with
      | .nrm x => lC P fn x
      | .ret x => lC P fn x
      | .ext _ _ => .fail 703
    else .fail 704
def iu (_P : Program) (np : Nat) (ok : FuncId → Bool) (call : aX) (x : CS) (f : Operand) (args : List Operand) : Option Ef :=
 match a5 x.s [] f, bV x.s [] args with
 | some (.clo n caps, cf), some (as, ca) =>
  if ok n && caps.all oe then
   let as' := as ++ caps.map mw
   let R := dh np x 5000 (aP (as'.flatMap S1.cells) []) []
   some ⟨cf ++ ca, (call n as' R x.s.next x.h).bind fun r =>
    let R' := dh np r.2 5000 (aP (jn r.1) (R.map Prod.fst)) []
    if (R.map Prod.fst).all (fun m => nA m R') then .done ⟨some (a3 r.1), R', some (r.2.s.next, r.2.h)⟩ else .fail 705, R.map Prod.fst, R.map Prod.fst, some x.s.next⟩
  else none
 | _, _ => none
theorem dO (P : Program) (np : Nat) (ok : FuncId → Bool) (call : aX) (x : CS) (f : Operand) (args : List Operand) : iu P np ok call x f args =
 match a5 x.s [] f, bV x.s [] args with
 | some (.clo n caps, cf), some (as, ca) =>
  if ok n && caps.all oe then
   let as' := as ++ caps.map mw
   let R := aL np x 5000 (aP (as'.flatMap S1.cells) []) []
   some ⟨cf ++ ca, (call n as' (R.map fun m => (m, x.s.mem m)) x.s.next x.h).bind fun r =>
    let R' := aL np r.2 5000 (aP (jn r.1) R) []
    if R.all (fun m => R'.contains m) then .done ⟨some (a3 r.1), R'.map fun m => (m, r.2.s.mem m), some (r.2.s.next, r.2.h)⟩ else .fail 705, R, R, some x.s.next⟩
  else none
 | _, _ => none := by
 unfold iu
 simp only [ke, lq, jz]
theorem kx {np : Nat} {ok : FuncId → Bool} {call : aX} {x x' : CS} {f : Operand} {args : List Operand} {e : Ef} (h : iu P np ok call x f args = some e) (hf : Ea x.s x'.s f) (ha : ∀ y ∈ args, Ea x.s x'.s y)
  (hm : ∀ n ∈ e.rd, x'.s.mem n = x.s.mem n) (hh : e.lo.isSome = true → x'.s.next = x.s.next ∧ x'.h = x.h) : iu P np ok call x' f args = some e := by
 rw [dO] at h ⊢
 rw [ai hf, bI ha]
 split at h
 ·rename_i n caps cf as ca h1 h2
  split at h
  ·rename_i hok
   simp only [Option.some.injEq] at h
   subst h
   obtain ⟨hn, hh⟩ := hh rfl
   simp only at hm
   have hR := cD hh 5000 (aP ((as ++ caps.map mw).flatMap S1.cells) []) [] hm
   simp only [h1, h2, hok, if_true, hR, hn, hh]
   have hmap : (aL np x 5000 (aP ((as ++ caps.map mw).flatMap S1.cells) []) []).map (fun m => (m, x'.s.mem m)) = (aL np x 5000 (aP ((as ++ caps.map mw).flatMap S1.cells) []) []).map fun m => (m, x.s.mem m) :=
    List.map_congr_left fun m hmm => by rw [hm m hmm]
   rw [hmap]
  ·simp at h
 ·simp at h
theorem j7 {np : Nat} {ok : FuncId → Bool} {call : aX} {x : CS} {f : Operand} {args : List Operand} {e : Ef} (h : iu P np ok call x f args = some e) : e.wr = e.rd := by
 rw [dO] at h
 split at h
 ·split at h
  ·simp only [Option.some.injEq] at h
   subst h; rfl
  ·simp at h
 ·simp at h
def kP : List (Option Bx × Option (Option Bx)) → G Upd → G Upd
 | [], g => g
 | p :: r, g =>
  match p.1, p.2 with
  | some a, some (some b) => if Nat.beq a.T b.T = true then .chk [.eqN a.r b.r] (.eql a.cs b.cs (kP r g)) else .fail 708
  | none, some none => kP r g
  | _, _ => .fail 708
def mY (x : CS) (e : Ef) : Ef :=
  { e with
    wr := []
    body := e.body.bind fun u => match u.hv with
      | some h => kP (e.wr.map fun m => (x.s.mem m, aH u.bx m)) (if e.wr.all (fun m => decide (m < h.1)) then .done { u with bx := u.bx.filter fun p => !e.wr.contains p.1 } else .fail 706)
      | none => .fail 707 }
def fV (P : Program) (np : Nat) (pur ok : FuncId → Bool) (call : aX) (x : CS) (f : Operand) (args : List Operand) : Option Ef :=
 (iu P np ok call x f args).bind fun e => match a5 x.s [] f with
  | some (.clo n _, _) => if pur n then some (mY x e) else some e
  | _ => some e
theorem e5 {K : Upd → Prop} {g : G Upd} : ∀ {l : List (Option Bx × Option (Option Bx))}, (kP l g).den K → (∀ p ∈ l, p.2 = some p.1) ∧ g.den K
 | [], h => ⟨fun _ hp => (List.not_mem_nil hp).elim, h⟩
 | (a, b) :: r, h => by
  simp only [kP] at h
  split at h
  ·rename_i a' b'
   split at h
   ·rename_i hT
    have hT : a'.T = b'.T := Nat.eq_of_beq_eq_true hT
    obtain ⟨hr, hc, h⟩ := h
    replace hr : a'.r = b'.r := hr.1
    obtain ⟨h1, h2⟩ := e5 h
    refine ⟨fun p hp => ?_, h2⟩
    rcases List.mem_cons.1 hp with rfl | hp
    ·obtain ⟨r1, t1, c1⟩ := a'
     obtain ⟨r2, t2, c2⟩ := b'
     simp only at hT hr hc
     subst hT; subst hr; subst hc
     rfl
    ·exact h1 p hp
   ·exact h.elim
  ·obtain ⟨h1, h2⟩ := e5 h
   refine ⟨fun p hp => ?_, h2⟩
   rcases List.mem_cons.1 hp with rfl | hp
   ·rfl
   ·exact h1 p hp
  ·exact h.elim
theorem iY {l : List (Nat × Option Bx)} {wr : List Nat} {n : Nat} : aH (l.filter fun p => !wr.contains p.1) n = if wr.contains n then none else aH l n := by
 induction l with
 | nil => simp [aH]
 | cons p r ih =>
  obtain ⟨k, b⟩ := p
  rw [List.filter_cons]
  by_cases hk : wr.contains k = true
  ·simp only [hk, Bool.not_true, Bool.false_eq_true, if_false]
   rw [ih]
   by_cases hn : wr.contains n = true
   ·simp only [hn, if_true]
   ·simp only [hn, Bool.false_eq_true, if_false, aH]
    rw [if_neg (fun e : n = k => hn (e ▸ hk))]
  ·simp only [Bool.not_eq_true] at hk
   simp only [hk, Bool.not_false, if_true, aH]
   by_cases e : n = k
   ·subst e; simp only [if_true, hk, Bool.false_eq_true, if_false]
   ·simp only [if_neg e]; exact ih
theorem lV {hi : Nat} {x : CS} {e : Ef} {d : Option Tmp} {K : CS → Prop} (hlo : e.lo.isSome = true) (h : (mY x e).run hi d x K) : e.run hi d x K := by
 obtain ⟨hcs, h⟩ := h
 refine ⟨hcs, ?_⟩
 have h := G.den_bind h
 refine G.den_mono (fun u hu => ?_) h
 split at hu
 ·rename_i hv hhv
  obtain ⟨hsame, hu⟩ := e5 hu
  split at hu
  ·rename_i hall
   obtain ⟨hok, hk⟩ := hu
   have hmem : ∀ m ∈ e.wr, aH u.bx m = some (x.s.mem m) := fun m hm => hsame (x.s.mem m, aH u.bx m) (List.mem_map.2 ⟨m, hm, rfl⟩)
   obtain ⟨l, hl⟩ := Option.isSome_iff_exists.1 hlo
   simp only [okU, mY, hl, hhv, Bool.and_eq_true, decide_eq_true_eq, List.all_eq_true, Bool.or_eq_true, List.contains_nil, Bool.false_eq_true, false_or] at hok
   obtain ⟨⟨h1, h2⟩, h3⟩ := hok
   refine ⟨?_, ?_⟩
   ·simp only [okU, hl, hhv, Bool.and_eq_true, decide_eq_true_eq, List.all_eq_true, Bool.or_eq_true]
    refine ⟨⟨h1, h2⟩, fun p hp => ?_⟩
    by_cases hc : e.wr.contains p.1 = true
    ·refine ⟨.inl hc, ?_⟩
     have := List.all_eq_true.1 hall p.1 (by simpa using hc)
     simpa using this
    ·have := h3 p (List.mem_filter.2 ⟨hp, by simpa using hc⟩)
     exact ⟨.inr this.1, this.2⟩
   ·have hx : x.app d { u with bx := u.bx.filter fun p => !e.wr.contains p.1 } = x.app d u := by
     refine CS.ext' rfl (fun t => rfl) (fun n => ?_) rfl rfl
     rw [CS.app_mem, CS.app_mem]
     simp only [iY]
     by_cases hc : e.wr.contains n = true
     ·simp only [hc, if_true]
      rw [hmem n (by simpa using hc)]
     ·simp only [hc, Bool.false_eq_true, if_false]
    rw [hx] at hk
    exact hk
  ·exact hu.elim
 ·exact hu.elim
theorem mB {np : Nat} {ok : FuncId → Bool} {call : aX} {x : CS} {f : Operand} {args : List Operand} {e : Ef} (h : iu P np ok call x f args = some e) : e.lo.isSome = true := by
 rw [dO] at h
 split at h
 ·split at h
  ·simp only [Option.some.injEq] at h
   subst h; rfl
  ·simp at h
 ·simp at h
theorem eA {np : Nat} {pur ok : FuncId → Bool} {call : aX} {x : CS} {f : Operand} {args : List Operand} {e : Ef} (h : fV P np pur ok call x f args = some e) : ∃ e0, iu P np ok call x f args = some e0 ∧ (e = e0 ∨ e = mY x e0) := by
 unfold fV at h
 simp only [Option.bind_eq_some_iff] at h
 obtain ⟨e0, h0, h⟩ := h
 refine ⟨e0, h0, ?_⟩
 split at h
 ·split at h
  ·exact .inr (Option.some.inj h).symm
  ·exact .inl (Option.some.inj h).symm
 ·exact .inl (Option.some.inj h).symm
theorem jK {np : Nat} {pur ok : FuncId → Bool} {call : aX} {x x' : CS} {f : Operand} {args : List Operand} {e : Ef} (h : fV P np pur ok call x f args = some e) (hf : Ea x.s x'.s f) (ha : ∀ y ∈ args, Ea x.s x'.s y)
  (hm : ∀ n ∈ e.rd, x'.s.mem n = x.s.mem n) (hh : e.lo.isSome = true → x'.s.next = x.s.next ∧ x'.h = x.h) : fV P np pur ok call x' f args = some e := by
 have h' := h
 obtain ⟨e0, h0, hcase⟩ := eA h
 have hrd : e.rd = e0.rd ∧ e.lo = e0.lo := by rcases hcase with rfl | rfl <;> exact ⟨rfl, rfl⟩
 have h1 := kx (x' := x') h0 hf ha (fun n hn => hm n (by rw [hrd.1]; exact hn)) (fun hl => hh (by rw [hrd.2]; exact hl))
 have hp : mY x' e0 = mY x e0 := by
  have e1 : (e0.wr.map fun m => x'.s.mem m) = e0.wr.map fun m => x.s.mem m := List.map_congr_left fun m hmm => hm m (by rw [hrd.1, ← j7 h0]; exact hmm)
  have e2 : ∀ u : Upd, (e0.wr.map fun m => (x'.s.mem m, aH u.bx m)) = e0.wr.map fun m => (x.s.mem m, aH u.bx m) := fun u => List.map_congr_left fun m hmm => by rw [hm m (by rw [hrd.1, ← j7 h0]; exact hmm)]
  simp only [mY, e2]
 unfold fV at h' ⊢
 rw [h1, ai hf, Option.bind_some]
 rw [h0, Option.bind_some] at h'
 rw [hp]
 exact h'
end
noncomputable section
variable {P : Program}
theorem fZ {m : Nat → Option Bx} {L : Own} (h : Boxes m L) (S : List Nat) :
  ∃ L1 L2, L.Perm (L1 ++ L2) ∧ Boxes (fun n => if n ∈ S then m n else none) L1 ∧ Boxes (fun n => if n ∈ S then none else m n) L2 := by
 obtain ⟨ns, f, hn, hs, hc, hp⟩ := h
 refine ⟨(ns.filter fun n => decide (n ∈ S)).map fun n => b7 (m n) (f n), (ns.filter fun n => !decide (n ∈ S)).map fun n => b7 (m n) (f n), ?_, ?_, ?_⟩
 ·refine hp.trans ?_
  rw [← List.map_append]
  exact (List.filter_append_perm _ ns).symm.map _
 ·refine ⟨_, f, hn.filter _, fun n => ?_, fun n b hb => ?_, List.Perm.of_eq (List.map_congr_left fun n hn => ?_)⟩
  ·rw [List.mem_filter]
   by_cases e : n ∈ S <;> simp [e, hs n]
  ·simp only at hb
   split at hb
   ·exact hc n b hb
   ·cases hb
  ·rw [List.mem_filter] at hn
   simp [of_decide_eq_true hn.2]
 ·refine ⟨_, f, hn.filter _, fun n => ?_, fun n b hb => ?_, List.Perm.of_eq (List.map_congr_left fun n hn => ?_)⟩
  ·rw [List.mem_filter]
   by_cases e : n ∈ S <;> simp [e, hs n]
  ·simp only at hb
   split at hb
   ·cases hb
   ·exact hc n b hb
  ·rw [List.mem_filter] at hn
   have : n ∉ S := by simpa using hn.2
   simp [this]
theorem ky {m1 m2 m : Nat → Option Bx} {L1 L2 : Own} (h1 : Boxes m1 L1) (h2 : Boxes m2 L2) (hd : ∀ n, (m1 n).isSome = true → m2 n = none)
  (hm : ∀ n, m n = if (m1 n).isSome then m1 n else m2 n) : Boxes m (L1 ++ L2) := by
 obtain ⟨ns, f, hn, hs, hc, hp⟩ := h1
 obtain ⟨ns', f', hn', hs', hc', hp'⟩ := h2
 have hdis : ∀ n, n ∈ ns → n ∉ ns' := fun n h h' => by
  have a := (hs n).2 h
  have b := (hs' n).2 h'
  rw [hd n a] at b
  cases b
 refine ⟨ns ++ ns', fun n => if n ∈ ns then f n else f' n, ?_, fun n => ?_, fun n b hb => ?_, ?_⟩
 ·rw [List.nodup_append]
  exact ⟨hn, hn', fun a ha b hb e => hdis a ha (e ▸ hb)⟩
 ·rw [hm n, List.mem_append, ← hs, ← hs']
  cases h : (m1 n).isSome <;> simp [h]
 ·rw [hm n] at hb
  cases h : (m1 n).isSome with
  | true =>
   have hin := (hs n).1 h
   rw [if_pos h] at hb
   simp only [hin, if_true]
   exact hc n b hb
  | false =>
   have hin : n ∉ ns := fun hin => by have := (hs n).2 hin; rw [h] at this; cases this
   rw [if_neg (by simp [h])] at hb
   simp only [hin, if_false]
   exact hc' n b hb
 ·rw [List.map_append]
  refine (hp.append hp').trans (List.Perm.of_eq ?_)
  congr 1
  ·refine List.map_congr_left fun n hin => ?_
   have h := (hs n).2 hin
   simp only [hm n, h, if_true, hin]
  ·refine List.map_congr_left fun n hin => ?_
   have h : n ∉ ns := fun h => hdis n h hin
   have h2 : ¬ (m1 n).isSome = true := fun e => h ((hs n).1 e)
   rw [hm n, if_neg h2]
   simp only [if_neg h]
theorem fE (g : Nat → Option Bx) (n : Nat) : ∀ R : List Nat, aH (R.map fun m => (m, g m)) n = if n ∈ R then some (g n) else none
 | [] => rfl
 | m :: r => by
  simp only [List.map_cons, aH, fE g n r]
  by_cases e : n = m
  ·subst e; simp
  ·simp [e]
def mF (F : Own) (x : CS) (H : Heap) (w : World) : Prop :=
 ∃ L O, Boxes x.s.mem L ∧ (∀ n b, x.s.mem n = some b → ∀ a, a ∈ b.cs → a.ok) ∧ eH x.h.ms O ∧ Models w H (L ++ (O ++ F)) ∧ ∀ n, x.s.next ≤ n → x.s.mem n = none
def eF (mem : List (Nat × Option Bx)) (next : Nat) (h : HS) : CS := ⟨{ sz := 0, tmps := fun _ => .s (.at .any), mem := fun n => (aH mem n).getD none, next := next }, h⟩
def b8 (P : Program) (ok : FuncId → Bool) (H : Heap) (call : aX) : Prop :=
 ∀ (f : FuncId) (args : List S1) (mem : List (Nat × Option Bx)) (next : Nat) (h : HS) (F : Own) (w : World) (K : SV × CS → Prop), ok f = true → (call f args mem next h).den K → (∀ s ∈ args, s.ok) →
  mF F (eF mem next h) H w →
  Calls P f (args.map S1.den).toArray w fun e w' => ∃ v sv y, e = .returned v ∧ sv.rel v ∧ sv.ok ∧ K (sv, y) ∧ mF F y H w'
theorem lT {s : SS} (h : s.Ok) {x : ResultVar} {v : S1} (hx : jt P s x = some v) : v.ok := by
 cases x with
 | tmp t =>
  simp only [jt] at hx
  split at hx
  ·rename_i y hy
   split at hx
   ·simp only [Option.some.injEq] at hx
    subst hx
    have := h.1 t
    rw [hy] at this
    exact this
   ·simp at hx
  ·simp at hx
 | cell a T =>
  simp only [jt] at hx
  split at hx
  ·rename_i n r ha
   simp only [Option.bind_eq_some_iff] at hx
   obtain ⟨b, hb, hx⟩ := hx
   split at hx
   ·have hall := h.2 n b hb
    unfold kD at hx
    split at hx
    ·simp only [Option.some.injEq] at hx; subst hx; exact hall
    ·split at hx
     ·rename_i c hc
      simp only [Option.some.injEq] at hx; subst hx
      exact aW (hall c (by rw [hc]; simp))
     ·simp at hx
   ·simp at hx
  ·simp at hx
theorem iO {s : SS} (h : s.Ok) : ∀ {xs : List ResultVar} {l : List S1}, eg P s xs = some l → ∀ v ∈ l, v.ok
 | [], l, hx => by simp only [eg, Option.some.injEq] at hx; subst hx; simp
 | x :: r, l, hx => by
  simp only [eg] at hx
  split at hx
  ·rename_i v vs h1 h2
   simp only [Option.some.injEq] at hx
   subst hx
   intro u hu
   rcases List.mem_cons.1 hu with rfl | hu
   ·exact lT h h1
   ·exact iO h h2 u hu
  ·simp at hx
def od : List S1 → Value
 | [v] => v.den
 | l => .tuple (l.map S1.den).toArray
theorem jZ {s : SS} (h : s.Ok) {gl : List (At × Bool)} : ∀ {xs : List Operand} {vs : List S1} {cs : List Ck}, bV s gl xs = some (vs, cs) → ∀ v ∈ vs, v.ok
 | [], vs, cs, hx => by simp only [bV, Option.some.injEq, Prod.mk.injEq] at hx; rw [← hx.1]; simp
 | x :: r, vs, cs, hx => by
  simp only [bV] at hx
  split at hx
  ·rename_i a c as cs' h1 h2
   simp only [Option.some.injEq, Prod.mk.injEq] at hx
   rw [← hx.1]
   intro u hu
   rcases List.mem_cons.1 hu with rfl | hu
   ·exact aV h h1
   ·exact jZ h h2 u hu
  ·simp at hx
theorem mt (c : Cp) : (mw c).den = c.den := by
 cases c with
 | b n r off => rfl
 | v x => exact dC (.v x)
theorem fX {ops : Array Oper} {np : Nat} {ok : FuncId → Bool} (hokf : ∀ f, ok f = true → gm P f) {call : aX} {H : Heap} (hcall : b8 P ok H call) {o : Oper} {x : CS} {c : Call} {f : Operand} {e : Ef}
  (hop : o.op = .call c) (hcal : c.callee = .value f) (hg : af (am ops) x.s o = .go []) (hd : ∀ d, o.dst = some d → d < x.s.sz) (he : iu P np ok call x f c.args.toList = some e)
  {hi : Nat} {F : Own} {a : Act} {w : World} {K : CS → Prop} {Q : Exit → Act → World → Prop} (hC : CC hi F x H a w) (hr : e.run hi o.dst x K) : wp1 P ops Q o (fun a' w' => ∃ x', CC hi F x' H a' w' ∧ K x') a w := by
 obtain ⟨⟨O, hM, hc⟩, hf, hn⟩ := hC
 rw [dO] at he
 split at he
 ·rename_i n caps cf as ca h1 h2
  split at he
  ·rename_i hok
   simp only [Bool.and_eq_true, List.all_eq_true] at hok
   simp only [Option.some.injEq] at he
   subst he
   obtain ⟨hcs, hr⟩ := hr
   simp only [AllCk.append] at hcs
   have hr := G.den_bind hr
   generalize hR : aL np x 5000 (aP ((as ++ caps.map mw).flatMap S1.cells) []) [] = R at hr
   have e1 : a.eval f = .func (.func n) #[] (caps.map Cp.den).toArray := ah hc h1 hcs.1 trivial
   have e2 := cE hc h2 hcs.2 trivial
   unfold wp1
   rw [if_pos ((bg hc hg).2 trivial)]
   refine .inl ?_
   unfold Oper.wp
   rw [eS hop hcal e1 (hokf n hok.1) w, Oper.upon_enter]
   have eargs : c.args.map a.eval ++ (caps.map Cp.den).toArray = ((as ++ caps.map mw).map S1.den).toArray := by
    apply Array.ext'
    simp only [Array.toList_append, Array.toList_map, List.map_append, List.map_map]
    rw [e2]
    congr 1
    exact List.map_congr_left fun c _ => (mt c).symm
   rw [eargs]
   obtain ⟨L, hB, hmod⟩ := hc.mm
   obtain ⟨L1, L2, hp, hB1, hB2⟩ := fZ hB R
   have hmem : (fun n => (aH (R.map fun m => (m, x.s.mem m)) n).getD none) = fun n => if n ∈ R then x.s.mem n else none := by
    funext n
    rw [fE]
    by_cases e : n ∈ R <;> simp [e]
   have hMemC : mF (L2 ++ F) (eF (R.map fun m => (m, x.s.mem m)) x.s.next x.h) H w := by
    refine ⟨L1, O, by simp only [eF, hmem]; exact hB1, fun m b hb => ?_, hM, hmod.perm ?_, fun m hm' => ?_⟩
    ·simp only [eF] at hb
     rw [congrFun hmem m] at hb
     split at hb
     ·exact hc.ok.2 m b hb
     ·cases hb
    ·refine (hp.append_right _).trans ?_
     rw [List.append_assoc]
     refine List.Perm.append_left _ ?_
     exact List.perm_append_comm_assoc _ _ _
    ·simp only [eF] at hm' ⊢
     rw [congrFun hmem m]
     simp only [hf m hm', ite_self]
   refine (hcall n (as ++ caps.map mw) _ x.s.next x.h (L2 ++ F) w _ hok.1 hr ?_ hMemC).mono ?_
   ·intro s hs
    rcases List.mem_append.1 hs with hs | hs
    ·exact jZ hc.ok h2 s hs
    ·obtain ⟨c, hcm, rfl⟩ := List.mem_map.1 hs
     have := hok.2 c hcm
     cases c with
     | b n r off => exact aW trivial
     | v x => exact aW (hE (a := .v x) this)
   ·rintro en w' ⟨v, sv, y, rfl, hrel, hsok, hk, L', O', hB', hcok', hM', hmod', hf'⟩
    split at hk
    ·rename_i hsub
     generalize hR' : aL np y 5000 (aP (jn sv) R) [] = R' at hk hsub
     obtain ⟨hokU, hk⟩ := hk
     simp only [okU, Bool.and_eq_true, decide_eq_true_eq, List.all_eq_true, Bool.or_eq_true] at hokU
     obtain ⟨⟨hu1, hu2⟩, hu3⟩ := hokU
     have hin : ∀ m, m ∈ R → m ∈ R' := fun m hm' => by
      have := List.all_eq_true.1 hsub m hm'
      simpa using this
     have hnew : ∀ m ∈ R', (m ∈ R ∨ x.s.next ≤ m) ∧ m < y.s.next := fun m hm' => by
      have := hu3 (m, y.s.mem m) (List.mem_map.2 ⟨m, hm', rfl⟩)
      simpa using this
     obtain ⟨L1', G', hp', hB1', _⟩ := fZ hB' R'
     have hmemA : ∀ m, (x.app o.dst ⟨some (a3 sv), R'.map fun m => (m, y.s.mem m), some (y.s.next, y.h)⟩).s.mem m = if m ∈ R' then y.s.mem m else x.s.mem m := by
      intro m
      rw [CS.app_mem]
      simp only [fE]
      by_cases e : m ∈ R' <;> simp [e]
     refine ⟨x.app o.dst ⟨some (a3 sv), R'.map fun m => (m, y.s.mem m), some (y.s.next, y.h)⟩, ⟨⟨O', hM', ?_⟩, ?_, ?_⟩, hk⟩
     ·have hput : Conc F (x.s.set o.dst sv) H O (a.put o.dst v) w := hc.put hd hrel hsok
      have htm : ∀ t, ((x.app o.dst ⟨some (a3 sv), R'.map fun m => (m, y.s.mem m), some (y.s.next, y.h)⟩).s.tmps t) = (x.s.set o.dst sv).tmps t ∨ ((x.app o.dst ⟨some (a3 sv), R'.map fun m => (m, y.s.mem m), some (y.s.next, y.h)⟩).s.tmps t) = a3 ((x.s.set o.dst sv).tmps t) := by
       intro t
       cases hdd : o.dst with
       | none => exact .inl rfl
       | some d =>
        by_cases e : t = d
        ·right; subst e; simp [CS.app, f9, SS.set]
        ·left; simp [CS.app, f9, SS.set, e]
      refine ⟨⟨fun t => ?_, fun m b hb => ?_⟩, hput.df, ?_, fun t => ?_, L1' ++ L2, ?_, ?_⟩
      ·rcases htm t with e | e
       ·rw [e]; exact hput.ok.1 t
       ·rw [e]; exact g8 (hput.ok.1 t)
      ·rw [hmemA] at hb
       split at hb
       ·exact hcok' m b hb
       ·exact hc.ok.2 m b hb
      ·rw [hput.sz]; cases o.dst <;> rfl
      ·rcases htm t with e | e
       ·rw [e]; exact hput.tm t
       ·rw [e]; exact fu (hput.tm t)
      ·refine ky hB1' hB2 (fun m hm1 => ?_) (fun m => ?_)
       ·split at hm1
        ·rename_i hmR
         by_cases e : m ∈ R
         ·simp [e]
         ·simp only [e, if_false]
          exact hf m ((hnew m hmR).1.resolve_left e)
        ·cases hm1
       ·rw [hmemA]
        by_cases e : m ∈ R'
        ·simp only [e, if_true]
         cases hy : y.s.mem m with
         | some b => rfl
         | none =>
          simp only [Option.isSome_none, Bool.false_eq_true, if_false]
          by_cases e' : m ∈ R
          ·simp [e']
          ·simp only [e', if_false]
           exact (hf m ((hnew m e).1.resolve_left e')).symm
        ·have e' : m ∉ R := fun h => e (hin m h)
         simp [e, e']
      ·have h3 : Models w' H (L1' ++ (O' ++ (L2 ++ F))) := by
        refine (hmod'.perm (hp'.append_right _)).sub ?_
        rw [List.append_assoc]
        exact List.Sublist.append_left (List.sublist_append_right _ _) _
       refine h3.perm ?_
       rw [List.append_assoc]
       exact List.Perm.append_left _ (List.perm_append_comm_assoc _ _ _)
     ·intro m hm'
      have hm2 : y.s.next ≤ m := hm'
      rw [hmemA]
      split
      ·rename_i e; have := (hnew m e).2; omega
      ·exact hf m (by omega)
     ·show hi ≤ y.s.next; omega
    ·exact hk.elim
  ·simp at he
 ·simp at he
theorem jh {ops : Array Oper} {np : Nat} {pur ok : FuncId → Bool} (hokf : ∀ f, ok f = true → gm P f) {call : aX} {H : Heap} (hcall : b8 P ok H call) {o : Oper} {x : CS} {c : Call} {f : Operand} {e : Ef}
  (hop : o.op = .call c) (hcal : c.callee = .value f) (hg : af (am ops) x.s o = .go []) (hd : ∀ d, o.dst = some d → d < x.s.sz) (he : fV P np pur ok call x f c.args.toList = some e)
  {hi : Nat} {F : Own} {a : Act} {w : World} {K : CS → Prop} {Q : Exit → Act → World → Prop} (hC : CC hi F x H a w) (hr : e.run hi o.dst x K) : wp1 P ops Q o (fun a' w' => ∃ x', CC hi F x' H a' w' ∧ K x') a w := by
 obtain ⟨e0, h0, rfl | rfl⟩ := eA he
 ·exact fX hokf hcall hop hcal hg hd h0 hC hr
 ·exact fX hokf hcall hop hcal hg hd h0 hC (lV (mB h0) hr)
end
noncomputable section
def lit : At → Option Value
 | .k v => some v
 | .v v => some v
 | _ => none
def lE (a : At) : Bool := a.known && a.fit
def eY (x : CS) (size : Nat) (a : At) : Option (List At × Nat × List Ck × List Nat) :=
 match a with
 | .sl n r off len _ =>
  match x.s.mem n with
  | some b =>
   let l := (b.cs.drop off).take (len * size)
   if l.length == len * size && l.all lE then some (l, len, [.eqN r b.r], [n]) else none
  | none => none
 | .k (.slice _ 0 _) | .v (.slice _ 0 _) => some ([], 0, [], [])
 | _ => none
def nc (P : Program) (x : CS) (size : Nat) (t2 : TypeId) (a : At) : Option (List At × Nat × List Ck × List Nat) :=
 match P.underlying t2 with
 | some (.slice _) => eY x size a
 | some .string => match lit a with
  | some (.string s) => if size = 1 then some ((byteCells s).map .k, s.size, [], []) else none
  | _ => none
 | _ => none
def kF (l : List At) (c size : Nat) : List At := l ++ List.replicate (c * size) .any
def ko (x : CS) (e : TypeId) (size need : Nat) (known : List At) (old : List (Nat × Option Bx)) : G Upd :=
 .box fun r => .box fun c => .done ⟨some (.s (.at (.sl x.s.next r 0 need (c + need)))), (x.s.next, some ⟨r, e, kF known c size⟩) :: old,
  some (x.s.next + 1, { x.h with gr := (x.s.next, known.length, c) :: x.h.gr })⟩
def d4 : At → Bool
 | .k (.slice _ 0 0) | .v (.slice _ 0 0) => true
 | _ => false
def ec (P : Program) (e : TypeId) : Nat := ((P.info? e).map (·.bytes)).getD 0
def gJ (P : Program) (t e : TypeId) (size : Nat) : Bool :=
 match P.underlying t, P.info? e with
 | some (.slice e'), some i => e' == e && i.size == size && (i.zero.map fun z => z.cells.size == size).getD false && decide (0 < size)
 | _, _ => false
def oc : At → Option (Nat × Nat)
 | .sl _ _ _ len cap => some (len, cap)
 | .k (.slice _ len cap) | .v (.slice _ len cap) => some (len, cap)
 | _ => none
def bS (P : Program) (x : CS) (e : TypeId) (size : Nat) (sa : At) (news : List At) (m : Nat) (ck : List Ck) (rd : List Nat) : Option Ef :=
 if m = 0 then
  match oc sa with
  | some (len, cap) => if len ≤ cap then some ⟨ck, .done ⟨some (.s (.at (hF sa))), [], some (x.s.next, x.h)⟩, rd, [], some x.s.next⟩ else none
  | none => none
 else
 match sa with
 | .sl n r off len cap =>
  let need := len + m
  if need * ec P e > 140737488355328 || need ≥ 2 ^ 63 then none else
  match x.s.mem n with
  | none => none
  | some b =>
   let ck' := .eqN r b.r :: ck
   let rows := (b.cs.drop off).take (len * size)
   if rows.length != len * size || !rows.all lE then none else
   let inPlace : Option Ef :=
    if (b.cs.take (off + need * size)).length == off + need * size then
     some ⟨ck', .done ⟨some (.s (.at (.sl n r off need cap))), [(n, some { b with cs := aZ b.cs (off + len * size) news })], some (x.s.next, x.h)⟩, n :: rd, [n], some x.s.next⟩
    else none
   match ll x.h.gr n with
   | none => if need ≤ cap then inPlace else some ⟨ck', ko x e size need (rows ++ news) [], n :: rd, [], some x.s.next⟩
   | some (k, c) =>
    if off + need * size ≤ k then (if need ≤ cap then inPlace else none)
    else if off = 0 ∧ b.T = e then
     some ⟨.eqN cap (c + len) :: ck', .eql b.cs (kF rows c size) (ko x e size need (rows ++ news) [(n, none)]), n :: rd, [n], some x.s.next⟩
    else none
 | sa =>
  if d4 sa then
   if m * ec P e > 140737488355328 || m ≥ 2 ^ 63 then none else
   some ⟨ck, ko x e size m news [], rd, [], some x.s.next⟩
  else none
def iD (P : Program) (x : CS) (argTypes : Array TypeId) (args : List Operand) : Option Ef :=
 match argTypes.toList, az x.s [] args with
 | [t, t2], some ([sa, ya], cs) =>
  match P.underlying t with
  | some (.slice e) =>
   (bT P e).bind fun size =>
   if !gJ P t e size then none else
   (nc P x size t2 ya).bind fun p => if sa.fit then bS P x e size sa p.1 p.2.1 (p.2.2.1 ++ cs) p.2.2.2 else none
  | _ => none
 | _, _ => none
def my (P : Program) (x : CS) (argTypes : Array TypeId) (args : List Operand) : Option Ef :=
 match argTypes.toList, az x.s [] args with
 | [t, t2], some ([da, ya], cs) =>
  match P.underlying t with
  | some (.slice e) =>
   (bT P e).bind fun size =>
   if t != t2 || !gJ P t e size then none else
   (eY x size ya).bind fun (news, m, ck, rd) =>
   match da with
   | .sl n r off len _ =>
    match x.s.mem n with
    | none => none
    | some b =>
     let k := min m len
     let l := news.take (k * size)
     let old := (b.cs.drop off).take (k * size)
     if old.length != k * size then none else
     some ⟨.eqN r b.r :: ck ++ cs, .done ⟨some (.s (.at (.k (goInt k)))), [(n, some { b with cs := aZ b.cs off l })], none⟩, n :: rd, [n], none⟩
   | da => if d4 da then some ⟨ck ++ cs, .done ⟨some (.s (.at (.k (goInt 0)))), [], none⟩, rd, [], none⟩ else none
  | _ => none
 | _, _ => none
def cK (P : Program) (t : TypeId) : Option (TypeId × Option IntKind) :=
 match P.underlying t with
 | some (.map kt et) => some (et, match P.underlying kt with | some (.int k) => some k | _ => none)
 | _ => none
def cz (l : List (Nat × MB)) (n : Nat) : Option MB :=
 match l with
 | [] => none
 | (k, a) :: r => if n = k then some a else cz r n
def iJ : List (Nat × MB) → Nat → MB → List (Nat × MB)
 | [], _, _ => []
 | (k, a) :: r, n, m => if n = k then (k, m) :: r else (k, a) :: iJ r n m
def kr : List (Nat × MB) → Nat → List (Nat × MB)
 | [], _ => []
 | (k, a) :: r, n => if n = k then r else (k, a) :: kr r n
def gy (P : Program) (t : TypeId) : Bool :=
 match P.underlying t with
 | some (.map kt _) => match P.underlying kt with | some .string => true | _ => false
 | _ => false
def eL (P : Program) (x : CS) (t : TypeId) : Option Ef :=
 (cK P t).bind fun (_, k) =>
  some ⟨[], .box fun r => .done ⟨some (.s (.at (.mp x.s.next r))), [], some (x.s.next + 1, { x.h with ms := (x.s.next, ⟨r, k.getD .i64, [], if gy P t then some [] else none⟩) :: x.h.ms })⟩, [], [], some x.s.next⟩
def lG (P : Program) (t : TypeId) : Option Value := (P.info? t).bind (·.zero)
def nl (v : Value) : Option S1 :=
 if v.oneCell' then some (.at (.v v)) else
 match v with
 | .agg l => if l.toList.all (fun v => v.oneCell') then some (.agg (l.toList.map fun v => .v v)) else none
 | _ => none
def dU (m : nM) (k : List UInt8) : Option Value := (m.find? fun p => k == p.1).map (·.2)
def eM (P : Program) (x : CS) (t : TypeId) (m k : Operand) (ok : Bool) : Option Ef :=
 (cK P t).bind fun (et, kk) => (lG P et).bind fun z =>
 match a5 x.s [] m, a5 x.s [] k with
 | some (.mp n r, cm), some (ka, ck) =>
  match lit ka, cz x.h.ms n with
  | some (.int kd i), some b =>
   if kd = b.kd ∧ b.sm = none ∧ kk.isSome = true then
    (nl ((dV b.m i).getD z)).bind fun a =>
     some ⟨.eqN r b.r :: cm ++ ck, .done ⟨some (a3 (if ok then .tup [a, .at (.k (.bool (dV b.m i).isSome))] else .s a)), [], some (x.s.next, x.h)⟩, [], [], some x.s.next⟩
   else none
  | some (.string y), some b =>
   match b.sm with
   | some l => if gy P t && ok then
     (nl ((dU l y.data.toList).getD z)).bind fun a =>
      some ⟨.eqN r b.r :: cm ++ ck, .done ⟨some (a3 (.tup [a, .at (.k (.bool (dU l y.data.toList).isSome))])), [], some (x.s.next, x.h)⟩, [], [], some x.s.next⟩
    else none
   | none => none
  | _, _ => none
 | _, _ => none
def io (P : Program) (t : TypeId) (v : Value) : Bool :=
 match P.underlying t with
 | some (.map kt _) => P.keyTypeAt 5 kt && v.formed P kt && (P.keyLits 10 kt v.cells.toList).isSome
 | _ => false
def ng : List At → Option (List Value)
 | [] => some []
 | a :: r => (lit a).bind fun v => (ng r).map fun vs => v :: vs
def ib (P : Program) (x : CS) (t : TypeId) (m k : Operand) (ok : Bool) : Option Ef :=
 (cK P t).bind fun (et, _) => (lG P et).bind fun z =>
 match a5 x.s [] m, b9 x.s [] k with
 | some (.mp n r, cm), some (.agg ka, ck) =>
  (ng ka).bind fun vs => (cz x.h.ms n).bind fun b =>
   if b.rows.isEmpty && !ok && io P t (.agg vs.toArray) then
    (nl z).bind fun a => some ⟨.eqN r b.r :: cm ++ ck, .done ⟨some (a3 (.s a)), [], some (x.s.next, x.h)⟩, [], [], some x.s.next⟩
   else none
 | _, _ => none
def eV (P : Program) (x : CS) (t : TypeId) (m k : Operand) : Option Ef :=
 match a5 x.s [] m, b9 x.s [] k with
 | some (.mp n r, cm), some (.agg ka, ck) =>
  (ng ka).bind fun vs => (cz x.h.ms n).bind fun b =>
   if b.rows.isEmpty && io P t (.agg vs.toArray) then
    some ⟨.eqN r b.r :: cm ++ ck, .done ⟨none, [], some (x.s.next, { x.h with ms := kr x.h.ms n })⟩, [], [], some x.s.next⟩
   else none
 | _, _ => none
def hZ (P : Program) (x : CS) (t : TypeId) (m k : Operand) (ok : Bool) : Option Ef :=
 match eM P x t m k ok with
 | some e => some e
 | none => ib P x t m k ok
def dx (P : Program) (x : CS) (t : TypeId) (m k v : Operand) : Option Ef :=
 (cK P t).bind fun (_, kk) =>
 match a5 x.s [] m, az x.s [] [k, v] with
 | some (.mp n r, cm), some ([ka, va], ck) =>
  match lit ka, lit va, cz x.h.ms n with
  | some (.int kd i), some u, some b =>
   if kd = b.kd ∧ b.sm = none ∧ u.oneCell' = true ∧ kk.isSome = true then
    some ⟨.eqN r b.r :: cm ++ ck, .done ⟨none, [], some (x.s.next, { x.h with ms := iJ x.h.ms n { b with m := kB b.m i u } })⟩, [], [], some x.s.next⟩
   else none
  | some (.string y), some u, some b =>
   match b.sm with
   | some l => if gy P t && u.oneCell' && (dU l y.data.toList).isNone then
     some ⟨.eqN r b.r :: cm ++ ck, .done ⟨none, [], some (x.s.next, { x.h with ms := iJ x.h.ms n { b with sm := some (l ++ [(y.data.toList, u)]) } })⟩, [], [], some x.s.next⟩
    else none
   | none => none
  | _, _, _ => none
 | _, _ => none
def eU (P : Program) (x : CS) (t : TypeId) (m k v : Operand) : Option Ef :=
 match dx P x t m k v with
 | some e => some e
 | none => eV P x t m k
def mc (P : Program) (x : CS) (ts : Array TypeId) (args : List Operand) : Option Ef :=
 match ts.toList, az x.s [] args with
 | [t], some ([.mp n r], cs) =>
  match P.underlying t, cz x.h.ms n with
  | some (.map _ _), some b => some ⟨.eqN r b.r :: cs, .done ⟨some (.s (.at (.k (goInt b.rows.length)))), [], some (x.s.next, x.h)⟩, [], [], some x.s.next⟩
  | _, _ => none
 | _, _ => none
def j5 (P : Program) (x : CS) (ts : Array TypeId) (args : List Operand) : Option Ef :=
 match ts.toList, az x.s [] args with
 | [t], some ([a], cs) =>
  match P.underlying t with
  | some (.slice e) =>
   (bT P e).bind fun size => (du P e).bind fun z =>
   if z.length != size || size == 0 || !z.all lE then none else
   match a with
   | .sl n r off len _ =>
    match x.s.mem n with
    | none => none
    | some b =>
     if off + len * size ≤ b.cs.length then
      some ⟨.eqN r b.r :: cs, .done ⟨none, [(n, some { b with cs := aZ b.cs off (au z len) })], none⟩, [n], [n], none⟩
     else none
   | a => if d4 a then some ⟨cs, .done ⟨none, [], none⟩, [], [], none⟩ else none
  | _ => none
 | _, _ => none
def dr : List At → Option (List UInt8)
 | [] => some []
 | .k (.int .u8 n) :: r => if 0 ≤ n ∧ n < 256 then (dr r).map (UInt8.ofNat n.toNat :: ·) else none
 | _ => none
def mz (P : Program) (x : CS) (src dst : TypeId) (y : Operand) : Option Ef :=
 match P.underlying src, P.underlying dst, a5 x.s [] y with
 | some (.slice e), some .string, some (ya, cs) =>
  match P.underlying e with
  | some (.int .u8) =>
   (eY x 1 ya).bind fun (l, _, ck, rd) => (dr l).bind fun bs =>
    some ⟨ck ++ cs, .done ⟨some (.s (.at (.k (.string ⟨bs.toArray⟩)))), [], none⟩, rd, [], none⟩
  | _ => none
 | _, _, _ => none
structure Cfg where
 P : Program
 ok : FuncId → Bool
 glob : mQ
 pur : FuncId → Bool
 np : Nat
inductive PK where
 | light
 | mlen (ts : Array TypeId) (args : List Operand)
 | clear (ts : Array TypeId) (args : List Operand)
 | call (f : Operand) (args : List Operand)
 | app (ts : Array TypeId) (args : List Operand)
 | copy (ts : Array TypeId) (args : List Operand)
 | mkmap (t : TypeId)
 | lookup (t : TypeId) (m k : Operand) (ok : Bool)
 | update (t : TypeId) (m k v : Operand)
 | conv (a b : TypeId) (y : Operand)
 | mks (t : TypeId) (l c : Operand)
def mL (P : Program) (t : TypeId) : Bool := match P.underlying t with | some (.int _) => true | _ => false
def nC (P : Program) (t : TypeId) : Bool := match P.underlying t with | some (.map _ _) => true | _ => false
def mI (P : Program) (o : Op) : PK :=
 match o with
 | .call c => match c.callee with
  | .value f => .call f c.args.toList
  | .builtin .append => .app c.argTypes c.args.toList
  | .builtin .clear => .clear c.argTypes c.args.toList
  | .builtin .len => if nC P (c.argTypes.toList.headD 0) then .mlen c.argTypes c.args.toList else .light
  | .builtin .copy => .copy c.argTypes c.args.toList
  | _ => .light
 | .makeMap t none => .mkmap t
 | .lookup t m k ok => .lookup t m k ok
 | .mapUpdate t m k v => .update t m k v
 | .insert t m k v => .update t m k v
 | .makeSlice t l c => .mks t l c
 | .convert a b y => if mL P a && mL P b then .light else .conv a b y
 | _ => .light
def nP (c : Cfg) (ops : Array Oper) (name : Nat) (o : Oper) (x : CS) (t : TypeId) (l k : Operand) : Option Ef :=
 match a5 x.s [] l, a5 x.s [] k with
 | some (.k lv, _), some (.k kv, _) => (nf c.P (fun _ => false) (fun _ => none) (am ops) false name { o with op := .makeSlice t (.const lv) (.const kv) } x.s).bind fun p => m0 c.P c.glob p.1 p.2
 | _, _ => none
def bo (c : Cfg) (call : aX) (ops : Array Oper) (name : Nat) (o : Oper) (x : CS) : PK → Option Ef
 | .light => none
 | .call f args => fV c.P c.np c.pur c.ok call x f args
 | .mlen ts args => mc c.P x ts args
 | .clear ts args => if o.dst.isNone then j5 c.P x ts args else none
 | .app ts args => iD c.P x ts args
 | .copy ts args => my c.P x ts args
 | .mkmap t => eL c.P x t
 | .lookup t m k ok => hZ c.P x t m k ok
 | .update t m k v => if o.dst.isNone then eU c.P x t m k v else none
 | .conv a b y => mz c.P x a b y
 | .mks t l k => nP c ops name o x t l k
def PK.isLight : PK → Bool
 | .light => true
 | _ => false
abbrev NFF := Program → (FuncId → Bool) → (FuncId → Option (List Nat)) → Bool → Nat → Oper → List (At × Bool) → SS → Option (NF × FP)
def nu (op : Op) : NFF :=
 Op.rec (motive := fun _ => NFF)
  (move := fun x P okf rules sp name o gl s =>
   cF s gl o.dst sp x)
  (assign := fun x P okf rules sp name o gl s =>
   cF s gl o.dst sp x)
  (pick := fun c a b P okf rules sp name o gl s =>
   fj s gl o.dst c a b)
  (alloc := fun T P okf rules sp name o gl s =>
   (du P T).bind fun cells => bq s gl o.dst name T cells (fun r => .p name r 0) [])
  (box := fun T x P okf rules sp name o gl s =>
   (b9 s gl x).bind fun (v, cs) => if v.cells.all At.fit then bq s gl o.dst name T v.cells (fun r => .p name r 0) cs else none)
  (build := fun T parts P okf rules sp name o gl s =>
   dt P s gl o.dst T parts.toList)
  (buildSlice := fun T len parts P okf rules sp name o gl s =>
   aO P s gl o.dst name T len parts.toList)
  (insert := fun t m k x P okf rules sp name o gl s =>
   if o.dst.isNone then aR s gl o.dst .one (.mapUpdate t) [m, k, x] else none)
  (load := fun t x P okf rules sp name o gl s =>
   (a5 s gl x).bind fun (x, cs) => dF P s gl o.dst t x cs)
  (store := fun t x y P okf rules sp name o gl s =>
   if gl.isEmpty && o.dst.isNone then (a5 s gl x).bind fun (x, cs) => (b9 s gl y).bind fun (y, cs') => cg P s t x y (cs ++ cs') else none)
  (ready := fun _ _ _ _ _ _ _ _ _ => none)
  (waits := fun _ _ _ _ _ _ _ _ _ => none)
  (nilCheck := fun x P okf rules sp name o gl s =>
   (a5 s gl x).bind fun (x, cs) => ma gl o.dst x cs)
  (binOp := fun op t x y _ P okf rules sp name o gl s =>
   jk P s gl o.dst op t x y)
  (unOp := fun op t x P okf rules sp name o gl s =>
   (a5 s gl x).bind fun (x, cs) => nN P gl o.dst op t x cs)
  (convert := fun a b x P okf rules sp name o gl s =>
   (a5 s gl x).bind fun (x, cs) => fS P s gl o.dst a b x cs)
  (sliceToArrayPointer := fun _ _ _ _ _ _ _ _ _ _ => none)
  (makeInterface := fun t x P okf rules sp name o gl s =>
   dl P s gl o.dst t x)
  (makeFunc := fun xf first caps P okf rules sp name o gl s =>
   match xf with
    | .func f =>    if first.isEmpty then (az s gl caps.toList).bind fun (as, cs) => (dN as).bind fun l => ap gl o.dst (.at (.clo f l)) cs else none
    | _ => none)
  (makeMap := fun t r P okf rules sp name o gl s =>
   aR s gl o.dst .one (.makeMap t r.isSome) r.toList)
  (makeChan := fun _ _ _ _ _ _ _ _ _ _ => none)
  (makeSlice := fun t l c P okf rules sp name o gl s =>
   aN P s gl o.dst name t l c)
  (slice := fun t x lo hi mx P okf rules sp name o gl s =>
   (a5 s gl x).bind fun (x, c0) => (az s gl lo.toList).bind fun (l, c1) => (az s gl hi.toList).bind fun (h, c2) => (az s gl mx.toList).bind fun (m, c3) =>
     gX P gl o.dst t x l.head? h.head? m.head? (c0 ++ c1 ++ c2 ++ c3))
  (fieldAddr := fun t x f P okf rules sp name o gl s =>
   (dp P t f).bind fun fd => (bT P fd.type).bind fun m =>
     if m = 0 then none else (a5 s gl x).bind fun (x, cs) => (iS gl x fd.offset).bind fun (a, c) => ap gl o.dst (.at a) (c ++ cs))
  (field := fun t x f P okf rules sp name o gl s =>
   (dp P t f).bind fun fd => (b9 s gl x).bind fun (x, cs) => (dB P fd.type x.cells fd.offset).bind fun v => if x.isAgg then ap gl o.dst v cs else none)
  (indexAddr := fun t x i P okf rules sp name o gl s =>
   (az s gl [x, i]).bind fun (as, cs) => (nb as).bind fun (x, i) => cn P gl o.dst t x i cs)
  (index := fun t x i P okf rules sp name o gl s =>
   (b9 s gl x).bind fun (x, cs) => (a5 s gl i).bind fun (i, cs') => ie P gl o.dst t x i (cs ++ cs'))
  (lookup := fun t x i ok P okf rules sp name o gl s =>
   aR s gl o.dst (if ok then .tup [none, none] else .one) (.lookup t ok) [x, i])
  (mapUpdate := fun t m k x P okf rules sp name o gl s =>
   if o.dst.isNone then aR s gl o.dst .one (.mapUpdate t) [m, k, x] else none)
  (mapEntry := fun _ _ _ _ _ _ _ _ _ _ _ => none)
  (entryStore := fun _ _ _ _ _ _ _ _ _ _ _ _ => none)
  (range := fun t x P okf rules sp name o gl s =>
   aR s gl o.dst .one (.range t) [x])
  (next := fun x str P okf rules sp name o gl s =>
   aR s gl o.dst (if str then .tup [none, none, none] else .tup [none, none, none]) (.next str o.type) [x])
  (entry := fun x P okf rules sp name o gl s =>
   aR s gl o.dst (.tup [none, none]) .entry [x])
  (typeAssert := fun _ _ _ _ _ _ _ _ _ _ _ _ => none)
  (extract := fun x i P okf rules sp name o gl s =>
   aU s gl o.dst x i)
  (call := fun c P okf rules sp name o gl s =>
   match c.callee with
    | .builtin b => bM P s gl o.dst o.type b c.argTypes c.args.toList
    | .value f =>
     if gl.isEmpty then (a5 s gl f).bind fun (f, cs) => (bV s gl c.args.toList).bind fun (as, cs') => fW P okf rules s o.dst o.type f as (cs ++ cs') else none
    | .invoke r m =>
     if gl.isEmpty then (a5 s gl r).bind fun (x, cs) => (bV s gl c.args.toList).bind fun (as, cs') => fB P s o.dst o.type m x as (cs ++ cs') else none)
  (go := fun _ _ _ _ _ _ _ _ _ => none)
  (defer := fun _ _ _ _ _ _ _ _ _ => none)
  (panic := fun _ _ _ _ _ _ _ _ _ => none)
  (send := fun _ _ _ _ _ _ _ _ _ _ => none)
  (recv := fun _ _ _ _ _ _ _ _ _ _ _ => none)
  (select := fun _ _ _ _ _ _ _ _ _ _ => none)
  op
theorem mb (P : Program) (okf : FuncId → Bool) (rules : FuncId → Option (List Nat)) (sp : Bool) (name : Nat) (o : Oper) (gl : List (At × Bool)) (s : SS) : nu o.op P okf rules sp name o gl s = kC P okf rules sp name o gl s := by
 unfold kC
 cases o.op with
 | makeFunc f first caps => cases f <;> rfl
 | _ => rfl
def nfF (P : Program) (okf : FuncId → Bool) (rules : FuncId → Option (List Nat)) (tgt : Nat → Option Tmp) (sp : Bool) (name : Nat) (o : Oper) (s : SS) : Option (NF × FP) :=
 if !dK s o.dst then none else
 match af tgt s o with
 | .bad => none
 | .skip => some (.fl [] .sil (fun _ => (.s (.at (.k undef)))), {})
 | .go gl => nu o.op P okf rules sp name o gl s
theorem nv (P : Program) (okf : FuncId → Bool) (rules : FuncId → Option (List Nat)) (tgt : Nat → Option Tmp) (sp : Bool) (name : Nat) (o : Oper) (s : SS) : nfF P okf rules tgt sp name o s = nf P okf rules tgt sp name o s := by
 unfold nfF nf
 cases dK s o.dst with
 | false => rfl
 | true =>
  simp only [Bool.not_true, Bool.false_eq_true, if_false]
  cases af tgt s o with
  | bad => rfl
  | skip => rfl
  | go gl => exact mb P okf rules sp name o gl s
theorem jw : nfF = nf := by
 funext P okf rules tgt sp name o s
 exact nv P okf rules tgt sp name o s
def cN (c : Cfg) (call : aX) : NF1 := fun ops base i o x =>
 let pk := mI c.P o.op
 if pk.isLight then (nfF c.P (fun _ => false) (fun _ => none) (am ops) false (base + i) o x.s).bind fun p => m0 c.P c.glob p.1 p.2
 else if !dK x.s o.dst then none else
 match af (am ops) x.s o with
 | .skip => some ⟨[], .done ⟨some (.s (.at (.k undef))), [], none⟩, [], [], none⟩
 | .go [] => bo c call ops (base + i) o x pk
 | _ => none
def nO (c : Cfg) (depth loops : Nat) : aX := nG c.P (cN c) loops depth
end
noncomputable section
variable {P : Program}
theorem cT {hi : Nat} {F : Own} {x : CS} {H : Heap} {O : Own} {a : Act} {w w' : World} {dst : Option Tmp} {v : Value} {sv : SV} {u : Upd} {nx : Nat} {h' : HS} {L' O' : Own}
  (hc : Conc F x.s H O a w) (hd : ∀ d, dst = some d → d < x.s.sz) (hrel : sv.rel v) (hsok : sv.ok) (hv : dst = none ∨ u.val = some (a3 sv)) (hu : u.hv = some (nx, h'))
  (hok : ∀ n b, (x.app dst u).s.mem n = some b → ∀ a, a ∈ b.cs → a.ok) (hB : Boxes (x.app dst u).s.mem L') (hM : eH h'.ms O') (hm : Models w' H (L' ++ (O' ++ F)))
  (hf : ∀ n, nx ≤ n → (x.app dst u).s.mem n = none) (hn : hi ≤ nx) : CC hi F (x.app dst u) H (a.put dst v) w' := by
 have hnx : (x.app dst u).s.next = nx := by simp only [CS.app, hu]
 have hhx : (x.app dst u).h = h' := by simp only [CS.app, hu]
 refine ⟨⟨O', by rw [hhx]; exact hM, ?_⟩, fun n h => hf n (by rw [hnx] at h; exact h), by rw [hnx]; exact hn⟩
 have hput : Conc F (x.s.set dst sv) H O (a.put dst v) w := hc.put hd hrel hsok
 have htm : ∀ t, ((x.app dst u).s.tmps t) = (x.s.set dst sv).tmps t ∨ ((x.app dst u).s.tmps t) = a3 ((x.s.set dst sv).tmps t) := by
  intro t
  cases dst with
  | none => left; simp [CS.app, f9, SS.set]
  | some d =>
   have hv1 : u.val = some (a3 sv) := hv.resolve_left (by simp)
   by_cases e : t = d
   ·right; subst e; simp [CS.app, SS.set, hv1, fe]
   ·left; simp [CS.app, f9, SS.set, e, hv1]
 refine ⟨⟨fun t => ?_, hok⟩, hput.df, ?_, fun t => ?_, L', hB, hm⟩
 ·rcases htm t with e | e
  ·rw [e]; exact hput.ok.1 t
  ·rw [e]; exact g8 (hput.ok.1 t)
 ·rw [hput.sz]; cases dst <;> rfl
 ·rcases htm t with e | e
  ·rw [e]; exact hput.tm t
  ·rw [e]; exact fu (hput.tm t)
theorem d6 {hi : Nat} {F : Own} {x : CS} {H : Heap} {O : Own} {a : Act} {w : World} {dst : Option Tmp} {v : Value} {sv : SV} (hM : eH x.h.ms O)
  (hc : Conc F x.s H O a w) (hd : ∀ d, dst = some d → d < x.s.sz) (hrel : sv.rel v) (hsok : sv.ok) (hf : ∀ n, x.s.next ≤ n → x.s.mem n = none) (hn : hi ≤ x.s.next) :
  CC hi F (x.app dst ⟨some (a3 sv), [], some (x.s.next, x.h)⟩) H (a.put dst v) w := by
 obtain ⟨L, hB, hm⟩ := hc.mm
 exact cT (u := ⟨some (a3 sv), [], some (x.s.next, x.h)⟩) hc hd hrel hsok (.inr rfl) rfl hc.ok.2 hB hM hm hf hn
theorem bw {ops : Array Oper} {o : Oper} {s : SS} {F : Own} {H : Heap} {O : Own} {a : Act} {w w' : World} {v : Value} {K : Act → World → Prop} {Q : Exit → Act → World → Prop}
  (hc : Conc F s H O a w) (hg : af (am ops) s o = .go []) (hrun : (execOp a.eval o).run P w = .ok (.value v) w') (hk : K (a.put o.dst v) w') : wp1 P ops Q o K a w := by
 unfold wp1
 rw [if_pos ((bg hc hg).2 trivial)]
 refine .inl ?_
 unfold Oper.wp
 rw [hrun, Oper.upon_value]
 exact hk
theorem gP {ops : Array Oper} {o : Oper} {s : SS} {F : Own} {H : Heap} {O : Own} {a : Act} {w w' : World} {K : Act → World → Prop} {Q : Exit → Act → World → Prop}
  (hc : Conc F s H O a w) (hg : af (am ops) s o = .go []) (hrun : (execOp a.eval o).run P w = .ok .skip w') (hk : K (a.put o.dst undef) w') : wp1 P ops Q o K a w := by
 unfold wp1
 rw [if_pos ((bg hc hg).2 trivial)]
 refine .inl ?_
 unfold Oper.wp
 rw [hrun, Oper.upon_skip]
 exact hk
theorem cZ {w : World} {H : Heap} {r : Nat} {vs vs' : List Value} {T : TypeId} {O : Own} (hm : Models w H ((r, .cells vs.toArray T (0, 0)) :: O)) : Models (w.setRow r vs'.toArray) H ((r, .cells vs'.toArray T (0, 0)) :: O) := by
 have hr := (hm.own (r, .cells vs.toArray T (0, 0)) (by simp)).1
 refine hm.update (fun b hb => ?_) (setRow_heap w r _ _ _ _ hr) rfl
 simp only [World.setRow, Array.getElem?_modify]
 rw [if_neg (fun e => hb e.symm)]
theorem cG {w : World} {H : Heap} {O : Own} (hm : Models w H O) (cs : Array Value) (e : TypeId) : Models (w.drew.alloc (.cells cs e)) H ((w.heap.size, .cells cs e (0, 0)) :: O) := by
 have h1 : Models w.drew H O := hm.same rfl rfl
 exact (h1.push (.cells cs e (0, 0)))
theorem dI {l : List At} (h : l.all lE = true) : l.all At.known = true ∧ ∀ a ∈ l, a.fit = true := by
 rw [List.all_eq_true] at h
 refine ⟨List.all_eq_true.2 fun a ha => ?_, fun a ha => ?_⟩
 ·have := h a ha
  simp only [lE, Bool.and_eq_true] at this
  exact this.1
 ·have := h a ha
  simp only [lE, Bool.and_eq_true] at this
  exact this.2
theorem ix {F : Own} {s : SS} {H : Heap} {O : Own} {a : Act} {w : World} (hc : Conc F s H O a w) {n : Nat} {b : Bx} (hb : s.mem n = some b) {off m : Nat} (hl : ((b.cs.drop off).take m).length = m) (hk : ((b.cs.drop off).take m).all lE = true) :
  (∀ j v, (((b.cs.drop off).take m).map At.den)[j]? = some v → w.cell? ((⟨b.r, off, none⟩ : Addr).add j) = some v) ∧ ∀ v ∈ ((b.cs.drop off).take m).map At.den, v.oneCell' = true := by
 obtain ⟨vs, hv, hr⟩ := ir hc hb
 obtain ⟨h1, h2⟩ := dI hk
 have e := CellsRel.known ((hv.drop off).take m) h1
 refine ⟨fun j v hj => ?_, fun v hv => ?_⟩
 ·rw [← e] at hj
  exact bR hr off j v hj
 ·obtain ⟨a', ha, rfl⟩ := List.mem_map.1 hv
  exact At.fit_one (h2 a' ha) (hc.ok.2 n b hb a' (List.mem_of_mem_drop (List.mem_of_mem_take ha)))
theorem cJ {a : At} {v : Value} (h : lit a = some v) : a.den = v := by
 cases a <;> simp [lit] at h <;> subst h <;> rfl
theorem iI {F : Own} {x : CS} {H : Heap} {O : Own} {a : Act} {w : World} (hc : Conc F x.s H O a w) {t2 e' : TypeId} (ht2 : P.underlying t2 = some (.slice e')) {size : Nat} {ya : At} {news : List At} {m : Nat} {ck : List Ck} {rd : List Nat}
  (h : eY x size ya = some (news, m, ck, rd)) (hck : AllCk ck) : Src P size t2 ya.den m (news.map At.den) w ∧ news.length = m * size ∧ news.all lE = true ∧ ∀ a ∈ news, a.ok := by
 unfold eY at h
 split at h
 ·rename_i n r off len cap
  split at h
  ·rename_i b hb
   simp only [] at h
   split at h
   ·rename_i hcond
    simp only [Bool.and_eq_true, beq_iff_eq] at hcond
    simp only [Option.some.injEq, Prod.mk.injEq] at h
    obtain ⟨rfl, rfl, rfl, rfl⟩ := h
    have hr : r = b.r := hck.1
    subst hr
    obtain ⟨h1, h2⟩ := ix hc hb hcond.1 hcond.2
    refine ⟨?_, hcond.1, hcond.2, fun a' ha => hc.ok.2 n b hb a' (List.mem_of_mem_drop (List.mem_of_mem_take ha))⟩
    exact Src.ofSlice w ht2 ⟨b.r, off, none⟩ len cap _ (by rw [List.length_map]; exact hcond.1) h1 h2
   ·simp at h
  ·simp at h
 ·rename_i va vc
  simp only [Option.some.injEq, Prod.mk.injEq] at h
  obtain ⟨rfl, rfl, rfl, rfl⟩ := h
  refine ⟨?_, by simp, rfl, by simp⟩
  cases va with
  | none => exact Src.ofNil w ht2 vc
  | some ad => exact Src.ofSlice w ht2 ad 0 vc [] (by simp) (by simp) (by simp)
 ·rename_i va vc
  simp only [Option.some.injEq, Prod.mk.injEq] at h
  obtain ⟨rfl, rfl, rfl, rfl⟩ := h
  refine ⟨?_, by simp, rfl, by simp⟩
  cases va with
  | none => exact Src.ofNil w ht2 vc
  | some ad => exact Src.ofSlice w ht2 ad 0 vc [] (by simp) (by simp) (by simp)
 ·simp at h
theorem dz {F : Own} {x : CS} {H : Heap} {O : Own} {a : Act} {w : World} (hc : Conc F x.s H O a w) {t2 : TypeId} {size : Nat} {ya : At} {news : List At} {m : Nat} {ck : List Ck} {rd : List Nat}
  (h : nc P x size t2 ya = some (news, m, ck, rd)) (hck : AllCk ck) : Src P size t2 ya.den m (news.map At.den) w ∧ news.length = m * size ∧ news.all lE = true ∧ ∀ a ∈ news, a.ok := by
 unfold nc at h
 split at h
 ·rename_i e' ht; exact iI hc ht h hck
 ·rename_i ht
  split at h
  ·rename_i s hl
   split at h
   ·rename_i hs1
    subst hs1
    simp only [Option.some.injEq, Prod.mk.injEq] at h
    obtain ⟨rfl, rfl, rfl, rfl⟩ := h
    rw [cJ hl]
    have e : ((byteCells s).map At.k).map At.den = byteCells s := by simp [Function.comp_def, At.den]
    refine ⟨by rw [e]; exact Src.ofString w ht s, by rw [List.length_map, byteCells_length, Nat.mul_one], ?_, ?_⟩
    ·rw [List.all_eq_true]
     intro a ha
     obtain ⟨v, hv, rfl⟩ := List.mem_map.1 ha
     obtain ⟨u, _, rfl⟩ := List.mem_map.1 hv
     rfl
    ·intro a ha
     obtain ⟨v, hv, rfl⟩ := List.mem_map.1 ha
     trivial
   ·simp at h
  ·simp at h
 ·simp at h
theorem dA {t tx ty e : TypeId} {i : TypeInfo} (ht : P.underlying t = some (.slice e)) (hi : P.info? e = some i) {w : World} {r off len cap : Nat} {vs : List Value} {T : TypeId} (hr : w.heap[r]? = some (.cells vs.toArray T (0, 0)))
  {x : Value} {m : Nat} {news : List Value} (hs : Src P i.size tx x m news w) (hroom : len + m ≤ cap) (hfit : off + (len + m) * i.size ≤ vs.length) :
  (Builtin.append_ #[t, tx] ty #[.slice (some ⟨r, off, none⟩) len cap, x]).run P w =
   .ok (.slice (some ⟨r, off, none⟩) (len + m) cap) (w.setRow r (vs.take (off + len * i.size) ++ news ++ vs.drop (off + len * i.size + news.length)).toArray) := by
 have hn := hs.newsLen
 have hst := run_storeCells_at P r (off + len * i.size) T news 0 vs.toArray w hr (by simp [hn]; rw [Nat.add_mul] at hfit; omega) hs.one
 simp only [Nat.add_zero] at hst
 rcases hs.kind with ⟨e', hk⟩ | hk <;> simp [Builtin.append_, run_underlying ht, run_underlying hk, sizeOf, typeInfo, hi, hs.len, hroom, hs.cells, Addr.add_lit, hst]
theorem g1 {t tx ty e : TypeId} {i : TypeInfo} (ht : P.underlying t = some (.slice e)) (hi : P.info? e = some i) {w : World} {base : Option Addr} {len cap : Nat} {x : Value} {news : List Value} (hs : Src P i.size tx x 0 news w) (hle : len ≤ cap) :
  (Builtin.append_ #[t, tx] ty #[.slice base len cap, x]).run P w = .ok (.slice base len cap) w := by
 have hn : news = [] := List.eq_nil_of_length_eq_zero (by rw [hs.newsLen, Nat.zero_mul])
 subst hn
 rcases hs.kind with ⟨e', hk⟩ | hk <;> cases base <;> simp [Builtin.append_, run_underlying ht, run_underlying hk, sizeOf, typeInfo, hi, hs.len, hle, hs.cells, storeCells]
theorem gI {t e : TypeId} {size : Nat} (h : gJ P t e size = true) : P.underlying t = some (.slice e) ∧ ∃ i z, P.info? e = some i ∧ i.size = size ∧ i.zero = some z ∧ z.cells.size = size ∧ 0 < size ∧ ec P e = i.bytes := by
 unfold gJ at h
 split at h
 ·rename_i e' i hu hi
  simp only [Bool.and_eq_true, beq_iff_eq, decide_eq_true_eq] at h
  obtain ⟨⟨⟨rfl, hsz⟩, hz⟩, h0⟩ := h
  cases hzz : i.zero with
  | none => rw [hzz] at hz; simp at hz
  | some z =>
   rw [hzz] at hz
   simp only [Option.map_some, Option.getD_some, beq_iff_eq] at hz
   exact ⟨hu, i, z, hi, hsz, hzz, hz, h0, by simp [ec, hi]⟩
 ·cases h
theorem eJ {l : List At} {vs : List Value} {c size : Nat} {zs : List Value} (h : CellsRel l vs) (hz : zs.length = c * size) : CellsRel (kF l c size) (vs ++ zs) := by
 refine h.append ?_
 rw [← hz]
 clear hz
 induction zs with
 | nil => simp [CellsRel]
 | cons z r ih => exact ⟨fun h => by simp [At.known] at h, ih⟩
end
noncomputable section
variable {P : Program}
theorem dH {hi : Nat} {F : Own} {x : CS} {H : Heap} {O L1 : Own} {a : Act} {w w' : World} {dst : Option Tmp} {e : TypeId} {size need r c : Nat} {known : List At} {vs : List Value} {old : List (Nat × Option Bx)}
  (hc : Conc F x.s H O a w) (hd : ∀ d, dst = some d → d < x.s.sz) (hM : eH x.h.ms O) (hold : ∀ p ∈ old, p.2 = none) (hf : ∀ n, x.s.next ≤ n → x.s.mem n = none) (hn : hi ≤ x.s.next)
  (hB : Boxes (mH old x.s.mem) L1) (hm : Models w' H ((r, .cells vs.toArray e (0, 0)) :: (L1 ++ (O ++ F)))) (hv : CellsRel (kF known c size) vs) (hk : ∀ a ∈ known, a.ok) :
  CC hi F (x.app dst ⟨some (.s (.at (.sl x.s.next r 0 need (c + need)))), (x.s.next, some ⟨r, e, kF known c size⟩) :: old, some (x.s.next + 1, { x.h with gr := (x.s.next, known.length, c) :: x.h.gr })⟩) H
   (a.put dst (.slice (some ⟨r, 0, none⟩) need (c + need))) w' := by
 have hmem : ∀ n, (x.app dst ⟨some (.s (.at (.sl x.s.next r 0 need (c + need)))), (x.s.next, some ⟨r, e, kF known c size⟩) :: old, some (x.s.next + 1, { x.h with gr := (x.s.next, known.length, c) :: x.h.gr })⟩).s.mem n =
   if n = x.s.next then some ⟨r, e, kF known c size⟩ else mH old x.s.mem n := by
  intro n
  rw [CS.app_mem]
  simp only [aH]
  by_cases e : n = x.s.next
  ·simp [e]
  ·simp only [e, if_false]; rw [ff]
 have hnone : ∀ n, x.s.next ≤ n → mH old x.s.mem n = none := by
  intro n hn
  rw [ff]
  cases hl : aH old n with
  | none => exact hf n hn
  | some b => exact hold _ (dW hl)
 have hbx : Boxes (x.app dst ⟨some (.s (.at (.sl x.s.next r 0 need (c + need)))), (x.s.next, some ⟨r, e, kF known c size⟩) :: old, some (x.s.next + 1, { x.h with gr := (x.s.next, known.length, c) :: x.h.gr })⟩).s.mem ((r, .cells vs.toArray e (0, 0)) :: L1) := by
  have := hB.put (n := x.s.next) (b := ⟨r, e, kF known c size⟩) (hnone _ (Nat.le_refl _)) hv
  refine (congrArg (fun m => Boxes m _) (funext fun n => ?_)).mpr this
  exact hmem n
 refine cT (sv := .s (.at (.sl x.s.next r 0 need (c + need)))) (h' := { x.h with gr := (x.s.next, known.length, c) :: x.h.gr }) (nx := x.s.next + 1) hc hd rfl (aW trivial) (.inr rfl) rfl ?_ hbx hM (by simpa using hm) ?_ (by omega)
 ·intro n b hb a ha
  rw [hmem] at hb
  split at hb
  ·simp only [Option.some.injEq] at hb
   subst hb
   simp only [kF, List.mem_append] at ha
   rcases ha with ha | ha
   ·exact hk a ha
   ·have := List.eq_of_mem_replicate ha
    subst this; trivial
  ·rw [ff] at hb
   split at hb
   ·rename_i b' hl
    have := hold _ (dW hl)
    simp only at this
    rw [this] at hb; cases hb
   ·exact hc.ok.2 n b hb a ha
 ·intro n hn
  rw [hmem, if_neg (by omega)]
  exact hnone n (by omega)
theorem eT {ops : Array Oper} {o : Oper} {c : Call} {b : Builtin} {a : Act} {w w' : World} {v : Value} {vs : List Value} (hop : o.op = .call c) (hcal : c.callee = .builtin b) (hb : b ≠ .print) (hb' : b ≠ .println)
  (ha : (c.args.map a.eval).toList = vs) (h : (builtin b c.argTypes o.type #[] vs.toArray).run P w = .ok (.value v) w') : (execOp a.eval o).run P w = .ok (.value v) w' := by
 rw [a2 hop hcal hb hb']
 have : c.args.map a.eval = vs.toArray := by apply Array.ext'; simpa using ha
 rw [this, h]
theorem it {cs : List At} {vs : List Value} (h : CellsRel cs vs) {off m : Nat} (hk : ((cs.drop off).take m).all lE = true) : (vs.drop off).take m = ((cs.drop off).take m).map At.den :=
 CellsRel.known ((h.drop off).take m) (dI hk).1
theorem ii {t tx ty e : TypeId} {i : TypeInfo} {z : Value} {size : Nat} (ht : P.underlying t = some (.slice e)) (hi : P.info? e = some i) (hz : i.zero = some z) (hsz : i.size = size) (hzs : z.cells.size = size) (hby : ec P e = i.bytes) {w : World}
  {base : Option Addr} {len cap m : Nat} {olds news : List Value} {x : Value} (hold : (Builtin.firstCells i.size len (.slice base len cap)).run P w.drew = .ok olds.toArray w.drew) (holdl : olds.length = len * size) (hs : Src P size tx x m news w)
  (hg : cap < len + m) (hb : (len + m) * ec P e ≤ 140737488355328) (h63 : len + m < 2 ^ 63) :
  ∃ zs cc, zs.length = cc * size ∧ (Builtin.append_ #[t, tx] ty #[.slice base len cap, x]).run P w = .ok (.slice (some ⟨w.heap.size, 0, none⟩) (len + m) (cc + (len + m))) (w.drew.alloc (.cells (olds ++ news ++ zs).toArray e)) := by
 subst hsz
 have hge := grownCap_ge w (len + m) cap e
 refine ⟨(Builtin.zeroCells z.cells (grownCap w (len + m) cap e - (len + m))).toList, grownCap w (len + m) cap e - (len + m), ?_, ?_⟩
 ·rw [Array.length_toList, size_zeroCells, hzs]
 ·rw [run_append_grow_src (P := P) w t tx ty e i z ht hi hz base len cap olds hold x m news hs hg (by omega) (growslice_fits hg (by rw [← hby]; exact hb))]
  have e1 : grownCap w (len + m) cap e - (len + m) + (len + m) = grownCap w (len + m) cap e := by omega
  rw [e1]
  congr 3
  apply Array.ext'
  simp
theorem dZ {cs ys : List At} {off : Nat} {a : At} (h : a ∈ aZ cs off ys) : a ∈ cs ∨ a ∈ ys := by
 simp only [aZ, List.mem_append] at h
 rcases h with (h | h) | h
 ·exact .inl (List.mem_of_mem_take h)
 ·exact .inr h
 ·exact .inl (List.mem_of_mem_drop h)
theorem iC {ops : Array Oper} {o : Oper} {x : CS} {c : Call} {e : Ef} (hop : o.op = .call c) (hcal : c.callee = .builtin .append) (hg : af (am ops) x.s o = .go []) (hd : ∀ d, o.dst = some d → d < x.s.sz)
  (he : iD P x c.argTypes c.args.toList = some e) {hi : Nat} {F : Own} {H : Heap} {a : Act} {w : World} {K : CS → Prop} {Q : Exit → Act → World → Prop} (hC : CC hi F x H a w) (hr : e.run hi o.dst x K) :
  wp1 P ops Q o (fun a' w' => ∃ x', CC hi F x' H a' w' ∧ K x') a w := by
 obtain ⟨⟨O, hM, hc⟩, hf, hn⟩ := hC
 unfold iD at he
 split at he
 ·rename_i t t2 sa ya cs hts hops
  split at he
  ·rename_i el hu
   simp only [Option.bind_eq_some_iff] at he
   obtain ⟨size, hsize, he⟩ := he
   split at he
   ·cases he
   ·rename_i happ
    simp only [Bool.not_eq_true, Bool.not_eq_false', Bool.not_eq_eq_eq_not, Bool.not_true] at happ
    have happ : gJ P t el size = true := by simpa using happ
    simp only [Option.bind_eq_some_iff] at he
    obtain ⟨⟨news, m, ck, rd⟩, hsrc, he⟩ := he
    simp only [] at he
    split at he
    ·rename_i hfit
     obtain ⟨_, i, z, hinf, hsz, hzz, hzs, h0, hby⟩ := gI happ
     have hts' : c.argTypes = #[t, t2] := by apply Array.ext'; simpa using hts
     have main : ∀ (v : Value) (w' : World), AllCk cs → (Builtin.append_ #[t, t2] o.type #[sa.den, ya.den]).run P w = .ok v w' → (∃ x', CC hi F x' H (a.put o.dst v) w' ∧ K x') → wp1 P ops Q o (fun a' w' => ∃ x', CC hi F x' H a' w' ∧ K x') a w := by
      intro v w' hcs hrun hk
      refine bw hc hg (w' := w') (v := v) (eT (ops := ops) hop hcal (by simp) (by simp) (vs := [sa.den, ya.den]) ?_ ?_) hk
      ·have := aB hc hops hcs trivial
       simpa using this
      ·rw [hts']
       simp only [builtin, Sem.run_bind]
       rw [hrun]; rfl
     unfold bS at he
     split at he
     ·
      rename_i hm0
      subst hm0
      split at he
      ·rename_i len cap hlc
       split at he
       ·rename_i hle
        simp only [Option.some.injEq] at he
        subst he
        obtain ⟨hcs, _, hk⟩ := hr
        rw [AllCk.append] at hcs
        obtain ⟨hS, hnl, _, _⟩ := dz hc hsrc hcs.1
        have hden : ∃ base, sa.den = .slice base len cap := by
         unfold oc at hlc
         split at hlc
         ·simp only [Option.some.injEq, Prod.mk.injEq] at hlc; obtain ⟨rfl, rfl⟩ := hlc; exact ⟨_, rfl⟩
         ·simp only [Option.some.injEq, Prod.mk.injEq] at hlc; obtain ⟨rfl, rfl⟩ := hlc; exact ⟨_, rfl⟩
         ·simp only [Option.some.injEq, Prod.mk.injEq] at hlc; obtain ⟨rfl, rfl⟩ := hlc; exact ⟨_, rfl⟩
         ·cases hlc
        obtain ⟨base, hden⟩ := hden
        have hn0 : news = [] := List.eq_nil_of_length_eq_zero (by rw [hnl, Nat.zero_mul])
        subst hn0
        have hone : sa.ok := eK hc.ok hops sa (by simp)
        refine main sa.den w hcs.2 ?_ ⟨_, ?_, hk⟩
        ·rw [hden]
         exact g1 hu hinf (by rw [hsz]; exact hS) hle
        ·exact d6 (dst := o.dst) (v := sa.den) (sv := .s (.at sa)) hM hc hd (bF rfl) (aW hone) hf hn
       ·cases he
      ·cases he
     ·rename_i hm0
      have hsa : sa.ok := eK hc.ok hops sa (by simp)
      split at he
      ·rename_i n r off len cap
       simp only [] at he
       split at he
       ·cases he
       ·rename_i hlim
        simp only [Bool.or_eq_true, decide_eq_true_eq, not_or, Nat.not_lt, Nat.not_le, gt_iff_lt, ge_iff_le] at hlim
        obtain ⟨hbytes, h63⟩ := hlim
        split at he
        ·cases he
        ·rename_i b hb
         split at he
         ·cases he
         ·rename_i hrows
          simp only [Bool.or_eq_true, bne_iff_ne, ne_eq, Bool.not_eq_true', not_or, Decidable.not_not, Bool.not_eq_false] at hrows
          obtain ⟨hrl, hrk⟩ := hrows
          obtain ⟨L, hB, hmo⟩ := hc.mm
          obtain ⟨vs, L', hv, hp, hB'⟩ := hB.take hb
          have hmo' : Models w H ((b.r, .cells vs.toArray b.T (0, 0)) :: (L' ++ (O ++ F))) := hmo.perm (by simpa using hp.append_right (O ++ F))
          have hrow : w.heap[b.r]? = some (.cells vs.toArray b.T (0, 0)) := (hmo'.own (b.r, .cells vs.toArray b.T (0, 0)) (by simp)).1
          have hbok := hc.ok.2 n b hb
          obtain ⟨holdc, _⟩ := ix hc hb hrl hrk
          have hrowok : ∀ a' ∈ (b.cs.drop off).take (len * size), a'.ok := fun a' ha => hbok a' (List.mem_of_mem_drop (List.mem_of_mem_take ha))
          have hOld : (Builtin.firstCells i.size len (.slice (some ⟨b.r, off, none⟩) len cap)).run P w.drew = .ok (((b.cs.drop off).take (len * size)).map At.den).toArray w.drew :=
           run_firstCells_some w.drew i.size len _ len cap _ (by rw [List.length_map, hrl, hsz]) holdc
          have inP : ∀ (hcs : AllCk (.eqN r b.r :: (ck ++ cs))), (b.cs.take (off + (len + m) * size)).length = off + (len + m) * size → len + m ≤ cap →
            (okU hi e ⟨some (.s (.at (.sl n r off (len + m) cap))), [(n, some { b with cs := aZ b.cs (off + len * size) news })], some (x.s.next, x.h)⟩ = true → True) →
            K (x.app o.dst ⟨some (.s (.at (.sl n r off (len + m) cap))), [(n, some { b with cs := aZ b.cs (off + len * size) news })], some (x.s.next, x.h)⟩) → n < hi ∨ n < x.s.next →
            wp1 P ops Q o (fun a' w' => ∃ x', CC hi F x' H a' w' ∧ K x') a w := by
           intro hcs hlen hcap _ hk hnlt
           obtain ⟨hrb, hcs⟩ := hcs
           have hrb : r = b.r := hrb
           subst hrb
           rw [AllCk.append] at hcs
           obtain ⟨hS, hnl, hnk, hno⟩ := dz hc hsrc hcs.1
           have hfit2 : off + (len + m) * size ≤ vs.length := by
            rw [← hv.length]
            rw [List.length_take] at hlen
            omega
           have hrun := dA (ty := o.type) hu hinf hrow (off := off) (len := len) (cap := cap) (by rw [hsz]; exact hS) hcap (by rw [hsz]; exact hfit2)
           refine main _ _ hcs.2 hrun ⟨_, ?_, hk⟩
           have hm2 := cZ (vs' := vs.take (off + len * i.size) ++ news.map At.den ++ vs.drop (off + len * i.size + (news.map At.den).length)) hmo'
           have hv2 : CellsRel (aZ b.cs (off + len * size) news) (vs.take (off + len * i.size) ++ news.map At.den ++ vs.drop (off + len * i.size + (news.map At.den).length)) := by
            rw [hsz, List.length_map]; exact hv.fill _ _
           have hB2 := hB'.put (n := n) (b := { b with cs := aZ b.cs (off + len * size) news }) (by simp) hv2
           rw [iy] at hB2
           have hmem : ∀ k, (x.app o.dst ⟨some (.s (.at (.sl n b.r off (len + m) cap))), [(n, some { b with cs := aZ b.cs (off + len * size) news })], some (x.s.next, x.h)⟩).s.mem k = if k = n then some { b with cs := aZ b.cs (off + len * size) news } else x.s.mem k := by
            intro k
            rw [CS.app_mem]
            by_cases e : k = n <;> simp [aH, e]
           refine cT (sv := .s (.at (.sl n b.r off (len + m) cap))) (u := ⟨some (.s (.at (.sl n b.r off (len + m) cap))), [(n, some { b with cs := aZ b.cs (off + len * size) news })], some (x.s.next, x.h)⟩)
            (L' := (b.r, .cells (vs.take (off + len * i.size) ++ news.map At.den ++ vs.drop (off + len * i.size + (news.map At.den).length)).toArray b.T (0, 0)) :: L') hc hd rfl (aW trivial) (.inr rfl) rfl ?_ ?_ hM (by simpa using hm2) ?_ hn
           ·intro k b' hb' a' ha'
            rw [hmem] at hb'
            split at hb'
            ·simp only [Option.some.injEq] at hb'
             subst hb'
             rcases dZ ha' with h | h
             ·exact hbok a' h
             ·exact hno a' h
            ·exact hc.ok.2 k b' hb' a' ha'
           ·refine (congrArg (fun m => Boxes m _) (funext fun k => ?_)).mpr hB2
            exact hmem k
           ·intro k hk'
            rw [hmem]
            have hnn : n < x.s.next := by
             rcases Nat.lt_or_ge n x.s.next with h | h
             ·exact h
             ·have := hf n h; rw [hb] at this; cases this
            rw [if_neg (by omega)]
            exact hf k hk'
          have hnn : n < x.s.next := by
           rcases Nat.lt_or_ge n x.s.next with h | h
           ·exact h
           ·have := hf n h; rw [hb] at this; cases this
          split at he
          ·rename_i hgr
           split at he
           ·rename_i hcap
            split at he
            ·rename_i hlen
             simp only [beq_iff_eq] at hlen
             simp only [Option.some.injEq] at he
             subst he
             obtain ⟨hcs, _, hk⟩ := hr
             exact inP hcs hlen hcap (fun _ => trivial) hk (.inr hnn)
            ·cases he
           ·
            rename_i hcap
            simp only [Option.some.injEq] at he
            subst he
            obtain ⟨⟨hrb, hcs⟩, hr⟩ := hr
            have hrb : r = b.r := hrb
            subst hrb
            rw [AllCk.append] at hcs
            obtain ⟨hS, hnl, hnk, hno⟩ := dz hc hsrc hcs.1
            obtain ⟨zs, cc, hzl, hrun⟩ := ii (ty := o.type) hu hinf hzz hsz hzs hby hOld (by rw [List.length_map, hrl]) hS (by omega) hbytes h63
            obtain ⟨_, hk⟩ := hr w.heap.size cc
            refine main _ _ hcs.2 hrun ⟨_, ?_, hk⟩
            refine dH (old := []) (L1 := L) (vs := ((b.cs.drop off).take (len * size)).map At.den ++ news.map At.den ++ zs) hc hd hM (by simp) hf hn hB ?_ ?_ ?_
            ·exact cG hmo _ _
            ·rw [← List.map_append]
             exact eJ (CellsRel.map _) hzl
            ·intro a' ha'
             rcases List.mem_append.1 ha' with h | h
             ·exact hrowok a' h
             ·exact hno a' h
          ·rename_i k c0 hgr
           split at he
           ·split at he
            ·rename_i hcap
             split at he
             ·rename_i hlen
              simp only [beq_iff_eq] at hlen
              simp only [Option.some.injEq] at he
              subst he
              obtain ⟨hcs, _, hk⟩ := hr
              exact inP hcs hlen hcap (fun _ => trivial) hk (.inr hnn)
             ·cases he
            ·cases he
           ·split at he
            ·rename_i hoff
             obtain ⟨hoff, hT⟩ := hoff
             subst hoff
             simp only [Option.some.injEq] at he
             subst he
             obtain ⟨⟨hcapeq, hrb, hcs⟩, hcells, hr⟩ := hr
             have hrb : r = b.r := hrb
             have hcapeq : cap = c0 + len := hcapeq
             subst hrb
             rw [AllCk.append] at hcs
             obtain ⟨hS, hnl, hnk, hno⟩ := dz hc hsrc hcs.1
             have hvl : vs.length = len * size + c0 * size := by
              rw [← hv.length, hcells, kF, List.length_append, List.length_replicate, hrl]
             have hvt : vs.take (len * size) = ((b.cs.drop 0).take (len * size)).map At.den := by
              have := it hv hrk
              simpa using this
             have hmemN : mH [(n, none)] x.s.mem = fun k => if k = n then none else x.s.mem k := by
              funext k
              rw [ff]
              by_cases e : k = n <;> simp [aH, e]
             have hBN : Boxes (mH [(n, none)] x.s.mem) L' := by rw [hmemN]; exact hB'
             have hoks : ∀ a' ∈ (b.cs.drop 0).take (len * size) ++ news, a'.ok := by
              intro a' ha'
              rcases List.mem_append.1 ha' with h | h
              ·exact hrowok a' h
              ·exact hno a' h
             by_cases hroom : len + m ≤ cap
             ·have hmul : (len + m) * size ≤ vs.length := by
               rw [hvl, ← Nat.add_mul]
               exact Nat.mul_le_mul_right _ (by omega)
              have hrun := dA (ty := o.type) hu hinf hrow (off := 0) (len := len) (cap := cap) (by rw [hsz]; exact hS) hroom (by rw [hsz]; omega)
              have hm2 := cZ (vs' := vs.take (0 + len * i.size) ++ news.map At.den ++ vs.drop (0 + len * i.size + (news.map At.den).length)) hmo'
              obtain ⟨_, hk⟩ := hr b.r (c0 - m)
              have ecap : c0 - m + (len + m) = cap := by omega
              rw [ecap] at hk
              refine main _ _ hcs.2 hrun ⟨_, ?_, hk⟩
              rw [hT] at hm2
              have := dH (need := len + m) (c := c0 - m) (e := el) (known := (b.cs.drop 0).take (len * size) ++ news) (size := size) (old := [(n, none)]) (dst := o.dst) hc hd hM (by simp) hf hn hBN hm2 ?_ hoks
              ·rw [ecap] at this
               exact this
              ·rw [hsz, Nat.zero_add, hvt, List.length_map, ← List.map_append]
               refine eJ (CellsRel.map _) ?_
               rw [List.length_drop, hvl, hnl, Nat.sub_mul]
               omega
             ·obtain ⟨zs, cc, hzl, hrun⟩ := ii (ty := o.type) hu hinf hzz hsz hzs hby hOld (by rw [List.length_map, hrl]) hS (by omega) hbytes h63
              obtain ⟨_, hk⟩ := hr w.heap.size cc
              refine main _ _ hcs.2 hrun ⟨_, ?_, hk⟩
              refine dH (old := [(n, none)]) (L1 := L') (vs := ((b.cs.drop 0).take (len * size)).map At.den ++ news.map At.den ++ zs) hc hd hM (by simp) hf hn hBN ?_ ?_ hoks
              ·have := cG hmo' (((b.cs.drop 0).take (len * size)).map At.den ++ news.map At.den ++ zs).toArray el
               exact this.sub (List.Sublist.cons_cons _ (List.sublist_cons_self _ _))
              ·rw [← List.map_append]
               exact eJ (CellsRel.map _) hzl
            ·cases he
      ·rename_i hnsl
       split at he
       ·rename_i hemp
        split at he
        ·cases he
        ·rename_i hlim
         simp only [Bool.or_eq_true, decide_eq_true_eq, not_or, Nat.not_lt, Nat.not_le, gt_iff_lt, ge_iff_le] at hlim
         obtain ⟨hbytes, h63⟩ := hlim
         simp only [Option.some.injEq] at he
         subst he
         obtain ⟨hcs, hr⟩ := hr
         rw [AllCk.append] at hcs
         obtain ⟨hS, hnl, hnk, hno⟩ := dz hc hsrc hcs.1
         have hden : ∃ base, sa.den = .slice base 0 0 := by
          unfold d4 at hemp
          split at hemp
          ·exact ⟨_, rfl⟩
          ·exact ⟨_, rfl⟩
          ·cases hemp
         obtain ⟨base, hden⟩ := hden
         obtain ⟨L, hB, hmo⟩ := hc.mm
         have hOld : (Builtin.firstCells i.size 0 (.slice base 0 0)).run P w.drew = .ok ([] : List Value).toArray w.drew := by
          cases base with
          | none => exact run_firstCells_none w.drew i.size 0 0 0
          | some ad => exact run_firstCells_some w.drew i.size 0 ad 0 0 [] (by simp) (by simp)
         obtain ⟨zs, cc, hzl, hrun⟩ := ii (ty := o.type) (len := 0) (olds := []) hu hinf hzz hsz hzs hby hOld (by simp) hS (by omega) (by rw [Nat.zero_add]; exact hbytes) (by omega)
         obtain ⟨_, hk⟩ := hr w.heap.size cc
         rw [Nat.zero_add] at hrun
         refine main _ _ hcs.2 (by rw [hden]; exact hrun) ⟨_, ?_, hk⟩
         refine dH (old := []) (L1 := L) (vs := news.map At.den ++ zs) hc hd hM (by simp) hf hn hB ?_ ?_ hno
         ·exact cG hmo _ _
         ·exact eJ (CellsRel.map _) hzl
       ·cases he
    ·cases he
  ·cases he
 ·cases he
end
noncomputable section
variable {P : Program}
theorem eR {hi : Nat} {F : Own} {x : CS} {H : Heap} {O : Own} {a : Act} {w : World} {dst : Option Tmp} {v : Value} {sv : SV} (hM : eH x.h.ms O)
  (hc : Conc F x.s H O a w) (hd : ∀ d, dst = some d → d < x.s.sz) (hrel : sv.rel v) (hsok : sv.ok) (hf : ∀ n, x.s.next ≤ n → x.s.mem n = none) (hn : hi ≤ x.s.next) :
  CC hi F (x.app dst ⟨some (a3 sv), [], none⟩) H (a.put dst v) w := by
 have h := d6 (dst := dst) hM hc hd hrel hsok hf hn
 exact h
theorem mN {hi : Nat} {F : Own} {x : CS} {H : Heap} {O L' : Own} {a : Act} {w w' : World} {dst : Option Tmp} {v : Value} {sv : SV} {val : Option SV} {n : Nat} {b : Bx} {cs : List At} {vs' : List Value} (hM : eH x.h.ms O)
  (hc : Conc F x.s H O a w) (hd : ∀ d, dst = some d → d < x.s.sz) (hrel : sv.rel v) (hsok : sv.ok) (hval : dst = none ∨ val = some (a3 sv)) (hf : ∀ n, x.s.next ≤ n → x.s.mem n = none) (hn : hi ≤ x.s.next)
  (hb : x.s.mem n = some b) (hB : Boxes (fun k => if k = n then none else x.s.mem k) L') (hm : Models w' H ((b.r, .cells vs'.toArray b.T (0, 0)) :: (L' ++ (O ++ F)))) (hv : CellsRel cs vs') (hok : ∀ a ∈ cs, a.ok) :
  CC hi F (x.app dst ⟨val, [(n, some { b with cs := cs })], none⟩) H (a.put dst v) w' := by
 have hB2 := hB.put (n := n) (b := { b with cs := cs }) (by simp) hv
 rw [iy] at hB2
 have hmem : ∀ k, (x.app dst ⟨val, [(n, some { b with cs := cs })], none⟩).s.mem k = if k = n then some { b with cs := cs } else x.s.mem k := by
  intro k
  rw [CS.app_mem]
  by_cases e : k = n <;> simp [aH, e]
 have hx : x.app dst ⟨val, [(n, some { b with cs := cs })], none⟩ = x.app dst ⟨val, [(n, some { b with cs := cs })], some (x.s.next, x.h)⟩ := rfl
 rw [hx]
 have hnn : n < x.s.next := by
  rcases Nat.lt_or_ge n x.s.next with h | h
  ·exact h
  ·have := hf n h; rw [hb] at this; cases this
 refine cT (sv := sv) (L' := (b.r, .cells vs'.toArray b.T (0, 0)) :: L') hc hd hrel hsok hval rfl ?_ ?_ hM (by simpa using hm) ?_ hn
 ·intro k b' hb' a' ha'
  have hb'' := hmem k
  rw [hx] at hb''
  rw [hb''] at hb'
  split at hb'
  ·simp only [Option.some.injEq] at hb'
   subst hb'
   exact hok a' ha'
  ·exact hc.ok.2 k b' hb' a' ha'
 ·refine (congrArg (fun m => Boxes m _) (funext fun k => ?_)).mpr hB2
  exact hmem k
 ·intro k hk'
  have hb'' := hmem k
  rw [hx] at hb''
  rw [hb'', if_neg (by omega)]
  exact hf k hk'
theorem js {t t2 ty e : TypeId} {i : TypeInfo} (ht : P.underlying t = some (.slice e)) (hi : P.info? e = some i) {w : World} {r off dLen dCap : Nat} {vs : List Value} {T : TypeId} (hr : w.heap[r]? = some (.cells vs.toArray T (0, 0)))
  {x : Value} {k m : Nat} {cs : List Value} (hl : ∀ w' : World, (Builtin.lenOf x).run P w' = .ok m w') (hk : k = min m dLen) (hcells : (Builtin.firstCells i.size k x).run P w = .ok cs.toArray w) (hfit : off + cs.length ≤ vs.length) (h1 : ∀ v ∈ cs, v.oneCell' = true) :
  (Builtin.copy_ #[t, t2] ty #[.slice (some ⟨r, off, none⟩) dLen dCap, x]).run P w = .ok (goInt k) (w.setRow r (vs.take off ++ cs ++ vs.drop (off + cs.length)).toArray) := by
 have hst := run_storeCells_at P r off T cs 0 vs.toArray w hr (by simpa using hfit) h1
 simp only [Nat.add_zero] at hst
 have hk' : m.min dLen = k := hk.symm
 simp [Builtin.copy_, run_underlying ht, sizeOf, typeInfo, hi, hl, hk', hcells, hst]
theorem gZ {t t2 ty e : TypeId} {i : TypeInfo} (ht : P.underlying t = some (.slice e)) (hi : P.info? e = some i) {w : World} {base : Option Addr} {dCap : Nat}
  {x : Value} {m : Nat} (hl : ∀ w' : World, (Builtin.lenOf x).run P w' = .ok m w') (hcells : (Builtin.firstCells i.size 0 x).run P w = .ok #[] w) :
  (Builtin.copy_ #[t, t2] ty #[.slice base 0 dCap, x]).run P w = .ok (goInt 0) w := by
 cases base <;> simp [Builtin.copy_, run_underlying ht, sizeOf, typeInfo, hi, hl, hcells, storeCells]
theorem eX {F : Own} {x : CS} {H : Heap} {O : Own} {a : Act} {w : World} (hc : Conc F x.s H O a w) {size : Nat} {ya : At} {news : List At} {m : Nat} {ck : List Ck} {rd : List Nat}
  (h : eY x size ya = some (news, m, ck, rd)) (hck : AllCk ck) {k : Nat} (hk : k ≤ m) : (∀ w' : World, (Builtin.lenOf ya.den).run P w' = .ok m w') ∧ (Builtin.firstCells size k ya.den).run P w = .ok ((news.take (k * size)).map At.den).toArray w := by
 unfold eY at h
 split at h
 ·rename_i n r off len cap
  split at h
  ·rename_i b hb
   simp only [] at h
   split at h
   ·rename_i hcond
    simp only [Bool.and_eq_true, beq_iff_eq] at hcond
    simp only [Option.some.injEq, Prod.mk.injEq] at h
    obtain ⟨rfl, rfl, rfl, rfl⟩ := h
    have hr : r = b.r := hck.1
    subst hr
    obtain ⟨h1, h2⟩ := ix hc hb hcond.1 hcond.2
    refine ⟨fun _ => rfl, run_firstCells_some w size k _ len cap _ ?_ ?_⟩
    ·rw [List.length_map, List.length_take, hcond.1]
     exact Nat.min_eq_left (Nat.mul_le_mul_right _ hk)
    ·intro j v hj
     refine h1 j v ?_
     rw [List.map_take, List.getElem?_take] at hj
     split at hj
     ·exact hj
     ·cases hj
   ·simp at h
  ·simp at h
 ·rename_i va vc
  simp only [Option.some.injEq, Prod.mk.injEq] at h
  obtain ⟨rfl, rfl, rfl, rfl⟩ := h
  have : k = 0 := Nat.le_zero.1 hk
  subst this
  refine ⟨fun _ => rfl, ?_⟩
  cases va with
  | none => simpa [At.den] using run_firstCells_none (P := P) w size 0 0 vc
  | some ad => simpa [At.den] using run_firstCells_some (P := P) w size 0 ad 0 vc [] (by simp) (by simp)
 ·rename_i va vc
  simp only [Option.some.injEq, Prod.mk.injEq] at h
  obtain ⟨rfl, rfl, rfl, rfl⟩ := h
  have : k = 0 := Nat.le_zero.1 hk
  subst this
  refine ⟨fun _ => rfl, ?_⟩
  cases va with
  | none => simpa [At.den] using run_firstCells_none (P := P) w size 0 0 vc
  | some ad => simpa [At.den] using run_firstCells_some (P := P) w size 0 ad 0 vc [] (by simp) (by simp)
 ·simp at h
theorem fO {sa : At} (h : d4 sa = true) : ∃ base, sa.den = .slice base 0 0 := by
 unfold d4 at h
 split at h
 ·exact ⟨_, rfl⟩
 ·exact ⟨_, rfl⟩
 ·cases h
theorem jH {ops : Array Oper} {o : Oper} {x : CS} {c : Call} {e : Ef} (hop : o.op = .call c) (hcal : c.callee = .builtin .copy) (hg : af (am ops) x.s o = .go []) (hd : ∀ d, o.dst = some d → d < x.s.sz)
  (he : my P x c.argTypes c.args.toList = some e) {hi : Nat} {F : Own} {H : Heap} {a : Act} {w : World} {K : CS → Prop} {Q : Exit → Act → World → Prop} (hC : CC hi F x H a w) (hr : e.run hi o.dst x K) :
  wp1 P ops Q o (fun a' w' => ∃ x', CC hi F x' H a' w' ∧ K x') a w := by
 obtain ⟨⟨O, hM, hc⟩, hf, hn⟩ := hC
 unfold my at he
 split at he
 ·rename_i t t2 da ya cs hts hops
  split at he
  ·rename_i el hu
   simp only [Option.bind_eq_some_iff] at he
   obtain ⟨size, hsize, he⟩ := he
   split at he
   ·cases he
   ·rename_i happ
    simp only [Bool.or_eq_true, not_or, bne_iff_ne, ne_eq, Decidable.not_not, Bool.not_eq_true'] at happ
    obtain ⟨htt, happ⟩ := happ
    have happ : gJ P t el size = true := by simpa using happ
    subst htt
    simp only [Option.bind_eq_some_iff] at he
    obtain ⟨⟨news, m, ck, rd⟩, hsrc, he⟩ := he
    simp only [] at he
    obtain ⟨_, i, z, hinf, hsz, hzz, hzs, h0, hby⟩ := gI happ
    have hts' : c.argTypes = #[t, t] := by apply Array.ext'; simpa using hts
    have main : ∀ (v : Value) (w' : World), AllCk cs → (Builtin.copy_ #[t, t] o.type #[da.den, ya.den]).run P w = .ok v w' → (∃ x', CC hi F x' H (a.put o.dst v) w' ∧ K x') → wp1 P ops Q o (fun a' w' => ∃ x', CC hi F x' H a' w' ∧ K x') a w := by
     intro v w' hcs hrun hk
     refine bw hc hg (w' := w') (v := v) (eT (ops := ops) hop hcal (by simp) (by simp) (vs := [da.den, ya.den]) ?_ ?_) hk
     ·have := aB hc hops hcs trivial
      simpa using this
     ·rw [hts']
      simp only [builtin, Sem.run_bind]
      rw [hrun]; rfl
    split at he
    ·rename_i n r off len cap
     split at he
     ·cases he
     ·rename_i b hb
      split at he
      ·cases he
      ·rename_i hold
       simp only [bne_iff_ne, ne_eq, Decidable.not_not] at hold
       simp only [Option.some.injEq] at he
       subst he
       obtain ⟨⟨hrb, hcs⟩, _, hk⟩ := hr
       have hrb : r = b.r := hrb
       subst hrb
       have hcs := AllCk.append.1 hcs
       obtain ⟨hS, hnl, hnk, hno⟩ := iI hc hu hsrc hcs.1
       obtain ⟨hl1, hl2⟩ := eX (P := P) hc hsrc hcs.1 (k := min m len) (Nat.min_le_left _ _)
       obtain ⟨L, hB, hmo⟩ := hc.mm
       obtain ⟨vs, L', hv, hp, hB'⟩ := hB.take hb
       have hmo' : Models w H ((b.r, .cells vs.toArray b.T (0, 0)) :: (L' ++ (O ++ F))) := hmo.perm (by simpa using hp.append_right (O ++ F))
       have hrow : w.heap[b.r]? = some (.cells vs.toArray b.T (0, 0)) := (hmo'.own (b.r, .cells vs.toArray b.T (0, 0)) (by simp)).1
       have hll : ((news.take (min m len * size)).map At.den).length = min m len * size := by
        rw [List.length_map, List.length_take, hnl]
        exact Nat.min_eq_left (Nat.mul_le_mul_right _ (Nat.min_le_left _ _))
       have hfit : off + min m len * size ≤ vs.length ∨ min m len * size = 0 := by
        rw [← hv.length]
        rw [List.length_take, List.length_drop] at hold
        omega
       have hrun : (Builtin.copy_ #[t, t] o.type #[.slice (some ⟨b.r, off, none⟩) len cap, ya.den]).run P w = .ok (goInt ((min m len : Nat) : Int)) (w.setRow b.r (vs.take off ++ (news.take (min m len * size)).map At.den ++ vs.drop (off + ((news.take (min m len * size)).map At.den).length)).toArray) := by
        rcases hfit with hfit | h00
        ·exact js (t := t) (t2 := t) hu hinf hrow hl1 rfl (by rw [hsz]; exact hl2) (by rw [hll]; exact hfit) (by
          intro v hv'
          obtain ⟨a', ha', rfl⟩ := List.mem_map.1 hv'
          have ha2 := List.mem_of_mem_take ha'
          exact At.fit_one ((dI hnk).2 a' ha2) (hno a' ha2))
        ·have hm0 : min m len = 0 := (Nat.mul_eq_zero.1 h00).resolve_right (by omega)
         have hem : ((news.take (min m len * size)).map At.den) = [] := by rw [hm0]; simp
         rw [hem]
         simp only [List.append_nil, List.length_nil, Nat.add_zero, List.take_append_drop]
         rw [setRow_self w b.r vs.toArray b.T (0, 0) hrow]
         have hcl := hl2
         rw [hem, hm0] at hcl
         rw [hm0]
         have hk' : m.min len = 0 := hm0
         simp [Builtin.copy_, run_underlying hu, sizeOf, typeInfo, hinf, hl1, hk', hsz, hcl, storeCells]
       refine main _ _ hcs.2 hrun ⟨_, ?_, hk⟩
       have hm2 := cZ (vs' := vs.take off ++ (news.take (min m len * size)).map At.den ++ vs.drop (off + ((news.take (min m len * size)).map At.den).length)) hmo'
       refine mN (sv := .s (.at (.k (goInt ((min m len : Nat) : Int))))) (vs' := vs.take off ++ (news.take (min m len * size)).map At.den ++ vs.drop (off + ((news.take (min m len * size)).map At.den).length)) hM hc hd rfl (ga _) (.inr rfl) hf hn hb hB' hm2 ?_ ?_
       ·rw [List.length_map]; exact hv.fill _ _
       ·intro a' ha'
        rcases dZ ha' with h | h
        ·exact hc.ok.2 n b hb a' h
        ·exact hno a' (List.mem_of_mem_take h)
    ·split at he
     ·rename_i hemp
      simp only [Option.some.injEq] at he
      subst he
      obtain ⟨hcs, _, hk⟩ := hr
      rw [AllCk.append] at hcs
      obtain ⟨hl1, hl2⟩ := eX (P := P) hc hsrc hcs.1 (k := 0) (Nat.zero_le _)
      obtain ⟨base, hden⟩ := fO hemp
      refine main (goInt 0) w hcs.2 ?_ ⟨_, ?_, hk⟩
      ·rw [hden]
       exact gZ hu hinf hl1 (by rw [hsz, hl2]; simp)
      ·exact eR (sv := .s (.at (.k (goInt 0)))) hM hc hd rfl (ga _) hf hn
     ·cases he
  ·cases he
 ·cases he
theorem iM {t ty e : TypeId} {z : Value} (ht : P.underlying t = some (.slice e)) (hz : ∀ w, (zeroValue e).run P w = .ok z w) {w : World} {r off n cap : Nat} {vs : List Value} {T : TypeId} (hr : w.heap[r]? = some (.cells vs.toArray T (0, 0)))
  (hfit : off + n * z.cells.size ≤ vs.length) (h1 : ∀ v ∈ (Builtin.zeroCells z.cells n).toList, v.oneCell' = true) :
  (Builtin.clear_ #[t] ty #[.slice (some ⟨r, off, none⟩) n cap]).run P w = .ok (.tuple #[]) (w.setRow r (vs.take off ++ (Builtin.zeroCells z.cells n).toList ++ vs.drop (off + (Builtin.zeroCells z.cells n).toList.length)).toArray) := by
 cases n with
 | zero =>
  have e0 : (Builtin.zeroCells z.cells 0).toList = [] := by simp [Builtin.zeroCells]
  rw [e0]
  simp only [List.append_nil, List.length_nil, Nat.add_zero, List.take_append_drop]
  rw [setRow_self w r vs.toArray T (0, 0) hr]
  simp [Builtin.clear_, run_underlying ht]
 | succ n =>
  have hst := run_storeCells_at P r off T (Builtin.zeroCells z.cells (n + 1)).toList 0 vs.toArray w hr (by simpa [size_zeroCells] using hfit) h1
  simp only [Nat.add_zero] at hst
  simp [Builtin.clear_, run_underlying ht, hz, hst]
theorem jf {ops : Array Oper} {o : Oper} {x : CS} {c : Call} {e : Ef} (hop : o.op = .call c) (hcal : c.callee = .builtin .clear) (hg : af (am ops) x.s o = .go []) (hdst : o.dst = none)
  (he : j5 P x c.argTypes c.args.toList = some e) {hi : Nat} {F : Own} {H : Heap} {a : Act} {w : World} {K : CS → Prop} {Q : Exit → Act → World → Prop} (hC : CC hi F x H a w) (hr : e.run hi o.dst x K) :
  wp1 P ops Q o (fun a' w' => ∃ x', CC hi F x' H a' w' ∧ K x') a w := by
 obtain ⟨⟨O, hM, hc⟩, hf, hn⟩ := hC
 unfold j5 at he
 split at he
 ·rename_i t sa cs hts hops
  split at he
  ·rename_i el hu
   simp only [Option.bind_eq_some_iff] at he
   obtain ⟨size, hsize, z, hz, he⟩ := he
   split at he
   ·cases he
   ·rename_i hcond
    simp only [Bool.or_eq_true, not_or, bne_iff_ne, ne_eq, Decidable.not_not, beq_iff_eq, Bool.not_eq_true', Bool.not_eq_false] at hcond
    obtain ⟨⟨hzl, hs0⟩, hzf⟩ := hcond
    obtain ⟨zv, hzr, hzc, hzk, hzo⟩ := bW hz
    have hts' : c.argTypes = #[t] := by apply Array.ext'; simpa using hts
    have main : ∀ (w' : World), AllCk cs → (Builtin.clear_ #[t] o.type #[sa.den]).run P w = .ok (.tuple #[]) w' → (∃ x', CC hi F x' H (a.put o.dst (.tuple #[])) w' ∧ K x') → wp1 P ops Q o (fun a' w' => ∃ x', CC hi F x' H a' w' ∧ K x') a w := by
     intro w' hcs hrun hk
     refine bw hc hg (w' := w') (v := .tuple #[]) (eT (ops := ops) hop hcal (by simp) (by simp) (vs := [sa.den]) ?_ ?_) hk
     ·have := aB hc hops hcs trivial
      simpa using this
     ·rw [hts']
      simp only [builtin, Sem.run_bind]
      rw [hrun]; rfl
    rw [hdst] at hr main
    split at he
    ·rename_i n r off len cap
     split at he
     ·cases he
     ·rename_i b hb
      split at he
      ·rename_i hfit
       simp only [Option.some.injEq] at he
       subst he
       obtain ⟨⟨hrb, hcs⟩, _, hk⟩ := hr
       have hrb : r = b.r := hrb
       subst hrb
       obtain ⟨L, hB, hmo⟩ := hc.mm
       obtain ⟨vs, L', hv, hp, hB'⟩ := hB.take hb
       have hmo' : Models w H ((b.r, .cells vs.toArray b.T (0, 0)) :: (L' ++ (O ++ F))) := hmo.perm (by simpa using hp.append_right (O ++ F))
       have hrow : w.heap[b.r]? = some (.cells vs.toArray b.T (0, 0)) := (hmo'.own (b.r, .cells vs.toArray b.T (0, 0)) (by simp)).1
       have hzc' : zv.cells = (z.map At.den).toArray := by rw [← hzc]
       have hzz : (Builtin.zeroCells zv.cells len).toList = (au z len).map At.den := by
        have := bz (z.map At.den) (by rw [List.length_map, hzl]; exact hs0) len
        rw [bO, ← this]
        simp only [Builtin.zeroCells, hzc', List.size_toArray]
       have hzz2 : zv.cells.size = size := by rw [hzc']; simp [hzl]
       have hrl : (au z len).length = len * size := by
        have := congrArg List.length hzz
        rw [Array.length_toList, size_zeroCells, hzz2, List.length_map] at this
        exact this.symm
       have hrun := iM (ty := o.type) (cap := cap) (n := len) (off := off) hu hzr hrow (by rw [hzz2, ← hv.length]; exact hfit) (by
        rw [hzz]
        intro v hv'
        obtain ⟨a', ha', rfl⟩ := List.mem_map.1 hv'
        have ha2 := bn ha'
        exact At.fit_one ((dI hzf).2 a' ha2) (hzo a' ha2))
       rw [hzz] at hrun
       refine main _ hcs hrun ⟨_, ?_, hk⟩
       have hm2 := cZ (vs' := vs.take off ++ (au z len).map At.den ++ vs.drop (off + ((au z len).map At.den).length)) hmo'
       refine mN (dst := none) (sv := .s (.at (.k (.tuple #[])))) (v := .tuple #[]) (vs' := vs.take off ++ (au z len).map At.den ++ vs.drop (off + ((au z len).map At.den).length)) hM hc (by simp) rfl (ga _) (.inl rfl) hf hn hb hB' hm2 ?_ ?_
       ·rw [List.length_map]; exact hv.fill _ _
       ·intro a' ha'
        rcases dZ ha' with h | h
        ·exact hc.ok.2 n b hb a' h
        ·exact hzo a' (bn h)
      ·cases he
    ·split at he
     ·rename_i hemp
      simp only [Option.some.injEq] at he
      subst he
      obtain ⟨hcs, _, hk⟩ := hr
      obtain ⟨base, hden⟩ := fO hemp
      refine main w hcs ?_ ⟨_, ?_, hk⟩
      ·rw [hden]
       cases base <;> simp [Builtin.clear_, run_underlying hu]
      ·exact eR (dst := none) (v := .tuple #[]) (sv := .s (.at (.k (.tuple #[])))) hM hc (by simp) rfl (ga _) hf hn
     ·cases he
  ·cases he
 ·cases he
end
noncomputable section
variable {P : Program}
theorem bc : ∀ {ms : List (Nat × MB)} {O : Own} {n : Nat} {b : MB}, eH ms O → cz ms n = some b →
  ∃ p O1 O2, O = O1 ++ p :: O2 ∧ b.is p ∧ ∀ b' p', b'.is p' → eH (iJ ms n b') (O1 ++ p' :: O2)
 | [], O, n, b, _, h => by simp [cz] at h
 | (k, m) :: r, O, n, b, hM, h => by
  obtain ⟨p, O', rfl, hp, hr⟩ := hM
  simp only [cz] at h
  split at h
  ·rename_i e
   simp only [Option.some.injEq] at h
   subst h
   refine ⟨p, [], O', rfl, hp, fun b' p' hb' => ?_⟩
   simp only [iJ, e, if_true]
   exact ⟨p', O', rfl, hb', hr⟩
  ·rename_i e
   obtain ⟨q, O1, O2, rfl, hq, hs⟩ := bc hr h
   refine ⟨q, p :: O1, O2, rfl, hq, fun b' p' hb' => ?_⟩
   simp only [iJ, e, if_false]
   exact ⟨p, O1 ++ p' :: O2, rfl, hp, hs b' p' hb'⟩
theorem MB.omap {b : MB} {p : Nat × Obj} (h : b.is p) (hs : b.sm = none) : OMap b.kd (.map (some b.r)) b.m [p] := by
 obtain ⟨es, clock, rfl, he⟩ := h
 refine ⟨b.r, es, clock, rfl, rfl, ?_⟩
 simpa only [MB.rows, hs] using he
theorem MB.is_int {b : MB} {p : Nat × Obj} (hs : b.sm = none) (h : ∃ es clock, p = (b.r, .map es clock) ∧ es.toList.map (fun e => (e.key, e.val)) = b.m.map fun p => ((.int b.kd p.1 : Value), p.2)) : b.is p := by
 obtain ⟨es, clock, rfl, he⟩ := h
 exact ⟨es, clock, rfl, by simpa only [MB.rows, hs] using he⟩
theorem e6 {v : Value} {a : S1} (h : nl v = some a) : a.den = v ∧ a.ok := by
 unfold nl at h
 split at h
 ·rename_i h1
  simp only [Option.some.injEq] at h
  subst h
  exact ⟨rfl, aW h1⟩
 ·split at h
  ·rename_i l
   split at h
   ·rename_i hall
    simp only [Option.some.injEq] at h
    subst h
    refine ⟨?_, fun a ha => ?_⟩
    ·simp only [S1.den, List.map_map, Function.comp_def, At.den, List.map_id']
    ·simp only [S1.cells, List.mem_map] at ha
     obtain ⟨u, hu, rfl⟩ := ha
     exact List.all_eq_true.1 hall u hu
   ·cases h
  ·cases h
theorem fH {t : TypeId} (h : gy P t = true) : ∃ kt et, P.underlying t = some (.map kt et) ∧ P.underlying kt = some .string := by
 unfold gy at h
 split at h
 ·rename_i kt et hu
  split at h
  ·rename_i hk; exact ⟨kt, et, hu, hk⟩
  ·cases h
 ·cases h
theorem lL (a b : List UInt8) : ((⟨a.toArray⟩ : ByteArray) == ⟨b.toArray⟩) = (a == b) := by
 show (a.toArray == b.toArray) = _
 rw [Bool.eq_iff_iff, beq_iff_eq, beq_iff_eq]
 exact ⟨fun h => by simpa using congrArg Array.toList h, fun h => by rw [h]⟩
theorem cM {x : List UInt8} : ∀ {es : List MapEntry} {m : nM} {i : Nat}, es.map (fun e => (e.key, e.val)) = m.map (fun p => ((.string ⟨p.1.toArray⟩ : Value), p.2)) →
  (Instr.findNow .string (.string ⟨x.toArray⟩) es i = some none ∧ dU m x = none) ∨ ∃ j v, Instr.findNow .string (.string ⟨x.toArray⟩) es i = some (some (i + j, v)) ∧ dU m x = some v
 | [], [], i, _ => .inl ⟨rfl, rfl⟩
 | [], _ :: _, _, h => by simp at h
 | _ :: _, [], _, h => by simp at h
 | e :: es, p :: m, i, h => by
  simp only [List.map_cons, List.cons.injEq, Prod.mk.injEq] at h
  obtain ⟨⟨h1, h2⟩, h3⟩ := h
  have hs : Instr.sameNow .string (.string ⟨x.toArray⟩) e.key = some (x == p.1) := by
   rw [h1]
   show some ((⟨x.toArray⟩ : ByteArray) == ⟨p.1.toArray⟩) = _
   rw [lL]
  simp only [Instr.findNow, hs]
  by_cases hx : x = p.1
  ·right
   refine ⟨0, p.2, ?_, ?_⟩
   ·simp [hx, h2]
   ·simp [dU, hx]
  ·have hb : (x == p.1) = false := by simpa using hx
   rw [hb]
   rcases cM (i := i + 1) h3 with ⟨a, b⟩ | ⟨j, v, a, b⟩
   ·left
    refine ⟨by simpa using a, ?_⟩
    simp only [dU, List.find?_cons, hb]; exact b
   ·right
    refine ⟨j + 1, v, ?_, ?_⟩
    ·simp only; rw [a]; congr 3; omega
    ·simp only [dU, List.find?_cons, hb]; exact b
theorem dM {kt : TypeId} (hk : P.underlying kt = some .string) (em : Bool) (v : Value) (w : World) : (Instr.checkKey em 10000 kt v).run P w = .ok () w := by
 show (Instr.checkKey em (9999 + 1) kt v).run P w = _
 unfold Instr.checkKey
 rw [Sem.run_bind, ab hk]
 rfl
theorem jq {t kt et : TypeId} (ht : P.underlying t = some (.map kt et)) (hk : P.underlying kt = some .string) {z : Value} (hz : ∀ w, (zeroValue et).run P w = .ok z w)
  {r : Nat} {es : Array MapEntry} {clock : Nat} {m : nM} (he : es.toList.map (fun e => (e.key, e.val)) = m.map (fun p => ((.string ⟨p.1.toArray⟩ : Value), p.2))) {w : World} (hrow : w.heap[r]? = some (.map es clock)) (x : List UInt8) :
  ((PrimOp.lookup t true).sem [.map (some r), .string ⟨x.toArray⟩]).run P w = .ok (.value (.tuple #[(dU m x).getD z, .bool (dU m x).isSome])) w := by
 have hg : (getObj r).run P w = .ok (.map es clock) w := by simp [getObj, Sem.run, hrow]
 simp only [PrimOp.sem, Instr.lookup, Sem.run_bind, ab ht, Result.andThen_ok, hg, Sem.run_pure, dM hk, Instr.findKey, ab hk]
 rcases cM (x := x) (i := 0) he with ⟨a, b⟩ | ⟨j, u, a, b⟩
 ·rw [a, b]
  simp only [Sem.run_pure, Result.andThen_ok, hz, Option.getD_none, Option.isSome_none, Sem.run_bind]
  rfl
 ·rw [a, b]
  simp only [Sem.run_pure, Result.andThen_ok, Option.getD_some, Option.isSome_some, Sem.run_bind]
  rfl
theorem f6 {t kt et : TypeId} (ht : P.underlying t = some (.map kt et)) (hk : P.underlying kt = some .string) {r : Nat} {es : Array MapEntry} {clock : Nat} {m : nM}
  (he : es.toList.map (fun e => (e.key, e.val)) = m.map (fun p => ((.string ⟨p.1.toArray⟩ : Value), p.2))) (H : Heap) (x : List UInt8) (u : Value) (hx : dU m x = none) (w : World) (F : Own) (hm : Models w H ([(r, .map es clock)] ++ F)) :
  ∃ w' es' clock', (Instr.mapUpdate t (.map (some r)) (.string ⟨x.toArray⟩) u).run P w = .ok () w' ∧ es'.toList.map (fun e => (e.key, e.val)) = (m ++ [(x, u)]).map (fun p => ((.string ⟨p.1.toArray⟩ : Value), p.2)) ∧ Models w' H ([(r, .map es' clock')] ++ F) := by
 have hrow := (hm.own (r, .map es clock) (by simp)).1
 have hlt : r < w.heap.size := (Array.getElem?_eq_some_iff.1 hrow).1
 have hg : (getObj r).run P w = .ok (.map es clock) w := by simp [getObj, Sem.run, hrow]
 have hset : ∀ o, (setObj r o).run P w = .ok () { w with heap := w.heap.setIfInBounds r o } := fun o => by
  simp only [setObj, Sem.run, hrow]
 rcases cM (x := x) (i := 0) he with ⟨a, _⟩ | ⟨j, u', _, b⟩
 case inr => rw [hx] at b; cases b
 have hm0 : Models w H ((r, .map es clock) :: F) := by simpa using hm
 refine ⟨{ w with heap := w.heap.setIfInBounds r (.map (es.push { key := .string ⟨x.toArray⟩, val := u, born := clock }) (clock + 1)) }, es.push { key := .string ⟨x.toArray⟩, val := u, born := clock }, clock + 1, ?_, ?_, ?_⟩
 ·simp only [Instr.mapUpdate, Sem.run_bind, ab ht, Result.andThen_ok, hg, dM hk, Instr.findKey, ab hk]
  rw [a]
  simp only [Sem.run_pure, Result.andThen_ok, hset, Sem.run_bind]
 ·simp [he]
 ·exact hm0.update (fun b hb => by simp [Ne.symm hb]) (by simp [hlt]) rfl
theorem eo {t et : TypeId} {k : IntKind} (h : cK P t = some (et, some k)) : ∃ kt, P.underlying t = some (.map kt et) ∧ P.underlying kt = some (.int k) := by
 unfold cK at h
 split at h
 ·rename_i kt et' hu
  simp only [Option.some.injEq, Prod.mk.injEq] at h
  obtain ⟨rfl, h⟩ := h
  split at h
  ·rename_i k' hk
   simp only [Option.some.injEq] at h
   subst h
   exact ⟨kt, hu, hk⟩
  ·cases h
 ·cases h
theorem dR {t : TypeId} {v : Value} (h : lG P t = some v) : ∀ w, (zeroValue t).run P w = .ok v w := by
 unfold lG at h
 simp only [Option.bind_eq_some_iff] at h
 obtain ⟨i, hi, hz⟩ := h
 intro w
 simp [zeroValue, typeInfo, hi, hz]
theorem gh {ops : Array Oper} {o : Oper} {x : CS} {t : TypeId} {e : Ef} (hop : o.op = .makeMap t none) (hg : af (am ops) x.s o = .go []) (hd : ∀ d, o.dst = some d → d < x.s.sz)
  (he : eL P x t = some e) {hi : Nat} {F : Own} {H : Heap} {a : Act} {w : World} {K : CS → Prop} {Q : Exit → Act → World → Prop} (hC : CC hi F x H a w) (hr : e.run hi o.dst x K) :
  wp1 P ops Q o (fun a' w' => ∃ x', CC hi F x' H a' w' ∧ K x') a w := by
 obtain ⟨⟨O, hM, hc⟩, hf, hn⟩ := hC
 unfold eL at he
 simp only [Option.bind_eq_some_iff] at he
 obtain ⟨⟨et, k⟩, hk, he⟩ := he
 simp only [Option.some.injEq] at he
 subst he
 obtain ⟨_, hr⟩ := hr
 obtain ⟨_, hk⟩ := hr w.heap.size
 have hrun : (execOp a.eval o).run P w = .ok (.value (.map (some w.heap.size))) { w with heap := w.heap.push (.map #[] 0) } := by
  simp only [execOp, hop, Instr.makeMap, Sem.run_bind, Sem.run_pure, Result.andThen_ok, run_newObj, Option.map_none]
 refine bw hc hg hrun ⟨_, ?_, hk⟩
 obtain ⟨L, hB, hmo⟩ := hc.mm
 refine cT (sv := .s (.at (.mp x.s.next w.heap.size))) (L' := L) (O' := (w.heap.size, .map #[] 0) :: O) (h' := { x.h with ms := (x.s.next, ⟨w.heap.size, k.getD .i64, [], if gy P t then some [] else none⟩) :: x.h.ms }) (nx := x.s.next + 1) hc hd rfl (aW trivial) (.inr rfl) rfl hc.ok.2 hB ?_ ?_ ?_ (by omega)
 ·refine ⟨_, O, rfl, ⟨#[], 0, rfl, ?_⟩, hM⟩
  simp only [MB.rows]
  split
  ·rfl
  ·rename_i l hl
   split at hl
   ·simp only [Option.some.injEq] at hl; subst hl; rfl
   ·cases hl
 ·exact (hmo.push (.map #[] 0)).perm (List.perm_middle.symm)
 ·intro n h; exact hf n (by omega)
theorem jy {ops : Array Oper} {o : Oper} {x : CS} {c : Call} {e : Ef} (hop : o.op = .call c) (hcal : c.callee = .builtin .len) (hg : af (am ops) x.s o = .go []) (hd : ∀ d, o.dst = some d → d < x.s.sz)
  (he : mc P x c.argTypes c.args.toList = some e) {hi : Nat} {F : Own} {H : Heap} {a : Act} {w : World} {K : CS → Prop} {Q : Exit → Act → World → Prop} (hC : CC hi F x H a w) (hr : e.run hi o.dst x K) :
  wp1 P ops Q o (fun a' w' => ∃ x', CC hi F x' H a' w' ∧ K x') a w := by
 obtain ⟨⟨O, hM, hc⟩, hf, hn⟩ := hC
 unfold mc at he
 split at he
 ·rename_i t n r cs hts hops
  split at he
  ·rename_i kt et b hu hb
   simp only [Option.some.injEq] at he
   subst he
   obtain ⟨⟨hrb, hcs⟩, _, hk⟩ := hr
   have hrb : r = b.r := hrb
   subst hrb
   obtain ⟨p, O1, O2, rfl, hp, _⟩ := bc hM hb
   obtain ⟨es, clock, rfl, hes⟩ := hp
   obtain ⟨L, hB, hmo⟩ := hc.mm
   have hrow := (hmo.own (b.r, .map es clock) (by simp)).1
   have hts' : c.argTypes = #[t] := by apply Array.ext'; simpa using hts
   have hg' : (getObj b.r).run P w = .ok (.map es clock) w := by simp [getObj, Sem.run, hrow]
   have hlen : es.size = b.rows.length := by
    have := congrArg List.length hes
    simpa using this
   refine bw hc hg (v := goInt b.rows.length) (w' := w) (eT (ops := ops) hop hcal (by simp) (by simp) (vs := [(At.mp n b.r).den]) ?_ ?_) ⟨_, ?_, hk⟩
   ·have := aB hc hops hcs trivial
    simpa using this
   ·rw [hts']
    simp only [builtin, Sem.run_bind]
    have : (Builtin.len_ #[t] o.type #[(At.mp n b.r).den]).run P w = .ok (goInt b.rows.length) w := by
     simp only [Builtin.len_, At.den]
     simp [run_underlying hu, hg', hlen]
    rw [this]; rfl
   ·exact d6 (sv := .s (.at (.k (goInt b.rows.length)))) hM hc hd rfl (ga _) hf hn
  ·cases he
 ·cases he
theorem gi {ops : Array Oper} {o : Oper} {x : CS} {t : TypeId} {m k : Operand} {ok : Bool} {e : Ef} (hop : o.op = .lookup t m k ok) (hg : af (am ops) x.s o = .go []) (hd : ∀ d, o.dst = some d → d < x.s.sz)
  (he : eM P x t m k ok = some e) {hi : Nat} {F : Own} {H : Heap} {a : Act} {w : World} {K : CS → Prop} {Q : Exit → Act → World → Prop} (hC : CC hi F x H a w) (hr : e.run hi o.dst x K) :
  wp1 P ops Q o (fun a' w' => ∃ x', CC hi F x' H a' w' ∧ K x') a w := by
 obtain ⟨⟨O, hM, hc⟩, hf, hn⟩ := hC
 unfold eM at he
 simp only [Option.bind_eq_some_iff] at he
 obtain ⟨⟨et, kk⟩, hkk, z, hz, he⟩ := he
 simp only at he
 split at he
 ·rename_i n r cm ka ck hm hk
  split at he
  ·rename_i kd i b hlit hb
   split at he
   ·rename_i hcond
    obtain ⟨hkd, hsm, hkk'⟩ := hcond
    subst hkd
    cases kk with
    | none => cases hkk'
    | some kd0 =>
    obtain ⟨kt, hu, hkt⟩ := eo hkk
    simp only [Option.bind_eq_some_iff, Option.some.injEq] at he
    obtain ⟨av, hav, rfl⟩ := he
    obtain ⟨hden, hokv⟩ := e6 hav
    obtain ⟨⟨hrb, hcs⟩, _, hK⟩ := hr
    have hrb : r = b.r := hrb
    subst hrb
    have hcs := AllCk.append.1 hcs
    obtain ⟨p, O1, O2, rfl, hp, _⟩ := bc hM hb
    obtain ⟨L, hB, hmo⟩ := hc.mm
    have em : a.eval m = .map (some b.r) := ah hc hm hcs.1 trivial
    have ek : a.eval k = .int b.kd i := (ah hc hk hcs.2 trivial).trans (cJ hlit)
    have hl := f8 hu hkt (dR hz) (MB.omap hp hsm) (O := L ++ (O1 ++ p :: O2)) (by simp) (H := H) (w := w) (F := F) (by simpa using hmo) i ok
    have hrun : (execOp a.eval o).run P w = .ok (.value (if ok then .tuple #[(dV b.m i).getD z, .bool (dV b.m i).isSome] else (dV b.m i).getD z)) w := by
     rw [← hl]
     simp only [execOp, hop, PrimOp.sem, em, ek]
    refine bw hc hg hrun ⟨_, ?_, hK⟩
    refine d6 hM hc hd ?_ ?_ hf hn
    ·cases ok with
     | true =>
      show _ = Value.tuple #[av.den, _]
      rw [hden]; rfl
     | false => exact bF hden.symm
    ·cases ok with
     | true =>
      intro y hy
      simp only [if_true, List.mem_cons, List.not_mem_nil, or_false] at hy
      rcases hy with rfl | rfl
      ·exact hokv
      ·exact ga _
     | false => exact hokv
   ·cases he
  ·rename_i y b hlit hb
   split at he
   ·rename_i l hsm
    split at he
    ·rename_i hcond
     simp only [Bool.and_eq_true] at hcond
     obtain ⟨hstr, rfl⟩ := hcond
     obtain ⟨kt, et', hu, hkt⟩ := fH hstr
     have het : et' = et := by
      unfold cK at hkk
      rw [hu] at hkk
      simp only [Option.some.injEq, Prod.mk.injEq] at hkk
      exact hkk.1
     subst het
     simp only [Option.bind_eq_some_iff, Option.some.injEq] at he
     obtain ⟨av, hav, rfl⟩ := he
     obtain ⟨hden, hokv⟩ := e6 hav
     obtain ⟨⟨hrb, hcs⟩, _, hK⟩ := hr
     have hrb : r = b.r := hrb
     subst hrb
     have hcs := AllCk.append.1 hcs
     obtain ⟨p, O1, O2, rfl, ⟨es, clock, rfl, hes⟩, _⟩ := bc hM hb
     obtain ⟨L, hB, hmo⟩ := hc.mm
     have em : a.eval m = .map (some b.r) := ah hc hm hcs.1 trivial
     have ek : a.eval k = .string ⟨y.data.toList.toArray⟩ := (ah hc hk hcs.2 trivial).trans ((cJ hlit).trans (by simp))
     have hrow := (hmo.own (b.r, .map es clock) (by simp)).1
     have hl := jq hu hkt (dR hz) (by simpa only [MB.rows, hsm] using hes) hrow y.data.toList
     have hrun : (execOp a.eval o).run P w = .ok (.value (.tuple #[(dU l y.data.toList).getD z, .bool (dU l y.data.toList).isSome])) w := by
      rw [← hl]
      simp only [execOp, hop, PrimOp.sem, em, ek]
     refine bw hc hg hrun ⟨_, ?_, hK⟩
     refine d6 hM hc hd ?_ ?_ hf hn
     ·show _ = Value.tuple #[av.den, _]
      rw [hden]; rfl
     ·intro y hy
      simp only [List.mem_cons, List.not_mem_nil, or_false] at hy
      rcases hy with rfl | rfl
      ·exact hokv
      ·exact ga _
    ·cases he
   ·cases he
  ·cases he
 ·cases he
theorem fF : ∀ {l : List At} {vs : List Value}, ng l = some vs → l.map At.den = vs
 | [], _, h => by simp only [ng, Option.some.injEq] at h; subst h; rfl
 | a :: r, _, h => by
  simp only [ng, Option.bind_eq_some_iff, Option.map_eq_some_iff] at h
  obtain ⟨v, hv, vs, hvs, rfl⟩ := h
  rw [List.map_cons, fF hvs, cJ hv]
theorem ew {t : TypeId} {v : Value} (h : io P t v = true) : ∃ kt et d, P.underlying t = some (.map kt et) ∧ P.underlying kt = some d ∧ ∀ em w, (Instr.checkKey em 10000 kt v).run P w = .ok () w := by
 unfold io at h
 split at h
 ·rename_i kt et hu
  simp only [Bool.and_eq_true, Option.isSome_iff_exists] at h
  obtain ⟨⟨h1, h2⟩, la, h3⟩ := h
  obtain ⟨d, hd⟩ : ∃ d, P.underlying kt = some d := by
   cases hd : P.underlying kt with
   | some d => exact ⟨d, rfl⟩
   | none => simp [Program.keyTypeAt, hd] at h1
  exact ⟨kt, et, d, hu, hd, fun em w => run_checkKey_deep em 9995 5 kt h1 w 10 v la h2 h3⟩
 ·cases h
theorem iV : ∀ {ms : List (Nat × MB)} {O : Own} {n : Nat} {b : MB}, eH ms O → cz ms n = some b →
  ∃ p O1 O2, O = O1 ++ p :: O2 ∧ b.is p ∧ eH (kr ms n) (O1 ++ O2)
 | [], O, n, b, _, h => by simp [cz] at h
 | (k, m) :: r, O, n, b, hM, h => by
  obtain ⟨p, O', rfl, hp, hr⟩ := hM
  simp only [cz] at h
  split at h
  ·rename_i e
   simp only [Option.some.injEq] at h
   subst h
   refine ⟨p, [], O', rfl, hp, ?_⟩
   simp only [kr, e, if_true]
   exact hr
  ·rename_i e
   obtain ⟨q, O1, O2, rfl, hq, hs⟩ := iV hr h
   refine ⟨q, p :: O1, O2, rfl, hq, ?_⟩
   simp only [kr, e, if_false]
   exact ⟨p, O1 ++ O2, rfl, hp, hs⟩
theorem iN {b : MB} {es : Array MapEntry} (h : b.rows.isEmpty = true) (he : es.toList.map (fun e => (e.key, e.val)) = b.rows) : es = #[] := by
 have h1 : b.rows = [] := List.isEmpty_iff.1 h
 rw [h1, List.map_eq_nil_iff] at he
 exact Array.ext' he
theorem ia {ops : Array Oper} {o : Oper} {x : CS} {t : TypeId} {m k : Operand} {ok : Bool} {e : Ef} (hop : o.op = .lookup t m k ok) (hg : af (am ops) x.s o = .go []) (hd : ∀ d, o.dst = some d → d < x.s.sz)
  (he : ib P x t m k ok = some e) {hi : Nat} {F : Own} {H : Heap} {a : Act} {w : World} {K : CS → Prop} {Q : Exit → Act → World → Prop} (hC : CC hi F x H a w) (hr : e.run hi o.dst x K) :
  wp1 P ops Q o (fun a' w' => ∃ x', CC hi F x' H a' w' ∧ K x') a w := by
 obtain ⟨⟨O, hM, hc⟩, hf, hn⟩ := hC
 unfold ib at he
 simp only [Option.bind_eq_some_iff] at he
 obtain ⟨⟨et, kk⟩, hkk, z, hz, he⟩ := he
 split at he
 ·rename_i n r cm ka ck hm hk
  simp only [Option.bind_eq_some_iff] at he
  obtain ⟨vs, hvs, b, hb, he⟩ := he
  split at he
  ·rename_i hcond
   simp only [Bool.and_eq_true, Bool.not_eq_true'] at hcond
   obtain ⟨⟨hrows, rfl⟩, hdk⟩ := hcond
   simp only [Option.bind_eq_some_iff, Option.some.injEq] at he
   obtain ⟨av, hav, rfl⟩ := he
   obtain ⟨hden, hokv⟩ := e6 hav
   obtain ⟨⟨hrb, hcs⟩, _, hK⟩ := hr
   have hrb : r = b.r := hrb
   subst hrb
   have hcs := AllCk.append.1 hcs
   obtain ⟨kt, et', d, hu, hkt, hck⟩ := ew hdk
   have het : et' = et := by
    unfold cK at hkk
    rw [hu] at hkk
    simp only [Option.some.injEq, Prod.mk.injEq] at hkk
    exact hkk.1
   subst het
   obtain ⟨p, O1, O2, rfl, ⟨es, clock, rfl, hes⟩, _⟩ := bc hM hb
   obtain ⟨L, hB, hmo⟩ := hc.mm
   obtain rfl := iN hrows hes
   have em : a.eval m = .map (some b.r) := ah hc hm hcs.1 trivial
   have ek : a.eval k = .agg vs.toArray := (aJ hc hk hcs.2 trivial).trans (by simp only [S1.den, fF hvs])
   have hrow := (hmo.own (b.r, .map #[] clock) (by simp)).1
   have hgo : (getObj b.r).run P w = .ok (.map #[] clock) w := by simp [getObj, Sem.run, hrow]
   have hrun : (execOp a.eval o).run P w = .ok (.value z) w := by
    simp only [execOp, hop, em, ek, Instr.lookup, Sem.run_bind, ab hu, Result.andThen_ok, hgo, Sem.run_pure, hck, Instr.findKey, ab hkt, Instr.findNow, dR hz]
    rfl
   refine bw hc hg hrun ⟨_, ?_, hK⟩
   refine d6 hM hc hd (bF hden.symm) hokv hf hn
  ·cases he
 ·cases he
theorem hY {ops : Array Oper} {o : Oper} {x : CS} {t : TypeId} {m k : Operand} {ok : Bool} {e : Ef} (hop : o.op = .lookup t m k ok) (hg : af (am ops) x.s o = .go []) (hd : ∀ d, o.dst = some d → d < x.s.sz)
  (he : hZ P x t m k ok = some e) {hi : Nat} {F : Own} {H : Heap} {a : Act} {w : World} {K : CS → Prop} {Q : Exit → Act → World → Prop} (hC : CC hi F x H a w) (hr : e.run hi o.dst x K) :
  wp1 P ops Q o (fun a' w' => ∃ x', CC hi F x' H a' w' ∧ K x') a w := by
 unfold hZ at he
 split at he
 ·rename_i h0
  obtain rfl := Option.some.inj he
  exact gi hop hg hd h0 hC hr
 ·exact ia hop hg hd he hC hr
theorem f7 {ops : Array Oper} {o : Oper} {x : CS} {t : TypeId} {m k v : Operand} {e : Ef} (hop : o.op = .mapUpdate t m k v ∨ o.op = .insert t m k v) (hg : af (am ops) x.s o = .go []) (hdst : o.dst = none)
  (he : dx P x t m k v = some e) {hi : Nat} {F : Own} {H : Heap} {a : Act} {w : World} {K : CS → Prop} {Q : Exit → Act → World → Prop} (hC : CC hi F x H a w) (hr : e.run hi o.dst x K) :
  wp1 P ops Q o (fun a' w' => ∃ x', CC hi F x' H a' w' ∧ K x') a w := by
 obtain ⟨⟨O, hM, hc⟩, hf, hn⟩ := hC
 unfold dx at he
 simp only [Option.bind_eq_some_iff] at he
 obtain ⟨⟨et, kk⟩, hkk, he⟩ := he
 simp only at he
 split at he
 ·rename_i n r cm ka va ck hm hk
  split at he
  ·rename_i kd i u b hlit hlu hb
   split at he
   ·rename_i hkd
    obtain ⟨hkd, hsm, hone, hkk'⟩ := hkd
    subst hkd
    cases kk with
    | none => cases hkk'
    | some kd0 =>
    obtain ⟨kt, hu, hkt⟩ := eo hkk
    simp only [Option.some.injEq] at he
    subst he
    obtain ⟨⟨hrb, hcs⟩, _, hK⟩ := hr
    have hrb : r = b.r := hrb
    subst hrb
    have hcs := AllCk.append.1 hcs
    obtain ⟨p, O1, O2, rfl, hp, hset⟩ := bc hM hb
    obtain ⟨L, hB, hmo⟩ := hc.mm
    have em : a.eval m = .map (some b.r) := ah hc hm hcs.1 trivial
    have ekv := aB hc hk hcs.2 trivial
    simp only [List.map_cons, List.map_nil, List.cons.injEq, and_true] at ekv
    have ek : a.eval k = .int b.kd i := ekv.1.trans (cJ hlit)
    have ev : a.eval v = u := ekv.2.trans (cJ hlu)
    have hperm : Models w H ([p] ++ (L ++ (O1 ++ O2) ++ F)) := hmo.perm (by
     simp only [List.append_assoc, List.cons_append, List.nil_append]
     exact (List.perm_append_left_iff (L ++ O1)).2 (List.Perm.refl (p :: (O2 ++ F))) |> fun h => by
      simp only [List.append_assoc] at h ⊢
      rw [← List.append_assoc, ← List.append_assoc L O1]
      exact List.perm_middle)
    obtain ⟨v', w', H', O', h1, ⟨rfl, h3⟩, h4, h5⟩ := gR hu hkt (MB.omap hp hsm) H i u w _ hperm
    have hex : (execOp a.eval o).run P w = .ok .skip w' := by
     have hs : ((PrimOp.mapUpdate t).sem [.map (some b.r), .int b.kd i, u]).run P w = ((Instr.mapUpdate t (.map (some b.r)) (.int b.kd i) u).run P w).andThen fun _ w' => .ok (.value (.bool false)) w' := by
      simp only [PrimOp.sem, Sem.run_bind, Sem.run_pure]
     rw [hs] at h1
     cases hmu : (Instr.mapUpdate t (.map (some b.r)) (.int b.kd i) u).run P w with
     | ok y w1 =>
      rw [hmu] at h1
      simp only [Result.andThen_ok, Result.ok.injEq] at h1
      obtain ⟨_, rfl⟩ := h1
      rcases hop with hop | hop
      ·simp only [execOp, hop, Sem.run_bind, Sem.run_pure, em, ek, ev, hmu, Result.andThen_ok]
      ·simp only [execOp, hop, Sem.run_bind, Sem.run_pure, em, ek, ev, hmu, Result.andThen_ok]
     | halt y w1 => rw [hmu] at h1; simp at h1
    refine gP hc hg hex ⟨_, ?_, hK⟩
    rw [hdst]
    obtain ⟨r', es', clock', hv', rfl, hes'⟩ := h3
    simp only [Value.map.injEq, Option.some.injEq] at hv'
    subst hv'
    refine cT (dst := none) (v := undef) (sv := .s (.at (.k undef))) (L' := L) (O' := O1 ++ (b.r, .map es' clock') :: O2) (nx := x.s.next) (h' := { x.h with ms := iJ x.h.ms n { b with m := kB b.m i u } }) hc (by simp) rfl (ga _) (.inl rfl) rfl hc.ok.2 hB ?_ ?_ hf hn
    ·exact hset _ _ (MB.is_int (b := { b with m := kB b.m i u }) hsm ⟨es', clock', rfl, hes'⟩)
    ·refine h5.perm ?_
     simp only [List.append_assoc, List.cons_append, List.nil_append]
     rw [← List.append_assoc, ← List.append_assoc L O1]
     exact List.perm_middle.symm
   ·cases he
  ·rename_i y u b hlit hlu hb
   split at he
   ·rename_i l hsm
    split at he
    ·rename_i hcond
     simp only [Bool.and_eq_true, Option.isNone_iff_eq_none] at hcond
     obtain ⟨⟨hstr, hone⟩, hnew⟩ := hcond
     obtain ⟨kt, et', hu, hkt⟩ := fH hstr
     simp only [Option.some.injEq] at he
     subst he
     obtain ⟨⟨hrb, hcs⟩, _, hK⟩ := hr
     have hrb : r = b.r := hrb
     subst hrb
     have hcs := AllCk.append.1 hcs
     obtain ⟨p, O1, O2, rfl, ⟨es, clock, rfl, hes⟩, hset⟩ := bc hM hb
     obtain ⟨L, hB, hmo⟩ := hc.mm
     have em : a.eval m = .map (some b.r) := ah hc hm hcs.1 trivial
     have ekv := aB hc hk hcs.2 trivial
     simp only [List.map_cons, List.map_nil, List.cons.injEq, and_true] at ekv
     have ek : a.eval k = .string ⟨y.data.toList.toArray⟩ := ekv.1.trans ((cJ hlit).trans (by simp))
     have ev : a.eval v = u := ekv.2.trans (cJ hlu)
     have hperm : Models w H ([(b.r, .map es clock)] ++ (L ++ (O1 ++ O2) ++ F)) := hmo.perm (by
      simp only [List.append_assoc, List.cons_append, List.nil_append]
      rw [← List.append_assoc, ← List.append_assoc L O1]
      exact List.perm_middle)
     obtain ⟨w', es', clock', h1, h3, h5⟩ := f6 hu hkt (by simpa only [MB.rows, hsm] using hes) H y.data.toList u hnew w _ hperm
     have hex : (execOp a.eval o).run P w = .ok .skip w' := by
      rcases hop with hop | hop
      ·simp only [execOp, hop, Sem.run_bind, Sem.run_pure, em, ek, ev, h1, Result.andThen_ok]
      ·simp only [execOp, hop, Sem.run_bind, Sem.run_pure, em, ek, ev, h1, Result.andThen_ok]
     refine gP hc hg hex ⟨_, ?_, hK⟩
     rw [hdst]
     refine cT (dst := none) (v := undef) (sv := .s (.at (.k undef))) (L' := L) (O' := O1 ++ (b.r, .map es' clock') :: O2) (nx := x.s.next) (h' := { x.h with ms := iJ x.h.ms n { b with sm := some (l ++ [(y.data.toList, u)]) } }) hc (by simp) rfl (ga _) (.inl rfl) rfl hc.ok.2 hB ?_ ?_ hf hn
     ·exact hset _ _ ⟨es', clock', rfl, h3⟩
     ·refine h5.perm ?_
      simp only [List.append_assoc, List.cons_append, List.nil_append]
      rw [← List.append_assoc, ← List.append_assoc L O1]
      exact List.perm_middle.symm
    ·cases he
   ·cases he
  ·cases he
 ·cases he
theorem gU {ops : Array Oper} {o : Oper} {x : CS} {t : TypeId} {m k v : Operand} {e : Ef} (hop : o.op = .mapUpdate t m k v ∨ o.op = .insert t m k v) (hg : af (am ops) x.s o = .go []) (hdst : o.dst = none)
  (he : eV P x t m k = some e) {hi : Nat} {F : Own} {H : Heap} {a : Act} {w : World} {K : CS → Prop} {Q : Exit → Act → World → Prop} (hC : CC hi F x H a w) (hr : e.run hi o.dst x K) :
  wp1 P ops Q o (fun a' w' => ∃ x', CC hi F x' H a' w' ∧ K x') a w := by
 obtain ⟨⟨O, hM, hc⟩, hf, hn⟩ := hC
 unfold eV at he
 split at he
 ·rename_i n r cm ka ck hm hk
  simp only [Option.bind_eq_some_iff] at he
  obtain ⟨vs, hvs, b, hb, he⟩ := he
  split at he
  ·rename_i hcond
   simp only [Bool.and_eq_true] at hcond
   obtain ⟨hrows, hdk⟩ := hcond
   simp only [Option.some.injEq] at he
   subst he
   obtain ⟨⟨hrb, hcs⟩, _, hK⟩ := hr
   have hrb : r = b.r := hrb
   subst hrb
   have hcs := AllCk.append.1 hcs
   obtain ⟨kt, et', d, hu, hkt, hck⟩ := ew hdk
   obtain ⟨p, O1, O2, rfl, ⟨es, clock, rfl, hes⟩, hdel⟩ := iV hM hb
   obtain ⟨L, hB, hmo⟩ := hc.mm
   obtain rfl := iN hrows hes
   have em : a.eval m = .map (some b.r) := ah hc hm hcs.1 trivial
   have ek : a.eval k = .agg vs.toArray := (aJ hc hk hcs.2 trivial).trans (by simp only [S1.den, fF hvs])
   have hrow := (hmo.own (b.r, .map #[] clock) (by simp)).1
   have hlt : b.r < w.heap.size := (Array.getElem?_eq_some_iff.1 hrow).1
   have hgo : (getObj b.r).run P w = .ok (.map #[] clock) w := by simp [getObj, Sem.run, hrow]
   have hset : ∀ o, (setObj b.r o).run P w = .ok () { w with heap := w.heap.setIfInBounds b.r o } := fun o => by
    simp only [setObj, Sem.run, hrow]
   have hperm : Models w H ((b.r, .map #[] clock) :: (L ++ (O1 ++ O2) ++ F)) := hmo.perm (by
    simp only [List.append_assoc, List.cons_append, List.nil_append]
    rw [← List.append_assoc, ← List.append_assoc L O1]
    exact List.perm_middle)
   have h5 := hperm.update (w' := { w with heap := w.heap.setIfInBounds b.r (.map (#[].push { key := .agg vs.toArray, val := a.eval v, born := clock }) (clock + 1)) })
    (o' := .map (#[].push { key := .agg vs.toArray, val := a.eval v, born := clock }) (clock + 1)) (fun b' hb' => by simp [Ne.symm hb']) (by simp [hlt]) rfl
   have hex : (execOp a.eval o).run P w = .ok .skip { w with heap := w.heap.setIfInBounds b.r (.map (#[].push { key := .agg vs.toArray, val := a.eval v, born := clock }) (clock + 1)) } := by
    rcases hop with hop | hop
    ·simp only [execOp, hop, em, ek, Instr.mapUpdate, Sem.run_bind, ab hu, Result.andThen_ok, hgo, Sem.run_pure, hck, Instr.findKey, ab hkt, Instr.findNow, hset]
    ·simp only [execOp, hop, em, ek, Instr.mapUpdate, Sem.run_bind, ab hu, Result.andThen_ok, hgo, Sem.run_pure, hck, Instr.findKey, ab hkt, Instr.findNow, hset]
   refine gP hc hg hex ⟨_, ?_, hK⟩
   rw [hdst]
   refine cT (dst := none) (v := undef) (sv := .s (.at (.k undef))) (L' := L) (O' := O1 ++ O2) (nx := x.s.next) (h' := { x.h with ms := kr x.h.ms n }) hc (by simp) rfl (ga _) (.inl rfl) rfl hc.ok.2 hB hdel ?_ hf hn
   exact h5.sub (by simp)
  ·cases he
 ·cases he
theorem dw {ops : Array Oper} {o : Oper} {x : CS} {t : TypeId} {m k v : Operand} {e : Ef} (hop : o.op = .mapUpdate t m k v ∨ o.op = .insert t m k v) (hg : af (am ops) x.s o = .go []) (hdst : o.dst = none)
  (he : eU P x t m k v = some e) {hi : Nat} {F : Own} {H : Heap} {a : Act} {w : World} {K : CS → Prop} {Q : Exit → Act → World → Prop} (hC : CC hi F x H a w) (hr : e.run hi o.dst x K) :
  wp1 P ops Q o (fun a' w' => ∃ x', CC hi F x' H a' w' ∧ K x') a w := by
 unfold eU at he
 split at he
 ·rename_i h0
  obtain rfl := Option.some.inj he
  exact f7 hop hg hdst h0 hC hr
 ·exact gU hop hg hdst he hC hr
theorem eD : ∀ {l : List At} {bs : List UInt8}, dr l = some bs → l.map At.den = bs.map fun b => Value.int .u8 (b.toNat : Int)
 | [], bs, h => by simp only [dr, Option.some.injEq] at h; subst h; rfl
 | a :: r, bs, h => by
  unfold dr at h
  split at h
  ·rename_i e; cases e
  ·rename_i n r' e
   simp only [List.cons.injEq] at e
   obtain ⟨rfl, rfl⟩ := e
   split at h
   ·rename_i hn
    simp only [Option.map_eq_some_iff] at h
    obtain ⟨bs', hb, rfl⟩ := h
    rw [List.map_cons, List.map_cons, eD hb]
    congr 1
    simp only [At.den]
    congr 1
    have : n.toNat < 256 := by omega
    simp [Nat.mod_eq_of_lt this]
    omega
   ·cases h
  ·cases h
theorem jI {ops : Array Oper} {o : Oper} {x : CS} {ta tb : TypeId} {y : Operand} {e : Ef} (hop : o.op = .convert ta tb y) (hg : af (am ops) x.s o = .go []) (hd : ∀ d, o.dst = some d → d < x.s.sz)
  (he : mz P x ta tb y = some e) {hi : Nat} {F : Own} {H : Heap} {a : Act} {w : World} {K : CS → Prop} {Q : Exit → Act → World → Prop} (hC : CC hi F x H a w) (hr : e.run hi o.dst x K) :
  wp1 P ops Q o (fun a' w' => ∃ x', CC hi F x' H a' w' ∧ K x') a w := by
 obtain ⟨⟨O, hM, hc⟩, hf, hn⟩ := hC
 unfold mz at he
 split at he
 ·rename_i el ya cs hs hdt hy
  split at he
  ·rename_i hel
   simp only [Option.bind_eq_some_iff] at he
   obtain ⟨⟨l, m, ck, rd⟩, hsrc, bs, hbs, he⟩ := he
   simp only [Option.some.injEq] at he
   subst he
   obtain ⟨hcs, _, hk⟩ := hr
   have hcs := AllCk.append.1 hcs
   have ey := ah hc hy hcs.2 trivial
   have hbd := eD hbs
   have hrun : (execOp a.eval o).run P w = .ok (.value (.string ⟨bs.toArray⟩)) w := by
    have hcv : (Go.convert ta tb ya.den).run P w = .ok (.string ⟨bs.toArray⟩) w := by
     unfold eY at hsrc
     split at hsrc
     ·rename_i n r off len cap
      split at hsrc
      ·rename_i b hb
       simp only [] at hsrc
       split at hsrc
       ·rename_i hcond
        simp only [Bool.and_eq_true, beq_iff_eq] at hcond
        simp only [Option.some.injEq, Prod.mk.injEq] at hsrc
        obtain ⟨rfl, rfl, rfl, rfl⟩ := hsrc
        have hr : r = b.r := hcs.1
        subst hr
        obtain ⟨h1, _⟩ := ix hc hb hcond.1 hcond.2
        have hlen : bs.length = len := by
         have := congrArg List.length hbd
         rw [List.length_map, List.length_map, hcond.1, Nat.mul_one] at this
         exact this.symm
        subst hlen
        refine run_convert_bytes_back w ta tb el ⟨b.r, off, none⟩ cap bs hs hel hdt ?_
        intro j hj
        refine h1 j _ ?_
        rw [hbd, List.getElem?_map, List.getElem?_eq_getElem hj]
        rfl
       ·cases hsrc
      ·cases hsrc
     ·rename_i va vc
      simp only [Option.some.injEq, Prod.mk.injEq] at hsrc
      obtain ⟨rfl, rfl, rfl, rfl⟩ := hsrc
      simp only [dr, Option.some.injEq] at hbs
      subst hbs
      cases va with
      | none => exact run_convert_bytes_nil w ta el hs hel 0 vc tb hdt
      | some ad => exact run_convert_bytes_back w ta tb el ad vc [] hs hel hdt (by simp)
     ·rename_i va vc
      simp only [Option.some.injEq, Prod.mk.injEq] at hsrc
      obtain ⟨rfl, rfl, rfl, rfl⟩ := hsrc
      simp only [dr, Option.some.injEq] at hbs
      subst hbs
      cases va with
      | none => exact run_convert_bytes_nil w ta el hs hel 0 vc tb hdt
      | some ad => exact run_convert_bytes_back w ta tb el ad vc [] hs hel hdt (by simp)
     ·cases hsrc
    simp only [execOp, hop, Sem.run_bind, ey, hcv, Result.andThen_ok, Sem.run_pure]
   refine bw hc hg hrun ⟨_, ?_, hk⟩
   exact eR (sv := .s (.at (.k (.string ⟨bs.toArray⟩)))) hM hc hd rfl (ga _) hf hn
  ·cases he
 ·cases he
end
noncomputable section
variable {P : Program}
theorem lH {ops : Array Oper} {Q : Exit → Act → World → Prop} {o o' : Oper} {K : Act → World → Prop} {a : Act} {w : World} (hg : o.guard = o'.guard) (hd : o.dst = o'.dst) (he : execOp a.eval o = execOp a.eval o')
  (h : wp1 P ops Q o' K a w) : wp1 P ops Q o K a w := by
 have hw : Region.wanted o (yielded ops a.tmps) = Region.wanted o' (yielded ops a.tmps) := by unfold Region.wanted; rw [hg]
 unfold wp1 at h ⊢
 rw [hw]
 have h1 : o.wp P a w K Q = o'.wp P a w K Q := by
  unfold Oper.wp Oper.upon
  rw [he, hd]
 have h2 : o.asks P a w = o'.asks P a w := by unfold Oper.asks; rw [he]
 rw [h1, h2, hd]
 exact h
theorem kj {c : Cfg} {ops : Array Oper} {o : Oper} {x : CS} {name : Nat} {t : TypeId} {l k : Operand} {e : Ef} (hop : o.op = .makeSlice t l k)
  (he : nP c ops name o x t l k = some e) {hi : Nat} {F : Own} {H : Heap} (hgl : GlobOk c.glob H) {a : Act} {w : World} {K : CS → Prop} {Q : Exit → Act → World → Prop} (hC : CC hi F x H a w) (hr : e.run hi o.dst x K) :
  wp1 c.P ops Q o (fun a' w' => ∃ x', CC hi F x' H a' w' ∧ K x') a w := by
 unfold nP at he
 split at he
 ·rename_i lv cl kv ck hl hk
  simp only [Option.bind_eq_some_iff] at he
  obtain ⟨⟨y, fp⟩, hy, he⟩ := he
  have hc := hC.1.choose_spec.2
  have ecl := g5 hl
  have eck := g5 hk
  subst ecl; subst eck
  have el : a.eval l = lv := ah hc hl trivial trivial
  have ek : a.eval k = kv := ah hc hk trivial trivial
  have := fG (o := { o with op := .makeSlice t (.const lv) (.const kv) }) (fun _ h => by cases h) hy he hgl (Q := Q) hC hr
  refine lH (o' := { o with op := .makeSlice t (.const lv) (.const kv) }) rfl rfl ?_ this
  simp only [execOp, hop, el, ek]
  rfl
 ·cases he
theorem cV {x x' : CS} {size : Nat} {a : At} {l : List At} {m : Nat} {ck : List Ck} {rd : List Nat} (h : eY x size a = some (l, m, ck, rd)) (hm : ∀ n ∈ rd, x'.s.mem n = x.s.mem n) : eY x' size a = some (l, m, ck, rd) := by
 unfold eY at h ⊢
 split at h
 ·rename_i n r off len cap
  split at h
  ·rename_i b hb
   have h0 := h
   simp only [] at h
   split at h
   ·simp only [Option.some.injEq, Prod.mk.injEq] at h
    obtain ⟨rfl, rfl, rfl, rfl⟩ := h
    simp only
    rw [hm n (by simp), hb]
    exact h0
   ·cases h
  ·cases h
 ·exact h
 ·exact h
 ·cases h
theorem kN {x x' : CS} {size : Nat} {t : TypeId} {a : At} {l : List At} {m : Nat} {ck : List Ck} {rd : List Nat} (h : nc P x size t a = some (l, m, ck, rd)) (hm : ∀ n ∈ rd, x'.s.mem n = x.s.mem n) : nc P x' size t a = some (l, m, ck, rd) := by
 unfold nc at h ⊢
 split at h
 ·exact cV h hm
 ·exact h
 ·cases h
theorem f5 {x : CS} {e : TypeId} {size : Nat} {sa : At} {news : List At} {m : Nat} {ck : List Ck} {rd : List Nat} {f : Ef} (h : bS P x e size sa news m ck rd = some f) :
  f.lo.isSome = true ∧ (∀ k ∈ rd, k ∈ f.rd) ∧ (m ≠ 0 → ∀ n r off len cap, sa = .sl n r off len cap → n ∈ f.rd) := by
 unfold bS at h
 split at h
 ·rename_i hm0
  split at h
  ·split at h
   ·simp only [Option.some.injEq] at h; subst h; exact ⟨rfl, fun _ h => h, fun h => absurd hm0 h⟩
   ·cases h
  ·cases h
 ·split at h
  ·rename_i n r off len cap
   simp only [] at h
   split at h
   ·cases h
   ·split at h
    ·cases h
    ·split at h
     ·cases h
     ·have fin : ∀ {f : Ef} {cs : List Ck} {G : G Upd} {wr : List Nat}, some (Ef.mk cs G (n :: rd) wr (some x.s.next)) = some f → f.lo.isSome = true ∧ (∀ k ∈ rd, k ∈ f.rd) ∧ (m ≠ 0 → ∀ n' r' off' len' cap', At.sl n r off len cap = .sl n' r' off' len' cap' → n' ∈ f.rd) := by
       intro f cs G wr h
       simp only [Option.some.injEq] at h
       subst h
       refine ⟨rfl, fun k hk => List.mem_cons_of_mem _ hk, fun _ n' r' off' len' cap' he => ?_⟩
       simp only [At.sl.injEq] at he
       rw [← he.1]; simp
      split at h
      ·split at h
       ·split at h
        ·exact fin h
        ·cases h
       ·exact fin h
      ·split at h
       ·split at h
        ·split at h
         ·exact fin h
         ·cases h
        ·cases h
       ·split at h
        ·exact fin h
        ·cases h
  ·rename_i hns
   split at h
   ·split at h
    ·cases h
    ·simp only [Option.some.injEq] at h
     subst h
     exact ⟨rfl, fun _ h => h, fun _ n r off len cap he => absurd he (hns n r off len cap)⟩
   ·cases h
theorem iz {x x' : CS} {e : TypeId} {size : Nat} {sa : At} {news : List At} {m : Nat} {ck : List Ck} {rd : List Nat} {f : Ef} (h : bS P x e size sa news m ck rd = some f)
  (hn : x'.s.next = x.s.next) (hh : x'.h = x.h) (hm : ∀ n ∈ f.rd, x'.s.mem n = x.s.mem n) : bS P x' e size sa news m ck rd = some f := by
 obtain ⟨_, _, hs⟩ := f5 h
 have hg : ∀ need known old, ko x' e size need known old = ko x e size need known old := by
  intro need known old
  unfold ko
  rw [hn, hh]
 by_cases hm0 : m = 0
 ·unfold bS at h ⊢
  rw [if_pos hm0] at h ⊢
  rw [hn, hh]; exact h
 ·unfold bS at h ⊢
  rw [if_neg hm0] at h ⊢
  cases sa with
  | sl n r off len cap =>
   have hmem := hm n (hs hm0 n r off len cap rfl)
   simp only [hmem, hn, hh, hg] at h ⊢
   exact h
  | _ => simp only [hn, hh, hg] at h ⊢; exact h
theorem g4 {c : Call} : (Op.call c).operands.toList = (match c.callee with | .value f => [f] | .invoke r _ => [r] | .builtin _ => []) ++ c.args.toList := by
 simp only [Op.operands, Call.operands]
 cases c.callee <;> simp
theorem jE {c : Cfg} {call : aX} {ops : Array Oper} {name : Nat} {o : Oper} {x x' : CS} {e : Ef} (hl : (mI c.P o.op).isLight = false) (h : bo c call ops name o x (mI c.P o.op) = some e)
  (hz : x'.s.sz = x.s.sz) (ht : ∀ t ∈ o.looksAt ops, x'.s.tmps t = x.s.tmps t) (hm : ∀ n ∈ e.rd, x'.s.mem n = x.s.mem n) (hh : e.lo.isSome = true → x'.s.next = x.s.next ∧ x'.h = x.h) :
  bo c call ops name o x' (mI c.P o.op) = some e := by
 have hx : ∀ y ∈ o.op.operands.toList, Ea x.s x'.s y := by
  rintro y hy t rfl
  refine ht t ?_
  simp only [Oper.looksAt, List.mem_append]
  left
  exact List.mem_filterMap.2 ⟨_, hy, rfl⟩
 unfold mI at h hl ⊢
 split at h
 ·rename_i cl hop
  rw [hop, g4] at hx
  have hargs : ∀ y ∈ cl.args.toList, Ea x.s x'.s y := fun y hy => hx y (List.mem_append_right _ hy)
  split at h
  ·rename_i f hf
   rw [hf] at hx
   exact jK (P := c.P) h (hx f (by simp)) hargs hm hh
  ·
   simp only [bo] at h ⊢
   unfold iD at h ⊢
   rw [an hargs]
   split at h
   ·split at h
    ·simp only [Option.bind_eq_some_iff] at h
     obtain ⟨size, hsz, h⟩ := h
     split at h
     ·cases h
     ·rename_i hk
      simp only [Option.bind_eq_some_iff] at h
      obtain ⟨⟨news, m, ck, rd⟩, hs, h⟩ := h
      simp only [] at h
      split at h
      ·rename_i hfit
       obtain ⟨h1, h2, _⟩ := f5 h
       obtain ⟨e1, e2⟩ := hh h1
       have hs' := kN hs fun n hn => hm n (h2 n hn)
       have h' := iz h e1 e2 hm
       simp only [hsz, Option.bind_some, if_neg hk, hs', hfit, if_true]
       exact h'
      ·cases h
    ·cases h
   ·cases h
  ·
   simp only [bo] at h ⊢
   split at h
   ·rename_i hdst
    simp only [hdst, if_true]
    unfold j5 at h ⊢
    rw [an hargs]
    split at h
    ·split at h
     ·simp only [Option.bind_eq_some_iff] at h
      obtain ⟨size, hsz, z, hz', h⟩ := h
      split at h
      ·cases h
      ·rename_i hk
       simp only [hsz, hz', Option.bind_some, if_neg hk]
       split at h
       ·rename_i n r off len cap _
        split at h
        ·cases h
        ·rename_i b hb
         split at h
         ·rename_i hfit
          simp only [Option.some.injEq] at h
          subst h
          rw [hm n (by simp), hb]
          simp only [hfit, if_true]
         ·cases h
       ·split at h
        ·rename_i hem
         simp only [hem, if_true]
         exact h
        ·cases h
     ·cases h
    ·cases h
   ·cases h
  ·
   split at h
   ·rename_i hmt
    rw [if_pos hmt]
    simp only [bo] at h ⊢
    unfold mc at h ⊢
    rw [an hargs]
    split at h
    ·split at h
     ·rename_i kt et b hu hb
      simp only [Option.some.injEq] at h
      subst h
      obtain ⟨e1, e2⟩ := hh rfl
      simp only [hu, e2, hb, e1]
     ·cases h
    ·cases h
   ·cases h
  ·
   simp only [bo] at h ⊢
   unfold my at h ⊢
   rw [an hargs]
   split at h
   ·split at h
    ·simp only [Option.bind_eq_some_iff] at h
     obtain ⟨size, hsz, h⟩ := h
     split at h
     ·cases h
     ·rename_i hk
      simp only [Option.bind_eq_some_iff] at h
      obtain ⟨⟨news, m, ck, rd⟩, hs, h⟩ := h
      simp only [] at h
      split at h
      ·rename_i n r off len cap _
       split at h
       ·cases h
       ·rename_i b hb
        split at h
        ·cases h
        ·rename_i hold
         simp only [Option.some.injEq] at h
         subst h
         have hs' := cV hs fun n hn => hm n (List.mem_cons_of_mem _ hn)
         simp only [hsz, Option.bind_some, if_neg hk, hs']
         rw [hm n (by simp), hb]
         simp only [if_neg hold]
      ·split at h
       ·rename_i hem
        simp only [Option.some.injEq] at h
        subst h
        have hs' := cV hs fun n hn => hm n hn
        simp only [hsz, Option.bind_some, if_neg hk, hs', hem, if_true]
       ·cases h
    ·cases h
   ·cases h
  ·cases h
 ·
  simp only [bo] at h ⊢
  unfold eL at h ⊢
  simp only [Option.bind_eq_some_iff] at h
  obtain ⟨⟨et, k⟩, hk, h⟩ := h
  simp only [Option.some.injEq] at h
  subst h
  obtain ⟨e1, e2⟩ := hh rfl
  simp only [hk, Option.bind_some, e1, e2]
 ·rename_i t m k ok hop
  rw [hop] at hx
  simp only [bo] at h ⊢
  unfold hZ eM ib at h ⊢
  rw [ai (hx m (by simp [Op.operands])), ai (hx k (by simp [Op.operands])), aw (hx k (by simp [Op.operands]))]
  have h0 := h
  have hlo : e.lo.isSome = true := by
   split at h
   ·rename_i h1
    obtain rfl := Option.some.inj h
    have h := h1
    simp only [Option.bind_eq_some_iff] at h
    obtain ⟨⟨et, kk⟩, hkk, z, hz', h⟩ := h
    split at h
    ·split at h
     ·split at h
      ·simp only [Option.bind_eq_some_iff, Option.some.injEq] at h; obtain ⟨_, _, rfl⟩ := h; rfl
      ·cases h
     ·split at h
      ·split at h
       ·simp only [Option.bind_eq_some_iff, Option.some.injEq] at h; obtain ⟨_, _, rfl⟩ := h; rfl
       ·cases h
      ·cases h
     ·cases h
    ·cases h
   ·simp only [Option.bind_eq_some_iff] at h
    obtain ⟨⟨et, kk⟩, hkk, z, hz', h⟩ := h
    split at h
    ·simp only [Option.bind_eq_some_iff] at h
     obtain ⟨_, _, _, _, h⟩ := h
     split at h
     ·simp only [Option.bind_eq_some_iff, Option.some.injEq] at h; obtain ⟨_, _, rfl⟩ := h; rfl
     ·cases h
    ·cases h
  obtain ⟨e1, e2⟩ := hh hlo
  rw [e1, e2]; exact h0
 ·rename_i t m k v hop
  rw [hop] at hx
  simp only [bo] at h ⊢
  split at h
  ·rename_i hdst
   simp only [hdst, if_true]
   unfold eU dx eV at h ⊢
   rw [ai (hx m (by simp [Op.operands])), an (xs := [k, v]) (fun y hy => hx y (by simp only [List.mem_cons, List.not_mem_nil, or_false] at hy; rcases hy with rfl | rfl <;> simp [Op.operands])), aw (hx k (by simp [Op.operands]))]
   have h0 := h
   have hlo : e.lo.isSome = true := by
    split at h
    ·rename_i h1
     obtain rfl := Option.some.inj h
     have h := h1
     simp only [Option.bind_eq_some_iff] at h
     obtain ⟨⟨et, kk⟩, hkk, h⟩ := h
     split at h
     ·split at h
      ·split at h
       ·simp only [Option.some.injEq] at h; subst h; rfl
       ·cases h
      ·split at h
       ·split at h
        ·simp only [Option.some.injEq] at h; subst h; rfl
        ·cases h
       ·cases h
      ·cases h
     ·cases h
    ·split at h
     ·simp only [Option.bind_eq_some_iff] at h
      obtain ⟨_, _, _, _, h⟩ := h
      split at h
      ·simp only [Option.some.injEq] at h; subst h; rfl
      ·cases h
     ·cases h
   obtain ⟨e1, e2⟩ := hh hlo
   rw [e1, e2]; exact h0
  ·cases h
 ·rename_i t m k v hop
  rw [hop] at hx
  simp only [bo] at h ⊢
  split at h
  ·rename_i hdst
   simp only [hdst, if_true]
   unfold eU dx eV at h ⊢
   rw [ai (hx m (by simp [Op.operands])), an (xs := [k, v]) (fun y hy => hx y (by simp only [List.mem_cons, List.not_mem_nil, or_false] at hy; rcases hy with rfl | rfl <;> simp [Op.operands])), aw (hx k (by simp [Op.operands]))]
   have h0 := h
   have hlo : e.lo.isSome = true := by
    split at h
    ·rename_i h1
     obtain rfl := Option.some.inj h
     have h := h1
     simp only [Option.bind_eq_some_iff] at h
     obtain ⟨⟨et, kk⟩, hkk, h⟩ := h
     split at h
     ·split at h
      ·split at h
       ·simp only [Option.some.injEq] at h; subst h; rfl
       ·cases h
      ·split at h
       ·split at h
        ·simp only [Option.some.injEq] at h; subst h; rfl
        ·cases h
       ·cases h
      ·cases h
     ·cases h
    ·split at h
     ·simp only [Option.bind_eq_some_iff] at h
      obtain ⟨_, _, _, _, h⟩ := h
      split at h
      ·simp only [Option.some.injEq] at h; subst h; rfl
      ·cases h
     ·cases h
   obtain ⟨e1, e2⟩ := hh hlo
   rw [e1, e2]; exact h0
  ·cases h
 ·
  rename_i t l k hop
  have hx' := hx
  rw [hop] at hx
  simp only [bo] at h ⊢
  unfold nP at h ⊢
  rw [ai (hx l (by simp [Op.operands])), ai (hx k (by simp [Op.operands]))]
  split at h
  ·rename_i lv cl kv ck h1 h2
   simp only [Option.bind_eq_some_iff] at h
   obtain ⟨⟨y, fp⟩, hy, h⟩ := h
   have hrd := (lc h).2
   have hy' := hP (s' := x'.s) hy hz (fun t ht' => ht t (by
    simp only [Oper.looksAt, List.mem_append] at ht' ⊢
    rcases ht' with ht' | ht'
    ·simp [Op.operands] at ht'
    ·exact .inr ht')) (fun n hn => hm n (by rw [hrd]; exact hn))
   simp only [hy', Option.bind_some]
   exact h
  ·cases h
 ·
  rename_i ta tb y hop
  rw [hop] at hx
  split at h
  ·cases h
  ·rename_i hnl
   simp only [if_neg hnl]
   simp only [bo] at h ⊢
   unfold mz at h ⊢
   rw [ai (hx y (by simp [Op.operands]))]
   split at h
   ·split at h
    ·rename_i hel
     simp only [Option.bind_eq_some_iff] at h
     obtain ⟨⟨l, m, ck, rd⟩, hs, bs, hb, h⟩ := h
     simp only [Option.some.injEq] at h
     subst h
     have hs' := cV hs fun n hn => hm n hn
     simp only [hel, hs', Option.bind_some, hb]
    ·cases h
   ·cases h
 ·cases h
theorem jc {c : Cfg} (hokf : ∀ f, c.ok f = true → gm c.P f) {call : aX} {H : Heap} (hcall : b8 c.P c.ok H call) (hgl : GlobOk c.glob H) {ops : Array Oper} {name : Nat} {o : Oper} {x : CS} {e : Ef}
  (hg : af (am ops) x.s o = .go []) (hd : ∀ d, o.dst = some d → d < x.s.sz) (he : bo c call ops name o x (mI c.P o.op) = some e)
  {hi : Nat} {F : Own} {a : Act} {w : World} {K : CS → Prop} {Q : Exit → Act → World → Prop} (hC : CC hi F x H a w) (hr : e.run hi o.dst x K) : wp1 c.P ops Q o (fun a' w' => ∃ x', CC hi F x' H a' w' ∧ K x') a w := by
 unfold mI at he
 split at he
 ·rename_i cl hop
  split at he
  ·rename_i f hf
   exact jh hokf hcall hop hf hg hd he hC hr
  ·rename_i hf
   exact iC hop hf hg hd he hC hr
  ·rename_i hf
   simp only [bo] at he
   split at he
   ·rename_i hdst
    exact jf hop hf hg (by simpa using hdst) he hC hr
   ·cases he
  ·rename_i hf
   split at he
   ·exact jy hop hf hg hd he hC hr
   ·cases he
  ·rename_i hf
   exact jH hop hf hg hd he hC hr
  ·cases he
 ·rename_i t hop
  exact gh hop hg hd he hC hr
 ·rename_i t m k ok hop
  exact hY hop hg hd he hC hr
 ·rename_i t m k v hop
  simp only [bo] at he
  split at he
  ·rename_i hdst
   exact dw (.inl hop) hg (by simpa using hdst) he hC hr
  ·cases he
 ·rename_i t m k v hop
  simp only [bo] at he
  split at he
  ·rename_i hdst
   exact dw (.inr hop) hg (by simpa using hdst) he hC hr
  ·cases he
 ·rename_i t l k hop
  exact kj hop he hgl hC hr
 ·rename_i ta tb y hop
  split at he
  ·cases he
  ·exact jI hop hg hd he hC hr
 ·cases he
theorem nY {c : Cfg} (hokf : ∀ f, c.ok f = true → gm c.P f) {H : Heap} (hgl : GlobOk c.glob H) (call : aX) (hcall : b8 c.P c.ok H call) : NOk c.P (cN c call) H := by
 constructor
 ·intro ops base i o x x' e h hz ht hm hh
  unfold cN at h ⊢
  rw [jw] at h ⊢
  simp only [] at h ⊢
  split at h
  ·rename_i hl
   rw [if_pos hl]
   simp only [Option.bind_eq_some_iff] at h
   obtain ⟨⟨y, fp⟩, hy, he⟩ := h
   have hrd := (lc he).2
   have := hP (s' := x'.s) hy hz ht (fun n hn => hm n (by rw [hrd]; exact hn))
   simp only [this, Option.bind_some]
   exact he
  ·rename_i hl
   rw [if_neg hl]
   have hd : dK x'.s o.dst = dK x.s o.dst := by unfold dK; rw [hz]
   have hg : af (am ops) x'.s o = af (am ops) x.s o := by
    refine dG fun j want t h1 h2 => ht t ?_
    simp only [Oper.looksAt, h1, List.mem_append]
    right
    unfold am at h2
    simp [h2]
   rw [hd, hg]
   split at h
   ·cases h
   ·rename_i hdo
    rw [if_neg hdo]
    split at h
    ·exact h
    ·exact jE (by simpa using hl) h hz ht hm hh
    ·cases h
 ·intro ops base tab i o x e ho he F a w K Q hC hr
  simp only at ho he hC hr ⊢
  unfold cN at he
  rw [jw] at he
  simp only [] at he
  split at he
  ·simp only [Option.bind_eq_some_iff] at he
   obtain ⟨⟨y, fp⟩, hy, he⟩ := he
   exact fG (fun _ h => by cases h) hy he hgl hC hr
  ·split at he
   ·cases he
   ·rename_i hdo
    have hd : ∀ d, o.dst = some d → d < x.s.sz := by
     intro d hd
     simp only [hd, dK, Bool.not_eq_true', decide_eq_false_iff_not, Decidable.not_not] at hdo
     exact hdo
    split at he
    ·rename_i hg
     simp only [Option.some.injEq] at he
     subst he
     obtain ⟨⟨O, hM, hc⟩, hf, hn⟩ := hC
     obtain ⟨_, _, hk⟩ := hr
     unfold wp1
     rw [if_neg (by simp [gB hc hg])]
     exact ⟨_, eR (sv := .s (.at (.k undef))) hM hc hd rfl (ga _) hf hn, hk⟩
    ·rename_i hg
     exact jc hokf hcall hgl hg hd he hC hr
    ·cases he
end
end Go.Sx
namespace Go.Sx
open Go Go.ChangeShapes Go.WideShapes
noncomputable section
variable {P : Program}
def isT (r : SV × CS) : Bool := match r.1 with | .s (.at (.k (.bool b))) => b | _ => false
structure Ran (c : Cfg) (depth loops : Nat) (f : FuncId) : Prop where
 h : (nO c depth loops f [] [] 0 ⟨[], []⟩).den fun r => isT r = true
theorem Ran.reckon {c : Cfg} {depth loops : Nat} {f : FuncId} (n N : Nat) (h : ∀ k : Nat → Nat, ((G.exN n (nO c depth loops f [] [] 0 ⟨[], []⟩) ((List.range N).map k)).x, (G.exN n (nO c depth loops f [] [] 0 ⟨[], []⟩) ((List.range N).map k)).fine isT) =
  ((G.exN n (nO c depth loops f [] [] 0 ⟨[], []⟩) ((List.range N).map k)).y, true)) : Ran c depth loops f := by
 refine ⟨G.reckon (p := isT) (fun _ h => h) n N _ ?_⟩
 intro k
 have := h k
 rw [Prod.mk.injEq] at this
 exact this
end
noncomputable section
variable {P : Program}
end
end Go.Sx
namespace Go.Sx
open Go
noncomputable section
def qS1 (s : SS) (x : Operand) : Option S1 :=
 match x with
 | .tmp t =>
  match s.tmps t with
  | .s v => if v.known then some v else none
  | .tup _ => none
  | .opt _ _ => none
 | .const v => some (d5 v)
 | .global _ => none
 | .func _ => none
def qPl (s : SS) (x : Operand) : Option Value :=
 match qS1 s x with
 | some (.at a) => match a with
  | .k v => some v
  | _ => none
 | _ => none
abbrev QF := Program → SS → Option SV
def qNo : QF := fun _ _ => none
def lU (x : Operand) : QF := fun _ s => match qS1 s x with | some v => some (a3 (.s v)) | none => none
def nT (op : BinOp) : IntKind → Int → Int → Option Value :=
 BinOp.casesOn (motive := fun _ => IntKind → Int → Int → Option Value) op
  (add := fun k a b => some (.int k (k.wrap (a + b)))) (sub := fun k a b => some (.int k (k.wrap (a - b)))) (mul := fun k a b => some (.int k (k.wrap (a * b))))
  (quo := fun _ _ _ => none) (rem := fun _ _ _ => none) (and := fun _ _ _ => none) (or := fun _ _ _ => none) (xor := fun _ _ _ => none) (shl := fun _ _ _ => none) (shr := fun _ _ _ => none) (andNot := fun _ _ _ => none)
  (eql := fun _ a b => some (.bool (a == b))) (neq := fun _ a b => some (.bool (a != b))) (lss := fun _ a b => some (.bool (decide (a < b)))) (leq := fun _ a b => some (.bool (decide (a ≤ b))))
  (gtr := fun _ a b => some (.bool (decide (a > b)))) (geq := fun _ a b => some (.bool (decide (a ≥ b))))
theorem mW {op : BinOp} {k : IntKind} {a b : Int} {v : Value} (h : nT op k a b = some v) : cu op k a b = some v ∧ op ≠ .shl ∧ op ≠ .shr ∧ fi (.k v) = some v := by
 cases op <;> simp only [nT, cu, reduceCtorEq, Option.some.injEq] at h ⊢ <;> subst h <;> exact ⟨rfl, by simp, by simp, rfl⟩
def nq (op : BinOp) (bk : BK) (u v : Value) : Option SV :=
 match bk with
 | .int => match u with
  | .int k a => match v with
   | .int k' b => if k = k' then match nT op k a b with | some r => some (.s (.at (.k r))) | none => none else none
   | _ => none
  | _ => none
 | _ => none
def nU (op : BinOp) (t : TypeId) (x y : Operand) (_ : TypeId) : QF := fun P s =>
 match nH P t with
 | some bk => match qPl s x with
  | some u => match qPl s y with
   | some v => nq op bk u v
   | none => none
  | none => none
 | none => none
def qOp (op : Op) : QF :=
 Op.rec (motive := fun _ => QF) (move := lU) (assign := lU) (pick := fun _ _ _ => qNo) (alloc := fun _ => qNo) (box := fun _ _ => qNo) (build := fun _ _ => qNo) (buildSlice := fun _ _ _ => qNo) (insert := fun _ _ _ _ => qNo)
  (load := fun _ _ => qNo) (store := fun _ _ _ => qNo) (ready := fun _ => qNo) (waits := fun _ => qNo) (nilCheck := fun _ => qNo) (binOp := nU) (unOp := fun _ _ _ => qNo) (convert := fun _ _ _ => qNo) (sliceToArrayPointer := fun _ _ => qNo)
  (makeInterface := fun _ _ => qNo) (makeFunc := fun _ _ _ => qNo) (makeMap := fun _ _ => qNo) (makeChan := fun _ _ => qNo) (makeSlice := fun _ _ _ => qNo) (slice := fun _ _ _ _ _ => qNo) (fieldAddr := fun _ _ _ => qNo) (field := fun _ _ _ => qNo)
  (indexAddr := fun _ _ _ => qNo) (index := fun _ _ _ => qNo) (lookup := fun _ _ _ _ => qNo) (mapUpdate := fun _ _ _ _ => qNo) (mapEntry := fun _ _ _ => qNo) (entryStore := fun _ _ _ _ => qNo) (range := fun _ _ => qNo) (next := fun _ _ => qNo) (entry := fun _ => qNo)
  (typeAssert := fun _ _ _ _ => qNo) (extract := fun _ _ => qNo) (call := fun _ => qNo) (go := fun _ => qNo) (defer := fun _ => qNo) (panic := fun _ => qNo) (send := fun _ _ => qNo) (recv := fun _ _ _ => qNo) (select := fun _ _ => qNo) op
def kX (P : Program) (o : Oper) (s : SS) : Option (Nat × SV) :=
 match o.guard with
 | some _ => none
 | none => match o.dst with
  | none => none
  | some d => match Nat.blt d s.sz with
   | false => none
   | true => match qOp o.op P s with | some v => some (d, v) | none => none
def jm (v : SV) : Ef := ⟨[], .done ⟨some v, [], none⟩, [], [], none⟩
theorem mG {s : SS} {x : Operand} {v : S1} (h : qS1 s x = some v) : b9 s [] x = some (v, []) := by
 unfold qS1 at h
 unfold b9
 split at h
 ·split at h
  ·rename_i hs
   split at h
   ·rename_i hk
    simp only [Option.some.injEq] at h; subst h
    simp only [hs, hk, if_true]
   ·cases h
  ·cases h
  ·cases h
 ·simp only [Option.some.injEq] at h; subst h; rfl
 ·cases h
 ·cases h
theorem kW {s : SS} {x : Operand} {v : Value} (h : qPl s x = some v) : a5 s [] x = some (.k v, []) := by
 unfold qPl at h
 split at h
 ·rename_i hx
  split at h
  ·simp only [Option.some.injEq] at h; subst h
   simp only [a5, mG hx]
  ·cases h
 ·cases h
theorem nn {P : Program} {op : Op} {s : SS} {v : SV} (h : qOp op P s = some v) (okf : FuncId → Bool) (rules : FuncId → Option (List Nat)) (name : Nat) (o : Oper) (ho : o.op = op) :
  (mI P op).isLight = true ∧ ∃ w : S1, kC P okf rules false name o [] s = some (.fl [] .sil (fun _ => .s w), {}) ∧ v = a3 (.s w) := by
 have mv : ∀ x, lU x P s = some v → ∃ w : S1, cF s [] o.dst false x = some (.fl [] .sil (fun _ => .s w), {}) ∧ v = a3 (.s w) := by
  intro x h
  unfold lU at h
  split at h
  ·rename_i w hw
   simp only [Option.some.injEq] at h
   subst h
   refine ⟨w, ?_, rfl⟩
   have e := mG hw
   unfold cF
   simp only [Bool.false_eq_true, if_false]
   cases x with
   | tmp t =>
    simp only
    unfold qS1 at hw
    simp only at hw
    split at hw
    ·rename_i hs
     rw [hs]
     simp only [e, Option.bind_some, ap, ge, List.isEmpty_nil, if_true]
    ·cases hw
    ·cases hw
   | const c => simp only [e, Option.bind_some, ap, ge, List.isEmpty_nil, if_true]
   | global n => simp [qS1] at hw
   | func n => simp [qS1] at hw
  ·cases h
 cases op with
 | move x => obtain ⟨w, h1, h2⟩ := mv x h; exact ⟨rfl, w, by simp only [kC, ho]; exact h1, h2⟩
 | assign x => obtain ⟨w, h1, h2⟩ := mv x h; exact ⟨rfl, w, by simp only [kC, ho]; exact h1, h2⟩
 | binOp b t x y ty =>
  refine ⟨rfl, ?_⟩
  have h : nU b t x y ty P s = some v := h
  unfold nU at h
  split at h
  ·rename_i bk hbk
   split at h
   ·rename_i u hu
    split at h
    ·rename_i w hw
     unfold nq at h
     split at h
     ·split at h
      ·rename_i k a
       split at h
       ·rename_i k' c
        split at h
        ·rename_i hk
         subst hk
         split at h
         ·rename_i r hr
          simp only [Option.some.injEq] at h
          subst h
          obtain ⟨e1, e2, e3, e4⟩ := mW hr
          refine ⟨.at (.k r), ?_, rfl⟩
          simp only [kC, ho, jk, hbk, az, kW hu, kW hw, Option.bind_some]
          have hf : mf (.bin b .int) [.k (.int k a), .k (.int k c)] = some r := by
           simp only [mf, List.mapM_cons, List.mapM_nil, fi, Option.pure_def, Option.bind_eq_bind, Option.bind_some, ag, fM]
           cases b <;> first | exact absurd rfl e2 | exact absurd rfl e3 | simpa using e1
          simp only [aM, hf, ge, List.isEmpty_nil, if_true]
          rfl
         ·cases h
        ·cases h
       ·cases h
      ·cases h
     ·cases h
    ·cases h
   ·cases h
  ·cases h
 | _ => cases h
theorem mV {c : Cfg} {call : aX} {ops : Array Oper} {base i : Nat} {o : Oper} {x : CS} {t : Nat} {v : SV} (h : kX c.P o x.s = some (t, v)) : o.dst = some t ∧ cN c call ops base i o x = some (jm v) := by
 unfold kX at h
 split at h
 ·cases h
 ·rename_i hg
  split at h
  ·cases h
  ·rename_i d hd
   split at h
   ·cases h
   ·rename_i hlt
    split at h
    ·rename_i w hw
     simp only [Option.some.injEq, Prod.mk.injEq] at h
     obtain ⟨rfl, rfl⟩ := h
     refine ⟨hd, ?_⟩
     obtain ⟨h1, s1, h2, h3⟩ := nn hw (fun _ => false) (fun _ => none) (base + i) o rfl
     have hlt' : d < x.s.sz := Nat.le_of_ble_eq_true hlt
     have hgd : af (am ops) x.s o = .go [] := by unfold af; rw [hg]
     have hdo : dK x.s o.dst = true := by rw [hd]; simpa [dK] using hlt'
     have hnf : nf c.P (fun _ => false) (fun _ => none) (am ops) false (base + i) o x.s = some (.fl [] .sil (fun _ => .s s1), {}) := by
      unfold nf
      simp only [hdo, hgd, Bool.not_true, Bool.false_eq_true, if_false]
      exact h2
     unfold cN
     rw [jw]
     simp only [h1, if_true, hnf, Option.bind_some, m0, h3]
     rfl
    ·cases h
def dd (ops : Array Oper) (tab : List (Nat × Nat)) : List (Nat × Oper) → List (Nat × Oper) → Bool
 | [], _ => true
 | (i, o) :: r, done => (done.all fun p => k3 tab p.1 i || Oper.apart ops p.2 o) && dd ops tab r ((i, o) :: done)
def gC (tab : List (Nat × Nat)) (i : Nat) (e : Ef) : List kz → Bool
 | [] => true
 | l :: r => (k3 tab l.i i || cL l.e e) && gC tab i e r
def RX.regQ (c : RX) (d : Bool) : List (Nat × Oper) → List kz → CS → G CS
 | [], _, x => .done x
 | (i, o) :: r, flog, x =>
  match kX c.P o x.s with
  | some p => match p with | (t, v) => RX.regQ c d r flog (x.appD (some t) ⟨some v, [], none⟩)
  | none =>
  match c.N i o x with
  | none => .fail (1000 + i)
  | some e =>
   if d && !gC c.tab i e flog then .fail (2000 + i)
   else G.mchk e.cs (e.body.bind fun u => if okU c.hi e u then RX.regQ c d r (if d then ⟨i, o, e⟩ :: flog else flog) (x.appD o.dst u) else .fail (3000 + i))
def cU (e : Ef) : Prop := e.rd = [] ∧ e.wr = [] ∧ e.lo = none
theorem gz {a b : Ef} (h : cU a ∨ cU b) : cL a b = true := by
 have d1 : ∀ l : List Nat, kE [] l = true := fun l => rfl
 have d2 : ∀ l : List Nat, kE l [] = true := fun l => by simp [kE]
 rcases h with ⟨h1, h2, h3⟩ | ⟨h1, h2, h3⟩
 ·unfold cL
  rw [h1, h2, h3]
  simp only [d1, Bool.and_self, Bool.true_and]
  cases b.lo <;> simp
 ·unfold cL
  rw [h1, h2, h3]
  simp only [d2, Bool.and_self, Bool.true_and]
  cases a.lo <;> simp
theorem fK {tab : List (Nat × Nat)} {i : Nat} {e : Ef} : ∀ {fl : List kz}, gC tab i e fl = true → ∀ l ∈ fl, k3 tab l.i i = true ∨ cL l.e e = true
 | [], _, l, h => by cases h
 | x :: r, h, l, hl => by
  simp only [gC, Bool.and_eq_true, Bool.or_eq_true] at h
  rcases List.mem_cons.1 hl with rfl | hl
  ·exact h.1
  ·exact fK h.2 l hl
theorem lW {ops : Array Oper} {tab : List (Nat × Nat)} {i : Nat} {o : Oper} {e : Ef} {log fl : List kz} {dn : List (Nat × Oper)} (hin : ∀ l ∈ log, l ∈ fl ∨ cU l.e) (hdn : ∀ l ∈ log, (l.i, l.o) ∈ dn)
  (hap : (dn.all fun p => k3 tab p.1 i || Oper.apart ops p.2 o) = true) (hf : cU e ∨ gC tab i e fl = true) : b0 ops tab i o e log = true := by
 unfold b0
 rw [List.all_eq_true]
 intro l hl
 have h1 := List.all_eq_true.1 hap (l.i, l.o) (hdn l hl)
 simp only [Bool.or_eq_true] at h1
 simp only [Bool.or_eq_true, Bool.and_eq_true]
 rcases h1 with h1 | h1
 ·exact .inl h1
 ·rcases hf with hf | hf
  ·exact .inr ⟨gz (.inr hf), h1⟩
  ·rcases hin l hl with h2 | h2
   ·rcases fK hf l h2 with h3 | h3
    ·exact .inl h3
    ·exact .inr ⟨h3, h1⟩
   ·exact .inr ⟨gz (.inl h2), h1⟩
theorem G.den_bind' {α β : Type} {P : β → Prop} {f : α → G β} : ∀ {g : G α}, g.den (fun a => (f a).den P) → (g.bind f).den P
 | .fail _, h => h
 | .done _, h => h
 | .box _, h => fun r => den_bind' (h r)
 | .chk _ _, h => ⟨h.1, den_bind' h.2⟩
 | .eql _ _ _, h => ⟨h.1, den_bind' h.2⟩
theorem G.den_mchk' {α : Type} {P : α → Prop} {c : List Ck} {g : G α} (h1 : AllCk c) (h2 : g.den P) : (G.mchk c g).den P := by
 cases c with
 | nil => exact h2
 | cons x r => exact ⟨h1, h2⟩
theorem RX.regQ_den {c : RX} (hq : ∀ i o x t v, kX c.P o x.s = some (t, v) → o.dst = some t ∧ c.N i o x = some (jm v)) {d : Bool} {K : CS → Prop} : ∀ {l dn : List (Nat × Oper)} {log fl : List kz} {x : CS},
  (d = true → dd c.ops c.tab l dn = true) → (∀ l ∈ log, l ∈ fl ∨ cU l.e) → (∀ l ∈ log, (l.i, l.o) ∈ dn) → (c.regQ d l fl x).den K → (c.reg d l log x).den K
 | [], _, _, _, _, _, _, _, h => h
 | (i, o) :: r, dn, log, fl, x, ha, hin, hdn, h => by
  simp only [RX.regQ] at h
  simp only [RX.reg]
  have hokl : ∀ e, (cU e ∨ (d && !gC c.tab i e fl) = false) → (d && !b0 c.ops c.tab i o e log) = false := by
   intro e he
   cases d with
   | false => rfl
   | true =>
    have h1 := ha rfl
    simp only [dd, Bool.and_eq_true] at h1
    have := lW (e := e) hin hdn h1.1 (he.imp id fun h => by simpa using h)
    simp [this]
  have ha' : d = true → dd c.ops c.tab r ((i, o) :: dn) = true := fun hd => by
   have h1 := ha hd
   simp only [dd, Bool.and_eq_true] at h1
   exact h1.2
  split at h
  ·rename_i p hqo
   obtain ⟨t, v⟩ := p
   obtain ⟨h1, h2⟩ := hq i o x t v hqo
   rw [h2]
   have hl := hokl (jm v) (.inl ⟨rfl, rfl, rfl⟩)
   have hok : okU c.hi (jm v) ⟨some v, [], none⟩ = true := rfl
   simp only [hl, Bool.false_eq_true, if_false]
   rw [show ∀ f : Upd → G CS, G.mchk (jm v).cs ((jm v).body.bind f) = f ⟨some v, [], none⟩ from fun f => rfl, if_pos hok, h1]
   refine RX.regQ_den hq ha' ?_ ?_ h
   ·intro y hy
    cases d with
    | false => simp only [Bool.false_eq_true, if_false] at hy; exact hin y hy
    | true =>
     simp only [if_true, List.mem_cons] at hy
     rcases hy with rfl | hy
     ·exact .inr ⟨rfl, rfl, rfl⟩
     ·exact hin y hy
   ·intro y hy
    cases d with
    | false => simp only [Bool.false_eq_true, if_false] at hy; exact List.mem_cons_of_mem _ (hdn y hy)
    | true =>
     simp only [if_true, List.mem_cons] at hy
     rcases hy with rfl | hy
     ·exact List.mem_cons_self
     ·exact List.mem_cons_of_mem _ (hdn y hy)
  ·split at h
   ·exact h.elim
   ·rename_i e he
    try rw [he]
    split at h
    ·exact h.elim
    ·rename_i hfl
     have hl := hokl e (.inr (by simpa using hfl))
     simp only [hl, Bool.false_eq_true, if_false]
     obtain ⟨h1, h2⟩ := G.den_mchk h
     refine G.den_mchk' h1 (G.den_bind' (G.den_mono (fun u hu => ?_) (G.den_bind h2)))
     split at hu
     ·rename_i hok
      simp only [hok, if_true]
      refine RX.regQ_den hq ha' ?_ ?_ hu
      ·intro y hy
       cases d with
       | false => simp only [Bool.false_eq_true, if_false] at hy ⊢; exact hin y hy
       | true =>
        simp only [if_true, List.mem_cons] at hy ⊢
        rcases hy with rfl | hy
        ·exact .inl (.inl rfl)
        ·exact (hin y hy).imp .inr id
      ·intro y hy
       cases d with
       | false => simp only [Bool.false_eq_true, if_false] at hy; exact List.mem_cons_of_mem _ (hdn y hy)
       | true =>
        simp only [if_true, List.mem_cons] at hy
        rcases hy with rfl | hy
        ·exact List.mem_cons_self
        ·exact List.mem_cons_of_mem _ (hdn y hy)
     ·exact hu.elim
def fR (P : Program) (N : NF1) (ops : Array Oper) (draw : Bool) (x : CS) : G CS :=
 let l := aQ 0 ops.toList
 let hi := x.s.next + ops.size
 let x' : CS := x.bump ops.size
 if draw then
  let l' := bU ops.size 0 l
  let tab := ba l' []
  if topo ops.size 0 l' && dd ops tab l' [] then RX.regQ ⟨P, ops, tab, hi, N ops x.s.next⟩ true l' [] x' else .fail 3000
 else RX.regQ ⟨P, ops, [], hi, N ops x.s.next⟩ false l [] x'
def NQ (P : Program) (N : NF1) : Prop := ∀ ops base i o x t v, kX P o x.s = some (t, v) → o.dst = some t ∧ N ops base i o x = some (jm v)
theorem ip {P : Program} {N : NF1} (hq : NQ P N) {ops : Array Oper} {draw : Bool} {x : CS} {K : CS → Prop} (h : (fR P N ops draw x).den K) : (dL P N ops draw x).den K := by
 unfold fR at h
 unfold dL
 cases draw with
 | true =>
  simp only [if_true] at h ⊢
  split at h
  ·rename_i ht
   simp only [Bool.and_eq_true] at ht
   rw [if_pos ht.1]
   exact RX.regQ_den (hq ops _) (fun _ => ht.2) (fun _ h => by cases h) (fun _ h => by cases h) h
  ·exact h.elim
 | false =>
  simp only [Bool.false_eq_true, if_false] at h ⊢
  exact RX.regQ_den (dn := []) (hq ops _) (fun h => by cases h) (fun _ h => by cases h) (fun _ h => by cases h) h
def a7 (P : Program) (N : NF1) (n : Nat) : Code → CS → G Out
 | .skip, x => .done (.nrm x)
 | .label _, x => .done (.nrm x)
 | .region _ ops draw, x => (fR P N ops draw x).bind fun x' => .done (.nrm x')
 | .seq a b, x => (a7 P N n a x).bind fun o => match o with
  | .nrm x' => a7 P N n b x'
  | o => .done o
 | .cond c a b, x => match qPl x.s c with
  | some v => (match v with
   | .bool t => (match t with | true => a7 P N n a x | false => a7 P N n b x)
   | _ => .fail 905)
  | none => match a5 x.s [] c with
  | some (.k (.bool true), _) => a7 P N n a x
  | some (.k (.bool false), _) => a7 P N n b x
  | _ => .fail 904
 | .block id b, x => (a7 P N n b x).bind fun o => match o with
  | .ext j x' => if j = id then .done (.nrm x') else .done (.ext j x')
  | o => .done o
 | .exit id, x => .done (.ext id x)
 | .ret, x => .done (.ret x)
 | .loop b, x => jA (a7 P N n b) n x
 | .scope b, x => a7 P N n b x
 | _, _ => .fail 907
theorem iW {f g : CS → G Out} (h : ∀ (x : CS) (K : Out → Prop), (f x).den K → (g x).den K) : ∀ (n : Nat) (x : CS) (K : Out → Prop), (jA f n x).den K → (jA g n x).den K
 | 0, _, _, hd => hd
 | n + 1, x, K, hd => by
  simp only [jA] at hd ⊢
  refine G.den_bind' (G.den_mono (fun o ho => ?_) (h _ _ (G.den_bind hd)))
  cases o with
  | nrm x' => exact iW h n x' K ho
  | ext j x' => exact ho
  | ret x' => exact ho
theorem jG {P : Program} {N : NF1} (hq : NQ P N) {n : Nat} : ∀ (c : Code) {x : CS} {K : Out → Prop}, (a7 P N n c x).den K → (b6 P N n c x).den K := by
 intro c
 induction c with
 | skip => intro x K h; exact h
 | label l => intro x K h; exact h
 | region id ops draw =>
  intro x K h
  exact G.den_bind' (ip hq (G.den_bind h))
 | seq c d ihc ihd =>
  intro x K h
  refine G.den_bind' (G.den_mono (fun o ho => ?_) (ihc (G.den_bind h)))
  cases o with
  | nrm x' => exact ihd ho
  | ext j x' => exact ho
  | ret x' => exact ho
 | cond c d e ihd ihe =>
  intro x K h
  simp only [a7] at h
  simp only [b6]
  split at h
  ·rename_i v hv
   rw [kW hv]
   split at h
   ·split at h
    ·exact ihd h
    ·exact ihe h
   ·exact h.elim
  ·split at h
   ·rename_i cs he; (try rw [he]); exact ihd h
   ·rename_i cs he; (try rw [he]); exact ihe h
   ·exact h.elim
 | block id b ih =>
  intro x K h
  exact G.den_bind' (ih (G.den_bind h))
 | scope b ih => intro x K h; exact ih h
 | exit id => intro x K h; exact h
 | ret => intro x K h; exact h
 | loop b ih =>
  intro x K h
  exact iW (fun x K h => ih h) n x K h
 | _ => intro x K h; exact h.elim
def mP (P : Program) (N : aX → NF1) (loops : Nat) : Nat → aX
 | 0, _, _, _, _, _ => .fail 700
 | k + 1, f, args, mem, next, h =>
  match P.funcs[f]? with
  | none => .fail 701
  | some fn => match fn.body with
   | none => .fail 702
   | some c =>
    if args.length ≤ fn.ntmps then
     (a7 P (N (mP P N loops k)) loops c (cv fn args mem next h)).bind fun o => match o with
      | .nrm x => lC P fn x
      | .ret x => lC P fn x
      | .ext _ _ => .fail 703
    else .fail 704
end
noncomputable section
variable {P : Program}
def lS (c : Cfg) (depth loops : Nat) : aX := mP c.P (cN c) loops depth
theorem oh (c : Cfg) (call : aX) : NQ c.P (cN c call) := fun _ _ _ _ _ _ _ h => mV h
structure RanQ (c : Cfg) (depth loops : Nat) (f : FuncId) : Prop where
 h : (lS c depth loops f [] [] 0 ⟨[], []⟩).den fun r => isT r = true
theorem RanQ.reckon {c : Cfg} {depth loops : Nat} {f : FuncId} (n N : Nat) (h : ∀ k : Nat → Nat, ((G.exN n (lS c depth loops f [] [] 0 ⟨[], []⟩) ((List.range N).map k)).x, (G.exN n (lS c depth loops f [] [] 0 ⟨[], []⟩) ((List.range N).map k)).fine isT) =
  ((G.exN n (lS c depth loops f [] [] 0 ⟨[], []⟩) ((List.range N).map k)).y, true)) : RanQ c depth loops f := by
 refine ⟨G.reckon (p := isT) (fun _ h => h) n N _ ?_⟩
 intro k
 have := h k
 rw [Prod.mk.injEq] at this
 exact this
end
noncomputable section
variable {P : Program}
abbrev SumF := FuncId → List S1 → List (Nat × Option Bx) → HS → Option (List Ck × SV)
def mO (P : Program) (N : aX → NF1) (loops : Nat) (sum : SumF) : Nat → aX
 | 0, _, _, _, _, _ => .fail 700
 | k + 1, f, args, mem, next, h =>
  match sum f args mem h with
  | some (cs, sv) => G.mchk cs (.done (sv, eF mem next h))
  | none =>
  match P.funcs[f]? with
  | none => .fail 701
  | some fn => match fn.body with
   | none => .fail 702
   | some c =>
    if args.length ≤ fn.ntmps then
     (a7 P (N (mO P N loops sum k)) loops c (cv fn args mem next h)).bind fun o => match o with
      | .nrm x => lC P fn x
      | .ret x => lC P fn x
      | .ext _ _ => .fail 703
    else .fail 704
def SumOk (P : Program) (ok : FuncId → Bool) (H : Heap) (sum : SumF) : Prop :=
 ∀ (f : FuncId) (args : List S1) (mem : List (Nat × Option Bx)) (h : HS) (cs : List Ck) (sv : SV), ok f = true → sum f args mem h = some (cs, sv) → AllCk cs → sv.ok ∧
  ∀ (F : Own) (w : World) (next : Nat), (∀ s ∈ args, s.ok) → mF F (eF mem next h) H w → Calls P f (args.map S1.den).toArray w fun e w' => ∃ v, e = .returned v ∧ sv.rel v ∧ mF F (eF mem next h) H w'
def lR (c : Cfg) (sum : SumF) (depth loops : Nat) : aX := mO c.P (cN c) loops sum depth
structure RanS (c : Cfg) (sum : SumF) (depth loops : Nat) (f : FuncId) : Prop where
 h : (lR c sum depth loops f [] [] 0 ⟨[], []⟩).den fun r => isT r = true
theorem RanS.reckon {c : Cfg} {sum : SumF} {depth loops : Nat} {f : FuncId} (n N : Nat) (h : ∀ k : Nat → Nat, ((G.exN n (lR c sum depth loops f [] [] 0 ⟨[], []⟩) ((List.range N).map k)).x, (G.exN n (lR c sum depth loops f [] [] 0 ⟨[], []⟩) ((List.range N).map k)).fine isT) =
  ((G.exN n (lR c sum depth loops f [] [] 0 ⟨[], []⟩) ((List.range N).map k)).y, true)) : RanS c sum depth loops f := by
 refine ⟨G.reckon (p := isT) (fun _ h => h) n N _ ?_⟩
 intro k
 have := h k
 rw [Prod.mk.injEq] at this
 exact this
theorem Models.less {w : World} {H H' : Heap} {O : Own} (h : Models w H' O) (hl : Heap.le H H') : Models w H O :=
 ⟨fun b o hb => h.pers b o (hl.1 b o hb), fun p hp => ⟨(h.own p hp).1, by
  cases e : H p.1 with
  | none => rfl
  | some o => have := hl.1 _ _ e; rw [(h.own p hp).2] at this; cases this⟩, h.nodup, h.env.trans hl.2⟩
end
noncomputable section
variable {P : Program}
abbrev SumG := FuncId → List S1 → List (Nat × Option Bx) → Nat → HS → Option (G (SV × CS))
def j6 (P : Program) (N : aX → NF1) (loops : Nat) (sum : SumG) : Nat → aX
 | 0, _, _, _, _, _ => .fail 700
 | k + 1, f, args, mem, next, h =>
  match sum f args mem next h with
  | some g => g
  | none =>
  match P.funcs[f]? with
  | none => .fail 701
  | some fn => match fn.body with
   | none => .fail 702
   | some c =>
    if args.length ≤ fn.ntmps then
     (a7 P (N (j6 P N loops sum k)) loops c (cv fn args mem next h)).bind fun o => match o with
      | .nrm x => lC P fn x
      | .ret x => lC P fn x
      | .ext _ _ => .fail 703
    else .fail 704
def SumOkG (P : Program) (ok : FuncId → Bool) (H : Heap) (sum : SumG) : Prop :=
 ∀ (f : FuncId) (args : List S1) (mem : List (Nat × Option Bx)) (next : Nat) (h : HS) (g : G (SV × CS)) (F : Own) (w : World) (K : SV × CS → Prop), ok f = true → sum f args mem next h = some g → g.den K → (∀ s ∈ args, s.ok) →
  mF F (eF mem next h) H w → Calls P f (args.map S1.den).toArray w fun e w' => ∃ v sv y, e = .returned v ∧ sv.rel v ∧ sv.ok ∧ K (sv, y) ∧ mF F y H w'
def SumF.toG (s : SumF) : SumG := fun f args mem next h => match s f args mem h with | some (cs, sv) => some (G.mchk cs (.done (sv, eF mem next h))) | none => none
theorem SumOk.toG {ok : FuncId → Bool} {H : Heap} {s : SumF} (hs : SumOk P ok H s) : SumOkG P ok H s.toG := by
 intro f args mem next h g F w K hokff hg hd hargs hmem
 unfold SumF.toG at hg
 split at hg
 ·rename_i cs sv hsum
  simp only [Option.some.injEq] at hg
  subst hg
  obtain ⟨hck, hk⟩ := G.den_mchk hd
  obtain ⟨h1, h2⟩ := hs f args mem h cs sv hokff hsum hck
  refine (h2 F w next hargs hmem).mono ?_
  rintro e w' ⟨v, rfl, hv, hm'⟩
  exact ⟨v, sv, _, rfl, hv, h1, hk, hm'⟩
 ·cases hg
def SumG.or (a b : SumG) : SumG := fun f args mem next h => match a f args mem next h with | some g => some g | none => b f args mem next h
theorem SumOkG.or {ok : FuncId → Bool} {H : Heap} {a b : SumG} (ha : SumOkG P ok H a) (hb : SumOkG P ok H b) : SumOkG P ok H (a.or b) := by
 intro f args mem next h g F w K hokff hg
 unfold SumG.or at hg
 split at hg
 ·rename_i g' hg'
  simp only [Option.some.injEq] at hg
  subst hg
  exact ha f args mem next h g' F w K hokff hg'
 ·exact hb f args mem next h g F w K hokff hg
theorem eB (hm : P.follows .mixedOrders = true) {ok : FuncId → Bool} {H : Heap} {N : aX → NF1} (hN : ∀ call, b8 P ok H call → NOk P (N call) H) (hq : ∀ call, NQ P (N call)) {loops : Nat} {sum : SumG} (hs : SumOkG P ok H sum) : ∀ k, b8 P ok H (j6 P N loops sum k)
 | 0 => by intro f args mem next h F w K _ hd; exact hd.elim
 | k + 1 => by
  intro f args mem next h F w K hokff hd hargs hmem
  simp only [j6] at hd
  split at hd
  ·rename_i g hsum
   exact hs f args mem next h g F w K hokff hsum hd hargs hmem
  split at hd
  ·exact hd.elim
  ·rename_i fn hf
   split at hd
   ·exact hd.elim
   ·rename_i c hc
    split at hd
    ·rename_i hle
     refine calls_of_wp hf hc ?_
     obtain ⟨L, O, hB, hcok, hM, hmod, hfr⟩ := hmem
     have key : ∀ t, (((cv fn args mem next h).s.tmps t).rel (((args.map S1.den).toArray ++ Array.replicate (fn.ntmps - (args.map S1.den).toArray.size) undef).getD t undef)) ∧ ((cv fn args mem next h).s.tmps t).ok := by
      intro t
      simp only [cv]
      rcases Nat.lt_or_ge t args.length with hlt | hge
      ·rw [List.getElem?_eq_getElem hlt]
       refine ⟨?_, hargs _ (List.getElem_mem hlt)⟩
       have : ((args.map S1.den).toArray ++ Array.replicate (fn.ntmps - (args.map S1.den).toArray.size) undef).getD t undef = args[t].den := by
        rw [Array.getD_eq_getD_getElem?, Array.getElem?_append_left (by simpa using hlt)]
        simp [hlt]
       rw [this]; exact bF rfl
      ·rw [List.getElem?_eq_none hge]
       refine ⟨?_, ga undef⟩
       have : ((args.map S1.den).toArray ++ Array.replicate (fn.ntmps - (args.map S1.den).toArray.size) undef).getD t undef = undef := by
        rw [Array.getD_eq_getD_getElem?, Array.getElem?_append_right (by simpa using hge)]
        rw [Array.getElem?_replicate]
        split <;> rfl
       rw [this]
       exact bF rfl
     have hCC : CC 0 F (cv fn args mem next h) H { tmps := (args.map S1.den).toArray ++ Array.replicate (fn.ntmps - (args.map S1.den).toArray.size) undef, defers := [] } w :=
      ⟨⟨O, hM, ⟨fun t => (key t).2, hcok⟩, rfl, by simp [cv]; omega, fun t => (key t).1, L, hB, hmod⟩, hfr, Nat.zero_le _⟩
     refine mr hm (hN _ (eB hm hN hq hs k)) c (jG (hq _) c (G.den_bind hd)) hCC ?_
     have back : ∀ x a' w', CC 0 F x H a' w' → (lC P fn x).den K → a'.defers = [] ∧ ∃ v, (results fn a'.tmps).run P w' = .ok v w' ∧
       ∃ v' sv y, Ending.returned v = .returned v' ∧ sv.rel v' ∧ sv.ok ∧ K (sv, y) ∧ mF F y H w' := by
      rintro x a' w' ⟨⟨O', hM', hC'⟩, hf', _⟩ hret
      unfold lC at hret
      split at hret
      ·exact hret.elim
      ·rename_i l hl
       obtain ⟨hck, hk⟩ := G.den_mchk hret
       obtain ⟨L', hB', hmod'⟩ := hC'.mm
       have hr := jU hC' hl hck
       refine ⟨hC'.df, od l, ?_, _, nm l, x, rfl, ?_, ?_, hk, L', O', hB', hC'.ok.2, hM', hmod', hf'⟩
       ·rw [kc, Sem.run_bind]
        rw [← Array.toArray_toList (xs := fn.results), List.mapM_toArray]
        simp only [Sem.run_map]
        rw [hr]
        rcases l with _ | ⟨v, _ | ⟨v', r⟩⟩ <;> simp [od]
       ·rcases l with _ | ⟨v, _ | ⟨v', r⟩⟩
        ·rfl
        ·exact bF rfl
        ·rfl
       ·have := iO hC'.ok hl
        rcases l with _ | ⟨v, _ | ⟨v', r⟩⟩
        ·exact this
        ·exact this v (by simp)
        ·exact this
     intro o a' w' hC' hk
     cases o with
     | nrm x => exact back x a' w' hC' hk
     | ret x => exact back x a' w' hC' hk
     | ext j x => exact hk.elim
    ·exact hd.elim
def eE (c : Cfg) (sum : SumG) (depth loops : Nat) : aX := j6 c.P (cN c) loops sum depth
theorem e7 {c : Cfg} (hm : c.P.follows .mixedOrders = true) (hokf : ∀ f, c.ok f = true → gm c.P f) {H : Heap} (hgl : GlobOk c.glob H) {sum : SumG} (hs : SumOkG c.P c.ok H sum) {depth loops : Nat} {f : FuncId} {args : List S1} (hf : c.ok f = true) (hargs : ∀ s ∈ args, s.ok)
  {K : SV × CS → Prop} (h : (eE c sum depth loops f args [] 0 ⟨[], []⟩).den K) :
  Triple c.P f (args.map S1.den) H [] fun v H' O' => H' = H ∧ O' = [] ∧ ∃ sv y, sv.rel v ∧ K (sv, y) := by
 intro w F hw
 have hsound := eB hm (fun call => nY hokf hgl call) (oh c) (loops := loops) hs depth
 have hmem : mF F (eF [] 0 ⟨[], []⟩) H w := ⟨[], [], Boxes.none, fun n b h => by simp [eF, aH] at h, rfl, by simpa using hw, fun _ _ => rfl⟩
 refine (hsound f args [] 0 ⟨[], []⟩ F w K hf h hargs hmem).mono ?_
 rintro e w' ⟨v, sv, y, rfl, hrel, _, hk, L, O, _, _, _, hmod, _⟩
 refine ⟨v, H, [], rfl, ⟨rfl, rfl, sv, y, hrel, hk⟩, Heap.le_refl H, ?_⟩
 refine hmod.sub ?_
 simp only [List.nil_append]
 exact (List.sublist_append_right O F).trans (List.sublist_append_right L _)
structure RanT (c : Cfg) (sum : SumG) (depth loops : Nat) (f : FuncId) : Prop where
 h : (eE c sum depth loops f [] [] 0 ⟨[], []⟩).den fun r => isT r = true
theorem RanT.reckon {c : Cfg} {sum : SumG} {depth loops : Nat} {f : FuncId} (n N : Nat) (h : ∀ k : Nat → Nat, ((G.exN n (eE c sum depth loops f [] [] 0 ⟨[], []⟩) ((List.range N).map k)).x, (G.exN n (eE c sum depth loops f [] [] 0 ⟨[], []⟩) ((List.range N).map k)).fine isT) =
  ((G.exN n (eE c sum depth loops f [] [] 0 ⟨[], []⟩) ((List.range N).map k)).y, true)) : RanT c sum depth loops f := by
 refine ⟨G.reckon (p := isT) (fun _ h => h) n N _ ?_⟩
 intro k
 have := h k
 rw [Prod.mk.injEq] at this
 exact this
theorem kQ {c : Cfg} (hm : c.P.follows .mixedOrders = true) (hokf : ∀ f, c.ok f = true → gm c.P f) {H : Heap} (hgl : GlobOk c.glob H) {sum : SumG} (hs : SumOkG c.P c.ok H sum) {depth loops : Nat} {f : FuncId} (hf : c.ok f = true)
  (h : RanT c sum depth loops f) (O : Own) : ob c.P f [] H O (.bool true) := by
 have := (e7 hm hokf hgl hs hf (args := []) (by simp) h.h).frame O
 refine this.mono ?_
 rintro v H' O' _ ⟨O'', rfl, rfl, rfl, sv, y, hrel, hk⟩
 refine ⟨?_, rfl⟩
 unfold isT at hk
 simp only at hk
 split at hk
 ·subst hk; exact hrel
 ·cases hk
end
end Go.Sx
