/- From the reading of the arguments to facts on memory; from a triple to the row's words. -/
import Derived.Test.YtafnobmndgjeaaaDoorSx27
import Derived.ProofKit
import Derived.LaidMore
import Derived.OpenShut
import Derived.Stop.Joined
import Derived.Carry
import Derived.ShutString
namespace Go.Sx
open Go Go.ChangeShapes Go.WideShapes

/-- All memory of a world, to be read only. -/
def heapOf (W : World) : Heap := ⟨fun b => W.heap[b]?, envOf W⟩
theorem heapOf_cell (W : World) (a : Addr) : (heapOf W).cell? a = W.cell? a := rfl
theorem models_heapOf (W : World) : Models W (heapOf W) [] := ⟨fun _ _ h => h, by simp, by simp, rfl⟩

/-- What a value of a type is, cell by cell: plain data; a slice with its rows in memory. -/
def Wf (P : Program) (H : Heap) : Nat → TypeId → List Value → Prop
  | 0, _, _ => False
  | n + 1, t, cs =>
    match P.underlying t with
    | some .bool => ∃ b, cs = [.bool b]
    | some (.int k) => ∃ x, cs = [.int k x] ∧ k.min ≤ x ∧ x ≤ k.max
    | some .string => ∃ l, cs = [Str l] ∧ l.length < 2 ^ 63
    | some (.slice e) => ∃ s rows, cs = [s] ∧ Sl H (P.cellsOf e) s rows ∧ ∀ r ∈ rows, Wf P H n e r
    | some (.struct fs) => cs.length = P.cellsOf t ∧ ∀ f ∈ fs.toList, Wf P H n f.type ((cs.drop f.offset).take (P.cellsOf f.type))
    | some (.array m e) => cs.length = P.cellsOf t ∧ ∀ i, i < m → Wf P H n e ((cs.drop (i * P.cellsOf e)).take (P.cellsOf e))
    | _ => True
def Plain (P : Program) (t : TypeId) : Bool :=
  match P.underlying t with
  | some .bool | some (.int _) | some .string | some (.slice _) | some (.struct _) | some (.array _ _) => true
  | _ => false

variable {H : Type} {enc : TypeId × Value → H} {P : Program} {w : World} {base : Nat} {sp : Nat → Bool} {held : Bool}

theorem mapM_length {α β : Type} {f : α → Option β} : ∀ {l : List α} {r : List β}, l.mapM f = some r → r.length = l.length
  | [], r, h => by simp at h; subst h; rfl
  | a :: l, r, h => by
    simp only [List.mapM_cons, Option.pure_def, Option.bind_eq_bind] at h
    cases ha : f a with
    | none => simp [ha] at h
    | some b =>
      simp only [ha, Option.bind_some] at h
      cases hl : l.mapM f with
      | none => simp [hl] at h
      | some bs => simp only [hl, Option.bind_some, Option.some.injEq] at h; subst h; simp [mapM_length hl]
theorem mapM_all {α β : Type} {f : α → Option β} : ∀ {l : List α} {r : List β}, l.mapM f = some r → ∀ (i : Nat) a, l[i]? = some a → ∃ b, r[i]? = some b ∧ f a = some b
  | [], r, h, i, a, hi => by simp at hi
  | x :: l, r, h, i, a, hi => by
    simp only [List.mapM_cons, Option.pure_def, Option.bind_eq_bind] at h
    cases ha : f x with
    | none => simp [ha] at h
    | some b =>
      simp only [ha, Option.bind_some] at h
      cases hl : l.mapM f with
      | none => simp [hl] at h
      | some bs =>
        simp only [hl, Option.bind_some, Option.some.injEq] at h; subst h
        cases i with
        | zero => simp at hi; subst hi; exact ⟨b, rfl, ha⟩
        | succ i => simpa using mapM_all hl i a (by simpa using hi)

/-- All cells of what reads are single ones. -/
theorem ones_of_iff {cs : List Value} (h : ∀ v ∈ cs, v.oneCell' = true) : Ones cs := by
  induction cs with
  | nil => trivial
  | cons v r ih => exact ⟨h v (by simp), ih fun u hu => h u (by simp [hu])⟩

/-- Structs and arrays, whose parts cover all cells. -/
def covers (parts : List (Nat × Nat)) (n : Nat) : Bool := (List.range n).all fun i => parts.any fun p => decide (p.1 ≤ i) && decide (i < p.1 + p.2)

theorem wf_slice {fuel : Nat} {t e : TypeId} {cs : List Value} {x : DataW H × List MemPlace} (ht : P.underlying t = some (.slice e)) (h : DataW.trod enc P w base sp held (fuel + 1) t cs = some x) :
    ∃ s rows, cs = [s] ∧ (∃ a cap, s = .slice a rows.length cap ∧ rows.length ≤ cap ∧ cap < 2 ^ 63 ∧ (rows ≠ [] → ∃ ad, a = some ad ∧
      ∀ (i : Nat) (r : List Value), rows[i]? = some r → (heapOf w).read (.pointer (some (ad.add (i * P.cellsOf e)))) (P.cellsOf e) = some r ∧ r.length = P.cellsOf e ∧ ∃ y, DataW.trod enc P w base sp held fuel e r = some y)) := by
  unfold DataW.trod at h
  rw [ht] at h
  split at h <;> try (first | (simp at h; done) | (rename_i e1 e2; cases e1; done) | (rename_i e1; cases e1; done))
  · exact ⟨_, [], rfl, none, 0, rfl, Nat.le_refl _, by omega, fun h => absurd rfl h⟩
  · rename_i a len cap he
    cases he
    simp only [] at h
    split at h
    · rename_i hc
      simp only [Option.bind_eq_some_iff] at h
      obtain ⟨elems, hel, _⟩ := h
      have hlen := mapM_length hel
      simp only [List.length_range] at hlen
      have hrow : ∀ i, i < len → ∃ r, (List.range (P.cellsOf e)).mapM (fun j => w.cell? ((a.add (i * P.cellsOf e)).add j)) = some r ∧ ∃ y, DataW.trod enc P w base sp held fuel e r = some y := by
        intro i hi
        obtain ⟨y, _, hy⟩ := mapM_all hel i i (by simp [hi])
        simp only [Option.bind_eq_some_iff, World.cells?] at hy
        obtain ⟨r, hr, hy⟩ := hy
        split at hr
        · exact ⟨r, hr, y, hy⟩
        · cases hr
      refine ⟨_, (List.range len).map fun i => ((List.range (P.cellsOf e)).mapM (fun j => w.cell? ((a.add (i * P.cellsOf e)).add j))).getD [], rfl, some a, cap, by simp, by simp; exact hc.2.1, ?_, fun _ => ⟨a, rfl, fun i r hr => ?_⟩⟩
      · have := hc.2.2; simp only [maxLen] at this; omega
      · rw [List.getElem?_map, Option.map_eq_some_iff] at hr
        obtain ⟨i', hi', rfl⟩ := hr
        have hlt : i < len := by have := (List.getElem?_eq_some_iff.1 hi').1; simpa using this
        have : i' = i := by rw [List.getElem?_range hlt] at hi'; simpa using hi'.symm
        subst this
        obtain ⟨r, hr, y, hy⟩ := hrow i' hlt
        rw [hr, Option.getD_some]
        exact ⟨hr, by have := mapM_length hr; simpa using this, y, hy⟩
    · cases h

/-- Every cell of a struct belongs to a field; the parts' types are the program's own. -/
def structsOk (P : Program) : Bool := (List.range P.types.size).all fun t =>
  match P.underlying t with
  | some (.struct fs) => covers (fs.toList.map fun f => (f.offset, P.cellsOf f.type)) (P.cellsOf t) && fs.toList.all fun f => decide (f.type < P.types.size)
  | some (.array n e) => decide (P.cellsOf t = n * P.cellsOf e) && decide (e < P.types.size)
  | some (.slice e) => decide (e < P.types.size)
  | _ => true
theorem structsOk_struct (h : structsOk P = true) {t : TypeId} (ht : t < P.types.size) {fs : Array Field} (hu : P.underlying t = some (.struct fs)) :
    covers (fs.toList.map fun f => (f.offset, P.cellsOf f.type)) (P.cellsOf t) = true ∧ ∀ f ∈ fs.toList, f.type < P.types.size := by
  simp only [structsOk, List.all_eq_true, List.mem_range] at h
  have := h t ht
  rw [hu] at this
  simp only [Bool.and_eq_true, List.all_eq_true, decide_eq_true_eq] at this
  exact this
theorem structsOk_array (h : structsOk P = true) {t : TypeId} (ht : t < P.types.size) {n : Nat} {e : TypeId} (hu : P.underlying t = some (.array n e)) : P.cellsOf t = n * P.cellsOf e ∧ e < P.types.size := by
  simp only [structsOk, List.all_eq_true, List.mem_range] at h
  have := h t ht
  rw [hu] at this
  simpa using this
theorem structsOk_slice (h : structsOk P = true) {t : TypeId} (ht : t < P.types.size) {e : TypeId} (hu : P.underlying t = some (.slice e)) : e < P.types.size := by
  simp only [structsOk, List.all_eq_true, List.mem_range] at h
  have := h t ht
  rw [hu] at this
  simpa using this
theorem ones_mem {cs : List Value} (h : Ones cs) : ∀ v ∈ cs, v.oneCell' = true := by
  induction cs with
  | nil => simp
  | cons v r ih => intro u hu; rcases List.mem_cons.1 hu with rfl | hu; exact h.1; exact ih h.2 u hu
theorem trod_ones (hsk : structsOk P = true) : ∀ {fuel : Nat} {t : TypeId} {cs : List Value} {x : DataW H × List MemPlace}, t < P.types.size → DataW.trod enc P w base sp held fuel t cs = some x → Ones cs
  | 0, t, cs, x, _, h => by simp [DataW.trod] at h
  | fuel + 1, t, cs, x, htl, h => by
    cases hu : P.underlying t with
    | none => unfold DataW.trod at h; rw [hu] at h; simp at h
    | some d =>
      by_cases hS : ∃ fs, d = .struct fs
      · obtain ⟨fs, rfl⟩ := hS
        obtain ⟨xs, n, hn, rfl, hl, hlen, hf⟩ := DataW.trod_struct hu h
        cases hn
        refine ones_of_iff fun v hv => ?_
        obtain ⟨i, hi, rfl⟩ := List.getElem_of_mem hv
        have hc := (structsOk_struct hsk htl hu).1
        have hft := (structsOk_struct hsk htl hu).2
        simp only [covers, List.all_eq_true, List.mem_range] at hc
        have := hc i (by omega)
        simp only [List.any_map, List.any_eq_true, Function.comp, Bool.and_eq_true, decide_eq_true_eq] at this
        obtain ⟨f, hfm, h1, h2⟩ := this
        obtain ⟨j, hj, rfl⟩ := List.getElem_of_mem hfm
        have hj' : fs[j]? = some fs.toList[j] := by simp at hj ⊢
        have hx := hf j _ hj'
        have hjx : j < xs.length := by rw [hlen]; simpa using hj
        rw [List.getElem?_eq_getElem hjx] at hx
        have ho := trod_ones hsk (hft _ (List.getElem_mem hj)) hx
        refine ones_mem ho _ ?_
        refine List.mem_iff_getElem?.2 ⟨i - fs.toList[j].offset, ?_⟩
        rw [List.getElem?_take, if_pos (by omega), List.getElem?_drop, show fs.toList[j].offset + (i - fs.toList[j].offset) = i by omega, List.getElem?_eq_getElem hi]
      · by_cases hA : ∃ n e, d = .array n e
        · obtain ⟨m, e, rfl⟩ := hA
          obtain ⟨xs, n, hn, rfl, hl, hlen, hf⟩ := DataW.trod_array hu h
          cases hn
          refine ones_of_iff fun v hv => ?_
          obtain ⟨i, hi, rfl⟩ := List.getElem_of_mem hv
          obtain ⟨hsz, het⟩ := structsOk_array hsk htl hu
          have hm : i < m * P.cellsOf e := by omega
          have he : 0 < P.cellsOf e := by
            rcases Nat.eq_zero_or_pos (P.cellsOf e) with h0 | h0
            · rw [h0] at hm; simp at hm
            · exact h0
          have hq : i / P.cellsOf e < m := (Nat.div_lt_iff_lt_mul he).2 hm
          have hx := hf (i / P.cellsOf e) hq
          rw [List.getElem?_eq_getElem (by omega)] at hx
          have ho := trod_ones hsk het hx
          refine ones_mem ho _ ?_
          have hdm : P.cellsOf e * (i / P.cellsOf e) + i % P.cellsOf e = i := Nat.div_add_mod i _
          refine List.mem_iff_getElem?.2 ⟨i % P.cellsOf e, ?_⟩
          rw [List.getElem?_take, if_pos (Nat.mod_lt _ he), List.getElem?_drop, Nat.mul_comm, hdm, List.getElem?_eq_getElem hi]
        · unfold DataW.trod at h
          rw [hu] at h
          split at h
          all_goals first
            | exact ⟨rfl, trivial⟩
            | (exact absurd ⟨_, Option.some.inj ‹_›⟩ hS)
            | (exact absurd ⟨_, _, Option.some.inj ‹_›⟩ hA)
            | (simp at h; done)
theorem wf_of_trod (hsk : structsOk P = true) : ∀ {fuel : Nat} {t : TypeId} {cs : List Value} {x : DataW H × List MemPlace}, t < P.types.size → DataW.trod enc P w base sp held fuel t cs = some x → Wf P (heapOf w) fuel t cs
  | 0, t, cs, x, _, h => by simp [DataW.trod] at h
  | fuel + 1, t, cs, x, htl, h => by
    unfold Wf
    split
    · rename_i hu
      unfold DataW.trod at h
      rw [hu] at h
      split at h <;> first | (simp at h; done) | (rename_i e1; cases e1; done) | skip
      exact ⟨_, rfl⟩
    · rename_i k hu
      obtain ⟨n, rfl, _, hw⟩ := DataW.trod_int hu h
      simp only [Lit.wf, Bool.and_eq_true, decide_eq_true_eq] at hw
      exact ⟨n, rfl, hw.1, hw.2⟩
    · rename_i hu
      obtain ⟨s, rfl, _, hs⟩ := DataW.trod_string hu h
      refine ⟨s.data.toList, by rw [str_of], ?_⟩
      have : s.data.toList.length = s.size := rfl
      simp only [maxLen] at hs; omega
    · rename_i e hu
      obtain ⟨s, rows, rfl, a, cap, rfl, h1, h2, h3⟩ := wf_slice hu h
      refine ⟨_, rows, rfl, ⟨a, cap, rfl, h1, h2, fun hn => ?_⟩, fun r hr => ?_⟩
      · obtain ⟨ad, e1, hA⟩ := h3 hn
        refine ⟨ad, e1, fun i r hr => ?_⟩
        obtain ⟨k1, k2, y, hy⟩ := hA i r hr
        exact ⟨k1, k2, trod_ones hsk (structsOk_slice hsk htl hu) hy⟩
      · obtain ⟨i, hi⟩ := List.mem_iff_getElem?.1 hr
        obtain ⟨ad, e1, hA⟩ := h3 (by intro e; rw [e] at hr; simp at hr)
        obtain ⟨_, _, y, hy⟩ := hA i r hi
        exact wf_of_trod hsk (structsOk_slice hsk htl hu) hy
    · rename_i fs hu
      obtain ⟨xs, n, hn, rfl, hl, hlen, hf⟩ := DataW.trod_struct hu h
      cases hn
      refine ⟨hl, fun f hfm => ?_⟩
      obtain ⟨j, hj, rfl⟩ := List.getElem_of_mem hfm
      have hj' : fs[j]? = some fs.toList[j] := by simp at hj ⊢
      have hx := hf j _ hj'
      have hjx : j < xs.length := by rw [hlen]; simpa using hj
      rw [List.getElem?_eq_getElem hjx] at hx
      exact wf_of_trod hsk ((structsOk_struct hsk htl hu).2 _ (List.getElem_mem hj)) hx
    · rename_i m e hu
      obtain ⟨xs, n, hn, rfl, hl, hlen, hf⟩ := DataW.trod_array hu h
      cases hn
      refine ⟨hl, fun i hi => ?_⟩
      have hx := hf i hi
      rw [List.getElem?_eq_getElem (by omega)] at hx
      exact wf_of_trod hsk (structsOk_array hsk htl hu).2 hx
    · trivial

/-- What a call leaves alone: all old blocks; the world outside. -/
def Kept (W W' : World) : Prop := envOf W' = envOf W ∧ ∀ (b : Nat) (o : Obj), W.heap[b]? = some o → W'.heap[b]? = some o
theorem Kept.keptBut {W W' : World} (h : Kept W W') (may : MemPlace → Prop) : W.keptBut W' may := by
  obtain ⟨h1, h2⟩ := h
  simp only [envOf, Prod.mk.injEq] at h1
  refine ⟨h1.1, h1.2.2, fun i hi => ?_⟩
  have e1 : W.heap[i]? = some W.heap[i] := Array.getElem?_eq_getElem hi
  have e2 := h2 i _ e1
  rw [e1, e2]
  cases W.heap[i] with
  | cells c t fr => exact ⟨rfl, rfl, rfl, fun _ _ => rfl⟩
  | map es clock => exact .inr ⟨rfl, rfl⟩
  | _ => rfl
theorem Kept.same {W W' : World} (h : Kept W W') {p : MemPlace} (hp : p.block < W.heap.size) : W.sameAt W' p := by
  have e2 := h.2 p.block _ (Array.getElem?_eq_getElem hp)
  rw [← Array.getElem?_eq_getElem hp] at e2
  cases p with
  | cell b off => simp only [MemPlace.block] at e2; simp only [World.sameAt, World.cell?, e2]
  | map b => exact e2
theorem Kept.trodAll {W W' : World} (h : Kept W W') (hl : laidOutB P = true) {B : Nat} : ∀ {ts : List TypeId} {vs : List Value} {ds : List (DataW H)} {ps : List MemPlace}, (∀ t ∈ ts, P.readableRec t = true ∧ t < P.types.size) →
    DataW.TrodAll enc P W 0 (fun _ => true) true ts vs ds ps → (∀ p ∈ ps, p.block < W.heap.size) → DataW.TrodAll enc P W' 0 (fun b => decide (b < W.heap.size)) true ts vs ds ps
  | [], [], [], _, _, h', _ => h'
  | _ :: _, _ :: _, _ :: _, _, ht, ⟨p, q, h1, h2, e⟩, hlt => by
    subst e
    refine ⟨p, q, ?_, h.trodAll hl (B := B) (fun t hm => ht t (by simp [hm])) h2 (fun x hx => hlt x (by simp [hx])), rfl⟩
    exact WideElems.Trod_stays hl (ht _ (by simp)).1 (ht _ (by simp)).2 h1 (fun x hx => h.same (hlt x (by simp [hx]))) (fun x hx => by simpa using hlt x (by simp [hx]))
  | [], _ :: _, _, _, _, h', _ => h'.elim
  | [], [], _ :: _, _, _, h', _ => h'.elim
  | _ :: _, [], _, _, _, h', _ => h'.elim
  | _ :: _, _ :: _, [], _, _, h', _ => h'.elim

/-- A law whose triple is true, in the row's words. -/
theorem law_calls {f : FuncId} {fn : Func} {s : ChangeSpec} {W : World} {args : Array Value} {ds : List (DataW H)} {before : List MemPlace} {tb : TypeId}
    (hT : Triple P f args.toList (heapOf W) [] fun v _ O' => v = .bool true ∧ O' = [])
    (hW : DataW.Whole enc P fn.params.toList s.vars false W args.toList ds [] before) (hv : s.vars = []) (hs : s.fn H ds = { results := [.lit (.bool true)], args := ds })
    (hrt : fn.resultTypes = #[tb]) (htb : P.underlying tb = some .bool) (hl : laidOutB P = true) (hts : ∀ t ∈ fn.params.toList, P.readableRec t = true ∧ t < P.types.size) :
    Calls P f args W fun e W' => ∃ v, e = .returned v ∧ s.post enc P fn false true false false W args v W' := by
  have hc := hT W [] (by simpa using models_heapOf W)
  refine hc.mono ?_
  rintro e W' ⟨v, H', O', rfl, ⟨rfl, rfl⟩, hle, hm⟩
  refine ⟨_, rfl, ?_⟩
  have hk : Kept W W' := ⟨by rw [hm.env, hle.2]; rfl, fun b o hb => hm.pers b o (hle.1 b o hb)⟩
  have hW' := hW
  obtain ⟨p, q, h1, h2, h3, h4, h5⟩ := hW
  rw [hv] at h2
  have hq : q = [] := h2
  subst hq
  subst h3
  have hlt : ∀ x ∈ p, x.block < W.heap.size := fun x hx => hW'.lt x (by simp [hx])
  refine ⟨ds, [], p ++ [], [], p, [], hW', ?_, ?_, ?_, hk.keptBut _, fun h => by cases h⟩
  · rw [List.append_nil, hs, hrt]
    exact trodAll_mk1 (RowKit.shut_bool htb true)
  · rw [List.append_nil, hs]
    exact hk.trodAll hl (B := 0) hts h1 hlt
  · rw [List.append_nil, hs, hv]; rfl

/-- A listed table of strings. -/
theorem arr_of_laid {fuel : Nat} {t e : TypeId} {n b : Nat} {cs : Array Value} {l : List (List UInt8)} {ps : List MemPlace} (ht : P.underlying t = some (.array n e)) (he : P.underlying e = some .string) (hc : P.cellsOf e = 1)
    (hn : l.length = n) (hd : DataW.trod enc P w base sp held fuel t cs.toList = some (.agg (l.map fun s => .lit (.string s)), ps)) (hv : ∀ i : Nat, w.cell? ⟨b, i, none⟩ = cs[i]?) : Arr (heapOf w) 1 ⟨b, 0, none⟩ (l.map fun a => [Str a]) := by
  obtain ⟨xs, m, _, hx, hlen, hxl, hel⟩ := DataW.trod_array ht hd
  simp only [Prod.mk.injEq, DataW.agg.injEq] at hx
  intro i r hr
  rw [List.getElem?_map, Option.map_eq_some_iff] at hr
  obtain ⟨s, hs, rfl⟩ := hr
  have hi : i < n := by rw [← hn]; exact (List.getElem?_eq_some_iff.1 hs).1
  have hix : i < xs.length := by omega
  have h1 := hel i hi
  rw [List.getElem?_eq_getElem hix, hc, Nat.mul_one] at h1
  obtain ⟨u, hu, hux, _⟩ := DataW.trod_string he h1
  have hsu : s = u.data.toList := by
    have := congrArg (fun l => l[i]?) hx.1
    simp only [List.getElem?_map, hs, List.getElem?_eq_getElem hix, Option.map_some, Option.some.injEq, hux, DataW.lit.injEq, Lit.string.injEq] at this
    exact this
  have hcell : cs[i]? = some (Str s) := by
    have := congrArg (fun l => l[0]?) hu
    simp only [List.getElem?_take, List.getElem?_drop, Nat.add_zero] at this
    simp only [Nat.lt_add_one, if_true, Array.getElem?_toList, List.getElem?_cons_zero] at this
    rw [this, hsu, ← str_of]
  refine ⟨?_, rfl, rfl, trivial⟩
  show (List.range 1).mapM (fun j => (heapOf w).cell? (((⟨b, 0, none⟩ : Addr).add (i * 1)).add j)) = _
  rw [add_none, Nat.zero_add, Nat.mul_one]
  have h0 : (heapOf w).cell? ((⟨b, i, none⟩ : Addr).add 0) = some (Str s) := by
    rw [add_none, Nat.add_zero, heapOf_cell, hv i, hcell]
  simp [List.range_succ, h0]
theorem okWide_arr {n : Nat} {e t : TypeId} {r : Reach} {v : Value} (ht : P.underlying t = some (.array n e)) (h : Value.okWide P w r base t v) : ∃ cs, v = .agg cs ∧ cs.size = P.cellsOf t := by
  simp only [Value.okWide, ht] at h
  obtain ⟨cs, h1, h2, _⟩ := h
  exact ⟨cs, h1, h2⟩
/-- A struct's cells, as they read. -/
theorem agg_wf {t : TypeId} {fs : Array Field} {r : Reach} {v : Value} {d : DataW H} {p : List MemPlace} (hsk : structsOk P = true) (htl : t < P.types.size) (ht : P.underlying t = some (.struct fs)) (hv : Value.okWide P w r base t v) (h : DataW.Trod enc P w 0 sp held t v d p) :
    ∃ cs fuel, v = .agg cs.toArray ∧ cs.length = P.cellsOf t ∧ Ones cs ∧ Wf P (heapOf w) fuel t cs := by
  obtain ⟨cs, rfl, hs⟩ := okWide_struct ht hv
  obtain ⟨fuel, hf⟩ := h
  exact ⟨cs.toList, fuel, by simp, by simpa using hs, trod_ones hsk htl hf, wf_of_trod hsk htl hf⟩
end Go.Sx
