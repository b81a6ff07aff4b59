/- My framework, part 3: a function's code is reckoned to a tree; what the tree says, the function does. Generic: no program in sight. -/
import Derived.Deep.AppendSrc
import Derived.Laws.BytesArg
import Derived.Laws.IdiomStrings
import Derived.Test.YtjaegdkkiefchaaGreatDoorFw2
/- Operations with a lemma of their own are sound in runs of known values: the frame, append. Generic. -/
namespace Go.Sx
open Go
variable {P : Program}
/-- The state behind an operation that puts a value, boxes, maps. -/
theorem cc_step {hi : Nat} {F : Own} {x : CS} {H : Heap} {O : Own} {a : Act} {w w' : World} {dst : Option Tmp} {v : Value} {sv : SV} {u : Upd} {nx : Nat} {h' : HS} {L' O' : Own}
  (hc : Conc F x.s H O a w) (hd : ∀ d, dst = some d → d < x.s.sz) (hrel : sv.rel v) (hsok : sv.ok) (hv : dst = none ∨ u.val = some (nrmSV sv)) (hu : u.hv = some (nx, h'))
  (hok : ∀ n b, (x.app dst u).s.mem n = some b → ∀ a, a ∈ b.cs → a.ok) (hB : Boxes (x.app dst u).s.mem L') (hM : MapsR h'.ms O') (hm : Models w' H (L' ++ (O' ++ F)))
  (hf : ∀ n, nx ≤ n → (x.app dst u).s.mem n = none) (hn : hi ≤ nx) : CC hi F (x.app dst u) H (a.put dst v) w' := by
 have hnx : (x.app dst u).s.next = nx := by simp only [CS.app, hu]
 have hhx : (x.app dst u).h = h' := by simp only [CS.app, hu]
 refine ⟨⟨O', by rw [hhx]; exact hM, ?_⟩, fun n h => hf n (by rw [hnx] at h; exact h), by rw [hnx]; exact hn⟩
 have hput : Conc F (x.s.set dst sv) H O (a.put dst v) w := hc.put hd hrel hsok
 have htm : ∀ t, ((x.app dst u).s.tmps t) = (x.s.set dst sv).tmps t ∨ ((x.app dst u).s.tmps t) = nrmSV ((x.s.set dst sv).tmps t) := by
  intro t
  cases dst with
  | none => left; simp [CS.app, putT, SS.set]
  | some d =>
   have hv1 : u.val = some (nrmSV sv) := hv.resolve_left (by simp)
   by_cases e : t = d
   ·right; subst e; simp [CS.app, SS.set, hv1, putT_eq]
   ·left; simp [CS.app, putT, SS.set, e, hv1]
 refine ⟨⟨fun t => ?_, hok⟩, hput.df, ?_, fun t => ?_, L', hB, hm⟩
 ·rcases htm t with e | e
  ·rw [e]; exact hput.ok.1 t
  ·rw [e]; exact nrmSV_ok (hput.ok.1 t)
 ·rw [hput.sz]; cases dst <;> rfl
 ·rcases htm t with e | e
  ·rw [e]; exact hput.tm t
  ·rw [e]; exact nrmSV_rel (hput.tm t)
/-- Memory stays as it is. -/
theorem cc_same {hi : Nat} {F : Own} {x : CS} {H : Heap} {O : Own} {a : Act} {w : World} {dst : Option Tmp} {v : Value} {sv : SV} (hM : MapsR x.h.ms O)
  (hc : Conc F x.s H O a w) (hd : ∀ d, dst = some d → d < x.s.sz) (hrel : sv.rel v) (hsok : sv.ok) (hf : ∀ n, x.s.next ≤ n → x.s.mem n = none) (hn : hi ≤ x.s.next) :
  CC hi F (x.app dst ⟨some (nrmSV sv), [], some (x.s.next, x.h)⟩) H (a.put dst v) w := by
 obtain ⟨L, hB, hm⟩ := hc.mm
 exact cc_step (u := ⟨some (nrmSV sv), [], some (x.s.next, x.h)⟩) hc hd hrel hsok (.inr rfl) rfl hc.ok.2 hB hM hm hf hn
theorem wp1_exec {ops : Array Oper} {o : Oper} {s : SS} {F : Own} {H : Heap} {O : Own} {a : Act} {w w' : World} {v : Value} {K : Act → World → Prop} {Q : Exit → Act → World → Prop}
  (hc : Conc F s H O a w) (hg : guardOf (tgtOf ops) s o = .go []) (hrun : (execOp a.eval o).run P w = .ok (.value v) w') (hk : K (a.put o.dst v) w') : wp1 P ops Q o K a w := by
 unfold wp1
 rw [if_pos ((guard_go hc hg).2 trivial)]
 refine .inl ?_
 unfold Oper.wp
 rw [hrun, Oper.upon_value]
 exact hk
theorem wp1_skip {ops : Array Oper} {o : Oper} {s : SS} {F : Own} {H : Heap} {O : Own} {a : Act} {w w' : World} {K : Act → World → Prop} {Q : Exit → Act → World → Prop}
  (hc : Conc F s H O a w) (hg : guardOf (tgtOf ops) s o = .go []) (hrun : (execOp a.eval o).run P w = .ok .skip w') (hk : K (a.put o.dst undef) w') : wp1 P ops Q o K a w := by
 unfold wp1
 rw [if_pos ((guard_go hc hg).2 trivial)]
 refine .inl ?_
 unfold Oper.wp
 rw [hrun, Oper.upon_skip]
 exact hk
/-- A block of the boxes with new cells. -/
theorem models_row {w : World} {H : Heap} {r : Nat} {vs vs' : List Value} {T : TypeId} {O : Own} (hm : Models w H ((r, .cells vs.toArray T (0, 0)) :: O)) : Models (w.setRow r vs'.toArray) H ((r, .cells vs'.toArray T (0, 0)) :: O) := by
 have hr := (hm.own (r, .cells vs.toArray T (0, 0)) (by simp)).1
 refine hm.update (fun b hb => ?_) (setRow_heap w r _ _ _ _ hr) rfl
 simp only [World.setRow, Array.getElem?_modify]
 rw [if_neg (fun e => hb e.symm)]
theorem models_alloc {w : World} {H : Heap} {O : Own} (hm : Models w H O) (cs : Array Value) (e : TypeId) : Models (w.drew.alloc (.cells cs e)) H ((w.heap.size, .cells cs e (0, 0)) :: O) := by
 have h1 : Models w.drew H O := hm.same rfl rfl
 exact (h1.push (.cells cs e (0, 0)))
theorem fitK_spec {l : List At} (h : l.all fitK = true) : l.all At.known = true ∧ ∀ a ∈ l, a.fit = true := by
 rw [List.all_eq_true] at h
 refine ⟨List.all_eq_true.2 fun a ha => ?_, fun a ha => ?_⟩
 ·have := h a ha
  simp only [fitK, Bool.and_eq_true] at this
  exact this.1
 ·have := h a ha
  simp only [fitK, Bool.and_eq_true] at this
  exact this.2
/-- What a box's cells hold. -/
theorem box_seg {F : Own} {s : SS} {H : Heap} {O : Own} {a : Act} {w : World} (hc : Conc F s H O a w) {n : Nat} {b : Bx} (hb : s.mem n = some b) {off m : Nat} (hl : ((b.cs.drop off).take m).length = m) (hk : ((b.cs.drop off).take m).all fitK = true) :
  (∀ j v, (((b.cs.drop off).take m).map At.den)[j]? = some v → w.cell? ((⟨b.r, off, none⟩ : Addr).add j) = some v) ∧ ∀ v ∈ ((b.cs.drop off).take m).map At.den, v.oneCell' = true := by
 obtain ⟨vs, hv, hr⟩ := conc_box hc hb
 obtain ⟨h1, h2⟩ := fitK_spec hk
 have e := CellsRel.known ((hv.drop off).take m) h1
 refine ⟨fun j v hj => ?_, fun v hv => ?_⟩
 ·rw [← e] at hj
  exact cells_of_row hr off j v hj
 ·obtain ⟨a', ha, rfl⟩ := List.mem_map.1 hv
  exact At.fit_one (h2 a' ha) (hc.ok.2 n b hb a' (List.mem_of_mem_drop (List.mem_of_mem_take ha)))
theorem lit_den {a : At} {v : Value} (h : lit a = some v) : a.den = v := by
 cases a <;> simp [lit] at h <;> subst h <;> rfl
/-- What is appended. -/
theorem srcOf_src {F : Own} {x : CS} {H : Heap} {O : Own} {a : Act} {w : World} (hc : Conc F x.s H O a w) {t2 e' : TypeId} (ht2 : P.underlying t2 = some (.slice e')) {size : Nat} {ya : At} {news : List At} {m : Nat} {ck : List Ck} {rd : List Nat}
  (h : srcOf x size ya = some (news, m, ck, rd)) (hck : AllCk ck) : Src P size t2 ya.den m (news.map At.den) w ∧ news.length = m * size ∧ news.all fitK = true ∧ ∀ a ∈ news, a.ok := by
 unfold srcOf at h
 split at h
 ·rename_i n r off len cap
  split at h
  ·rename_i b hb
   simp only [] at h
   split at h
   ·rename_i hcond
    simp only [Bool.and_eq_true, beq_iff_eq] at hcond
    simp only [Option.some.injEq, Prod.mk.injEq] at h
    obtain ⟨rfl, rfl, rfl, rfl⟩ := h
    have hr : r = b.r := hck.1
    subst hr
    obtain ⟨h1, h2⟩ := box_seg hc hb hcond.1 hcond.2
    refine ⟨?_, hcond.1, hcond.2, fun a' ha => hc.ok.2 n b hb a' (List.mem_of_mem_drop (List.mem_of_mem_take ha))⟩
    exact Src.ofSlice w ht2 ⟨b.r, off, none⟩ len cap _ (by rw [List.length_map]; exact hcond.1) h1 h2
   ·simp at h
  ·simp at h
 ·rename_i va vc
  simp only [Option.some.injEq, Prod.mk.injEq] at h
  obtain ⟨rfl, rfl, rfl, rfl⟩ := h
  refine ⟨?_, by simp, rfl, by simp⟩
  cases va with
  | none => exact Src.ofNil w ht2 vc
  | some ad => exact Src.ofSlice w ht2 ad 0 vc [] (by simp) (by simp) (by simp)
 ·rename_i va vc
  simp only [Option.some.injEq, Prod.mk.injEq] at h
  obtain ⟨rfl, rfl, rfl, rfl⟩ := h
  refine ⟨?_, by simp, rfl, by simp⟩
  cases va with
  | none => exact Src.ofNil w ht2 vc
  | some ad => exact Src.ofSlice w ht2 ad 0 vc [] (by simp) (by simp) (by simp)
 ·simp at h
theorem srcT_src {F : Own} {x : CS} {H : Heap} {O : Own} {a : Act} {w : World} (hc : Conc F x.s H O a w) {t2 : TypeId} {size : Nat} {ya : At} {news : List At} {m : Nat} {ck : List Ck} {rd : List Nat}
  (h : srcT P x size t2 ya = some (news, m, ck, rd)) (hck : AllCk ck) : Src P size t2 ya.den m (news.map At.den) w ∧ news.length = m * size ∧ news.all fitK = true ∧ ∀ a ∈ news, a.ok := by
 unfold srcT at h
 split at h
 ·rename_i e' ht; exact srcOf_src hc ht h hck
 ·rename_i ht
  split at h
  ·rename_i s hl
   split at h
   ·rename_i hs1
    subst hs1
    simp only [Option.some.injEq, Prod.mk.injEq] at h
    obtain ⟨rfl, rfl, rfl, rfl⟩ := h
    rw [lit_den hl]
    have e : ((byteCells s).map At.k).map At.den = byteCells s := by simp [Function.comp_def, At.den]
    refine ⟨by rw [e]; exact Src.ofString w ht s, by rw [List.length_map, byteCells_length, Nat.mul_one], ?_, ?_⟩
    ·rw [List.all_eq_true]
     intro a ha
     obtain ⟨v, hv, rfl⟩ := List.mem_map.1 ha
     obtain ⟨u, _, rfl⟩ := List.mem_map.1 hv
     rfl
    ·intro a ha
     obtain ⟨v, hv, rfl⟩ := List.mem_map.1 ha
     trivial
   ·simp at h
  ·simp at h
 ·simp at h
/-- append into room of an own block. -/
theorem run_append_in {t tx ty e : TypeId} {i : TypeInfo} (ht : P.underlying t = some (.slice e)) (hi : P.info? e = some i) {w : World} {r off len cap : Nat} {vs : List Value} {T : TypeId} (hr : w.heap[r]? = some (.cells vs.toArray T (0, 0)))
  {x : Value} {m : Nat} {news : List Value} (hs : Src P i.size tx x m news w) (hroom : len + m ≤ cap) (hfit : off + (len + m) * i.size ≤ vs.length) :
  (Builtin.append_ #[t, tx] ty #[.slice (some ⟨r, off, none⟩) len cap, x]).run P w =
   .ok (.slice (some ⟨r, off, none⟩) (len + m) cap) (w.setRow r (vs.take (off + len * i.size) ++ news ++ vs.drop (off + len * i.size + news.length)).toArray) := by
 have hn := hs.newsLen
 have hst := run_storeCells_at P r (off + len * i.size) T news 0 vs.toArray w hr (by simp [hn]; rw [Nat.add_mul] at hfit; omega) hs.one
 simp only [Nat.add_zero] at hst
 rcases hs.kind with ⟨e', hk⟩ | hk <;> simp [Builtin.append_, run_underlying ht, run_underlying hk, sizeOf, typeInfo, hi, hs.len, hroom, hs.cells, Addr.add_lit, hst]
theorem run_append_no {t tx ty e : TypeId} {i : TypeInfo} (ht : P.underlying t = some (.slice e)) (hi : P.info? e = some i) {w : World} {base : Option Addr} {len cap : Nat} {x : Value} {news : List Value} (hs : Src P i.size tx x 0 news w) (hle : len ≤ cap) :
  (Builtin.append_ #[t, tx] ty #[.slice base len cap, x]).run P w = .ok (.slice base len cap) w := by
 have hn : news = [] := List.eq_nil_of_length_eq_zero (by rw [hs.newsLen, Nat.zero_mul])
 subst hn
 rcases hs.kind with ⟨e', hk⟩ | hk <;> cases base <;> simp [Builtin.append_, run_underlying ht, run_underlying hk, sizeOf, typeInfo, hi, hs.len, hle, hs.cells, storeCells]
theorem appOk_spec {t e : TypeId} {size : Nat} (h : appOk' P t e size = true) : P.underlying t = some (.slice e) ∧ ∃ i z, P.info? e = some i ∧ i.size = size ∧ i.zero = some z ∧ z.cells.size = size ∧ 0 < size ∧ bytesOf P e = i.bytes := by
 unfold appOk' at h
 split at h
 ·rename_i e' i hu hi
  simp only [Bool.and_eq_true, beq_iff_eq, decide_eq_true_eq] at h
  obtain ⟨⟨⟨rfl, hsz⟩, hz⟩, h0⟩ := h
  cases hzz : i.zero with
  | none => rw [hzz] at hz; simp at hz
  | some z =>
   rw [hzz] at hz
   simp only [Option.map_some, Option.getD_some, beq_iff_eq] at hz
   exact ⟨hu, i, z, hi, hsz, hzz, hz, h0, by simp [bytesOf, hi]⟩
 ·cases h
theorem wide_rel {l : List At} {vs : List Value} {c size : Nat} {zs : List Value} (h : CellsRel l vs) (hz : zs.length = c * size) : CellsRel (wide l c size) (vs ++ zs) := by
 refine h.append ?_
 rw [← hz]
 clear hz
 induction zs with
 | nil => simp [CellsRel]
 | cons z r ih => exact ⟨fun h => by simp [At.known] at h, ih⟩
end Go.Sx

/- append is sound in runs of known values. Generic. -/
namespace Go.Sx
open Go
variable {P : Program}
/-- A new or grown block behind an append. -/
theorem grow_step {hi : Nat} {F : Own} {x : CS} {H : Heap} {O L1 : Own} {a : Act} {w w' : World} {dst : Option Tmp} {e : TypeId} {size need r c : Nat} {known : List At} {vs : List Value} {old : List (Nat × Option Bx)}
  (hc : Conc F x.s H O a w) (hd : ∀ d, dst = some d → d < x.s.sz) (hM : MapsR x.h.ms O) (hold : ∀ p ∈ old, p.2 = none) (hf : ∀ n, x.s.next ≤ n → x.s.mem n = none) (hn : hi ≤ x.s.next)
  (hB : Boxes (putM old x.s.mem) L1) (hm : Models w' H ((r, .cells vs.toArray e (0, 0)) :: (L1 ++ (O ++ F)))) (hv : CellsRel (wide known c size) vs) (hk : ∀ a ∈ known, a.ok) :
  CC hi F (x.app dst ⟨some (.s (.at (.sl x.s.next r 0 need (c + need)))), (x.s.next, some ⟨r, e, wide known c size⟩) :: old, some (x.s.next + 1, { x.h with gr := (x.s.next, known.length, c) :: x.h.gr })⟩) H
   (a.put dst (.slice (some ⟨r, 0, none⟩) need (c + need))) w' := by
 have hmem : ∀ n, (x.app dst ⟨some (.s (.at (.sl x.s.next r 0 need (c + need)))), (x.s.next, some ⟨r, e, wide known c size⟩) :: old, some (x.s.next + 1, { x.h with gr := (x.s.next, known.length, c) :: x.h.gr })⟩).s.mem n =
   if n = x.s.next then some ⟨r, e, wide known c size⟩ else putM old x.s.mem n := by
  intro n
  rw [CS.app_mem]
  simp only [lookB]
  by_cases e : n = x.s.next
  ·simp [e]
  ·simp only [e, if_false]; rw [putM_eq]
 have hnone : ∀ n, x.s.next ≤ n → putM old x.s.mem n = none := by
  intro n hn
  rw [putM_eq]
  cases hl : lookB old n with
  | none => exact hf n hn
  | some b => exact hold _ (lookB_some hl)
 have hbx : Boxes (x.app dst ⟨some (.s (.at (.sl x.s.next r 0 need (c + need)))), (x.s.next, some ⟨r, e, wide known c size⟩) :: old, some (x.s.next + 1, { x.h with gr := (x.s.next, known.length, c) :: x.h.gr })⟩).s.mem ((r, .cells vs.toArray e (0, 0)) :: L1) := by
  have := hB.put (n := x.s.next) (b := ⟨r, e, wide known c size⟩) (hnone _ (Nat.le_refl _)) hv
  refine (congrArg (fun m => Boxes m _) (funext fun n => ?_)).mpr this
  exact hmem n
 refine cc_step (sv := .s (.at (.sl x.s.next r 0 need (c + need)))) (h' := { x.h with gr := (x.s.next, known.length, c) :: x.h.gr }) (nx := x.s.next + 1) hc hd rfl (ok_at trivial) (.inr rfl) rfl ?_ hbx hM (by simpa using hm) ?_ (by omega)
 ·intro n b hb a ha
  rw [hmem] at hb
  split at hb
  ·simp only [Option.some.injEq] at hb
   subst hb
   simp only [wide, List.mem_append] at ha
   rcases ha with ha | ha
   ·exact hk a ha
   ·have := List.eq_of_mem_replicate ha
    subst this; trivial
  ·rw [putM_eq] at hb
   split at hb
   ·rename_i b' hl
    have := hold _ (lookB_some hl)
    simp only at this
    rw [this] at hb; cases hb
   ·exact hc.ok.2 n b hb a ha
 ·intro n hn
  rw [hmem, if_neg (by omega)]
  exact hnone n (by omega)
theorem app_exec {ops : Array Oper} {o : Oper} {c : Call} {b : Builtin} {a : Act} {w w' : World} {v : Value} {vs : List Value} (hop : o.op = .call c) (hcal : c.callee = .builtin b) (hb : b ≠ .print) (hb' : b ≠ .println)
  (ha : (c.args.map a.eval).toList = vs) (h : (builtin b c.argTypes o.type #[] vs.toArray).run P w = .ok (.value v) w') : (execOp a.eval o).run P w = .ok (.value v) w' := by
 rw [builtin_exec hop hcal hb hb']
 have : c.args.map a.eval = vs.toArray := by apply Array.ext'; simpa using ha
 rw [this, h]
theorem cellsRel_self {cs : List At} {vs : List Value} (h : CellsRel cs vs) {off m : Nat} (hk : ((cs.drop off).take m).all fitK = true) : (vs.drop off).take m = ((cs.drop off).take m).map At.den :=
 CellsRel.known ((h.drop off).take m) (fitK_spec hk).1
/-- The arm that makes a new row. -/
theorem grow_run {t tx ty e : TypeId} {i : TypeInfo} {z : Value} {size : Nat} (ht : P.underlying t = some (.slice e)) (hi : P.info? e = some i) (hz : i.zero = some z) (hsz : i.size = size) (hzs : z.cells.size = size) (hby : bytesOf P e = i.bytes) {w : World}
  {base : Option Addr} {len cap m : Nat} {olds news : List Value} {x : Value} (hold : (Builtin.firstCells i.size len (.slice base len cap)).run P w.drew = .ok olds.toArray w.drew) (holdl : olds.length = len * size) (hs : Src P size tx x m news w)
  (hg : cap < len + m) (hb : (len + m) * bytesOf P e ≤ 140737488355328) (h63 : len + m < 2 ^ 63) :
  ∃ zs cc, zs.length = cc * size ∧ (Builtin.append_ #[t, tx] ty #[.slice base len cap, x]).run P w = .ok (.slice (some ⟨w.heap.size, 0, none⟩) (len + m) (cc + (len + m))) (w.drew.alloc (.cells (olds ++ news ++ zs).toArray e)) := by
 subst hsz
 have hge := grownCap_ge w (len + m) cap e
 refine ⟨(Builtin.zeroCells z.cells (grownCap w (len + m) cap e - (len + m))).toList, grownCap w (len + m) cap e - (len + m), ?_, ?_⟩
 ·rw [Array.length_toList, size_zeroCells, hzs]
 ·rw [run_append_grow_src (P := P) w t tx ty e i z ht hi hz base len cap olds hold x m news hs hg (by omega) (growslice_fits hg (by rw [← hby]; exact hb))]
  have e1 : grownCap w (len + m) cap e - (len + m) + (len + m) = grownCap w (len + m) cap e := by omega
  rw [e1]
  congr 3
  apply Array.ext'
  simp
theorem fillAt_mem {cs ys : List At} {off : Nat} {a : At} (h : a ∈ fillAt cs off ys) : a ∈ cs ∨ a ∈ ys := by
 simp only [fillAt, List.mem_append] at h
 rcases h with (h | h) | h
 ·exact .inl (List.mem_of_mem_take h)
 ·exact .inr h
 ·exact .inl (List.mem_of_mem_drop h)
theorem appendE_sound {ops : Array Oper} {o : Oper} {x : CS} {c : Call} {e : Ef} (hop : o.op = .call c) (hcal : c.callee = .builtin .append) (hg : guardOf (tgtOf ops) x.s o = .go []) (hd : ∀ d, o.dst = some d → d < x.s.sz)
  (he : appendE P x c.argTypes c.args.toList = some e) {hi : Nat} {F : Own} {H : Heap} {a : Act} {w : World} {K : CS → Prop} {Q : Exit → Act → World → Prop} (hC : CC hi F x H a w) (hr : e.run hi o.dst x K) :
  wp1 P ops Q o (fun a' w' => ∃ x', CC hi F x' H a' w' ∧ K x') a w := by
 obtain ⟨⟨O, hM, hc⟩, hf, hn⟩ := hC
 unfold appendE at he
 split at he
 ·rename_i t t2 sa ya cs hts hops
  split at he
  ·rename_i el hu
   simp only [Option.bind_eq_some_iff] at he
   obtain ⟨size, hsize, he⟩ := he
   split at he
   ·cases he
   ·rename_i happ
    simp only [Bool.not_eq_true, Bool.not_eq_false', Bool.not_eq_eq_eq_not, Bool.not_true] at happ
    have happ : appOk' P t el size = true := by simpa using happ
    simp only [Option.bind_eq_some_iff] at he
    obtain ⟨⟨news, m, ck, rd⟩, hsrc, he⟩ := he
    simp only [] at he
    split at he
    ·rename_i hfit
     obtain ⟨_, i, z, hinf, hsz, hzz, hzs, h0, hby⟩ := appOk_spec happ
     have hts' : c.argTypes = #[t, t2] := by apply Array.ext'; simpa using hts
     -- the run
     have main : ∀ (v : Value) (w' : World), AllCk cs → (Builtin.append_ #[t, t2] o.type #[sa.den, ya.den]).run P w = .ok v w' → (∃ x', CC hi F x' H (a.put o.dst v) w' ∧ K x') → wp1 P ops Q o (fun a' w' => ∃ x', CC hi F x' H a' w' ∧ K x') a w := by
      intro v w' hcs hrun hk
      refine wp1_exec hc hg (w' := w') (v := v) (app_exec (ops := ops) hop hcal (by simp) (by simp) (vs := [sa.den, ya.den]) ?_ ?_) hk
      ·have := opAts_den hc hops hcs trivial
       simpa using this
      ·rw [hts']
       simp only [builtin, Sem.run_bind]
       rw [hrun]; rfl
     unfold appendGo at he
     split at he
     ·
      rename_i hm0
      subst hm0
      split at he
      ·rename_i len cap hlc
       split at he
       ·rename_i hle
        simp only [Option.some.injEq] at he
        subst he
        obtain ⟨hcs, _, hk⟩ := hr
        rw [AllCk.append] at hcs
        obtain ⟨hS, hnl, _, _⟩ := srcT_src hc hsrc hcs.1
        have hden : ∃ base, sa.den = .slice base len cap := by
         unfold slLC at hlc
         split at hlc
         ·simp only [Option.some.injEq, Prod.mk.injEq] at hlc; obtain ⟨rfl, rfl⟩ := hlc; exact ⟨_, rfl⟩
         ·simp only [Option.some.injEq, Prod.mk.injEq] at hlc; obtain ⟨rfl, rfl⟩ := hlc; exact ⟨_, rfl⟩
         ·simp only [Option.some.injEq, Prod.mk.injEq] at hlc; obtain ⟨rfl, rfl⟩ := hlc; exact ⟨_, rfl⟩
         ·cases hlc
        obtain ⟨base, hden⟩ := hden
        have hn0 : news = [] := List.eq_nil_of_length_eq_zero (by rw [hnl, Nat.zero_mul])
        subst hn0
        have hone : sa.ok := opAts_ok hc.ok hops sa (by simp)
        refine main sa.den w hcs.2 ?_ ⟨_, ?_, hk⟩
        ·rw [hden]
         exact run_append_no hu hinf (by rw [hsz]; exact hS) hle
        ·exact cc_same (dst := o.dst) (v := sa.den) (sv := .s (.at sa)) hM hc hd (rel_of_den rfl) (ok_at hone) hf hn
       ·cases he
      ·cases he
     ·rename_i hm0
      have hsa : sa.ok := opAts_ok hc.ok hops sa (by simp)
      split at he
      ·rename_i n r off len cap
       simp only [] at he
       split at he
       ·cases he
       ·rename_i hlim
        simp only [Bool.or_eq_true, decide_eq_true_eq, not_or, Nat.not_lt, Nat.not_le, gt_iff_lt, ge_iff_le] at hlim
        obtain ⟨hbytes, h63⟩ := hlim
        split at he
        ·cases he
        ·rename_i b hb
         split at he
         ·cases he
         ·rename_i hrows
          simp only [Bool.or_eq_true, bne_iff_ne, ne_eq, Bool.not_eq_true', not_or, Decidable.not_not, Bool.not_eq_false] at hrows
          obtain ⟨hrl, hrk⟩ := hrows
          obtain ⟨L, hB, hmo⟩ := hc.mm
          obtain ⟨vs, L', hv, hp, hB'⟩ := hB.take hb
          have hmo' : Models w H ((b.r, .cells vs.toArray b.T (0, 0)) :: (L' ++ (O ++ F))) := hmo.perm (by simpa using hp.append_right (O ++ F))
          have hrow : w.heap[b.r]? = some (.cells vs.toArray b.T (0, 0)) := (hmo'.own (b.r, .cells vs.toArray b.T (0, 0)) (by simp)).1
          have hbok := hc.ok.2 n b hb
          obtain ⟨holdc, _⟩ := box_seg hc hb hrl hrk
          have hrowok : ∀ a' ∈ (b.cs.drop off).take (len * size), a'.ok := fun a' ha => hbok a' (List.mem_of_mem_drop (List.mem_of_mem_take ha))
          have hOld : (Builtin.firstCells i.size len (.slice (some ⟨b.r, off, none⟩) len cap)).run P w.drew = .ok (((b.cs.drop off).take (len * size)).map At.den).toArray w.drew :=
           run_firstCells_some w.drew i.size len _ len cap _ (by rw [List.length_map, hrl, hsz]) holdc
          -- in place
          have inP : ∀ (hcs : AllCk (.eqN r b.r :: (ck ++ cs))), (b.cs.take (off + (len + m) * size)).length = off + (len + m) * size → len + m ≤ cap →
            (okU hi e ⟨some (.s (.at (.sl n r off (len + m) cap))), [(n, some { b with cs := fillAt b.cs (off + len * size) news })], some (x.s.next, x.h)⟩ = true → True) →
            K (x.app o.dst ⟨some (.s (.at (.sl n r off (len + m) cap))), [(n, some { b with cs := fillAt b.cs (off + len * size) news })], some (x.s.next, x.h)⟩) → n < hi ∨ n < x.s.next →
            wp1 P ops Q o (fun a' w' => ∃ x', CC hi F x' H a' w' ∧ K x') a w := by
           intro hcs hlen hcap _ hk hnlt
           obtain ⟨hrb, hcs⟩ := hcs
           have hrb : r = b.r := hrb
           subst hrb
           rw [AllCk.append] at hcs
           obtain ⟨hS, hnl, hnk, hno⟩ := srcT_src hc hsrc hcs.1
           have hfit2 : off + (len + m) * size ≤ vs.length := by
            rw [← hv.length]
            rw [List.length_take] at hlen
            omega
           have hrun := run_append_in (ty := o.type) hu hinf hrow (off := off) (len := len) (cap := cap) (by rw [hsz]; exact hS) hcap (by rw [hsz]; exact hfit2)
           refine main _ _ hcs.2 hrun ⟨_, ?_, hk⟩
           have hm2 := models_row (vs' := vs.take (off + len * i.size) ++ news.map At.den ++ vs.drop (off + len * i.size + (news.map At.den).length)) hmo'
           have hv2 : CellsRel (fillAt b.cs (off + len * size) news) (vs.take (off + len * i.size) ++ news.map At.den ++ vs.drop (off + len * i.size + (news.map At.den).length)) := by
            rw [hsz, List.length_map]; exact hv.fill _ _
           have hB2 := hB'.put (n := n) (b := { b with cs := fillAt b.cs (off + len * size) news }) (by simp) hv2
           rw [box_back] at hB2
           have hmem : ∀ k, (x.app o.dst ⟨some (.s (.at (.sl n b.r off (len + m) cap))), [(n, some { b with cs := fillAt b.cs (off + len * size) news })], some (x.s.next, x.h)⟩).s.mem k = if k = n then some { b with cs := fillAt b.cs (off + len * size) news } else x.s.mem k := by
            intro k
            rw [CS.app_mem]
            by_cases e : k = n <;> simp [lookB, e]
           refine cc_step (sv := .s (.at (.sl n b.r off (len + m) cap))) (u := ⟨some (.s (.at (.sl n b.r off (len + m) cap))), [(n, some { b with cs := fillAt b.cs (off + len * size) news })], some (x.s.next, x.h)⟩)
            (L' := (b.r, .cells (vs.take (off + len * i.size) ++ news.map At.den ++ vs.drop (off + len * i.size + (news.map At.den).length)).toArray b.T (0, 0)) :: L') hc hd rfl (ok_at trivial) (.inr rfl) rfl ?_ ?_ hM (by simpa using hm2) ?_ hn
           ·intro k b' hb' a' ha'
            rw [hmem] at hb'
            split at hb'
            ·simp only [Option.some.injEq] at hb'
             subst hb'
             rcases fillAt_mem ha' with h | h
             ·exact hbok a' h
             ·exact hno a' h
            ·exact hc.ok.2 k b' hb' a' ha'
           ·refine (congrArg (fun m => Boxes m _) (funext fun k => ?_)).mpr hB2
            exact hmem k
           ·intro k hk'
            rw [hmem]
            have hnn : n < x.s.next := by
             rcases Nat.lt_or_ge n x.s.next with h | h
             ·exact h
             ·have := hf n h; rw [hb] at this; cases this
            rw [if_neg (by omega)]
            exact hf k hk'
          have hnn : n < x.s.next := by
           rcases Nat.lt_or_ge n x.s.next with h | h
           ·exact h
           ·have := hf n h; rw [hb] at this; cases this
          split at he
          ·rename_i hgr
           split at he
           ·rename_i hcap
            split at he
            ·rename_i hlen
             simp only [beq_iff_eq] at hlen
             simp only [Option.some.injEq] at he
             subst he
             obtain ⟨hcs, _, hk⟩ := hr
             exact inP hcs hlen hcap (fun _ => trivial) hk (.inr hnn)
            ·cases he
           ·
            rename_i hcap
            simp only [Option.some.injEq] at he
            subst he
            obtain ⟨⟨hrb, hcs⟩, hr⟩ := hr
            have hrb : r = b.r := hrb
            subst hrb
            rw [AllCk.append] at hcs
            obtain ⟨hS, hnl, hnk, hno⟩ := srcT_src hc hsrc hcs.1
            obtain ⟨zs, cc, hzl, hrun⟩ := grow_run (ty := o.type) hu hinf hzz hsz hzs hby hOld (by rw [List.length_map, hrl]) hS (by omega) hbytes h63
            obtain ⟨_, hk⟩ := hr w.heap.size cc
            refine main _ _ hcs.2 hrun ⟨_, ?_, hk⟩
            refine grow_step (old := []) (L1 := L) (vs := ((b.cs.drop off).take (len * size)).map At.den ++ news.map At.den ++ zs) hc hd hM (by simp) hf hn hB ?_ ?_ ?_
            ·exact models_alloc hmo _ _
            ·rw [← List.map_append]
             exact wide_rel (CellsRel.map _) hzl
            ·intro a' ha'
             rcases List.mem_append.1 ha' with h | h
             ·exact hrowok a' h
             ·exact hno a' h
          ·rename_i k c0 hgr
           split at he
           ·split at he
            ·rename_i hcap
             split at he
             ·rename_i hlen
              simp only [beq_iff_eq] at hlen
              simp only [Option.some.injEq] at he
              subst he
              obtain ⟨hcs, _, hk⟩ := hr
              exact inP hcs hlen hcap (fun _ => trivial) hk (.inr hnn)
             ·cases he
            ·cases he
           ·split at he
            ·rename_i hoff
             obtain ⟨hoff, hT⟩ := hoff
             subst hoff
             simp only [Option.some.injEq] at he
             subst he
             obtain ⟨⟨hcapeq, hrb, hcs⟩, hcells, hr⟩ := hr
             have hrb : r = b.r := hrb
             have hcapeq : cap = c0 + len := hcapeq
             subst hrb
             rw [AllCk.append] at hcs
             obtain ⟨hS, hnl, hnk, hno⟩ := srcT_src hc hsrc hcs.1
             have hvl : vs.length = len * size + c0 * size := by
              rw [← hv.length, hcells, wide, List.length_append, List.length_replicate, hrl]
             have hvt : vs.take (len * size) = ((b.cs.drop 0).take (len * size)).map At.den := by
              have := cellsRel_self hv hrk
              simpa using this
             have hmemN : putM [(n, none)] x.s.mem = fun k => if k = n then none else x.s.mem k := by
              funext k
              rw [putM_eq]
              by_cases e : k = n <;> simp [lookB, e]
             have hBN : Boxes (putM [(n, none)] x.s.mem) L' := by rw [hmemN]; exact hB'
             have hoks : ∀ a' ∈ (b.cs.drop 0).take (len * size) ++ news, a'.ok := by
              intro a' ha'
              rcases List.mem_append.1 ha' with h | h
              ·exact hrowok a' h
              ·exact hno a' h
             by_cases hroom : len + m ≤ cap
             ·have hmul : (len + m) * size ≤ vs.length := by
               rw [hvl, ← Nat.add_mul]
               exact Nat.mul_le_mul_right _ (by omega)
              have hrun := run_append_in (ty := o.type) hu hinf hrow (off := 0) (len := len) (cap := cap) (by rw [hsz]; exact hS) hroom (by rw [hsz]; omega)
              have hm2 := models_row (vs' := vs.take (0 + len * i.size) ++ news.map At.den ++ vs.drop (0 + len * i.size + (news.map At.den).length)) hmo'
              obtain ⟨_, hk⟩ := hr b.r (c0 - m)
              have ecap : c0 - m + (len + m) = cap := by omega
              rw [ecap] at hk
              refine main _ _ hcs.2 hrun ⟨_, ?_, hk⟩
              rw [hT] at hm2
              have := grow_step (need := len + m) (c := c0 - m) (e := el) (known := (b.cs.drop 0).take (len * size) ++ news) (size := size) (old := [(n, none)]) (dst := o.dst) hc hd hM (by simp) hf hn hBN hm2 ?_ hoks
              ·rw [ecap] at this
               exact this
              ·rw [hsz, Nat.zero_add, hvt, List.length_map, ← List.map_append]
               refine wide_rel (CellsRel.map _) ?_
               rw [List.length_drop, hvl, hnl, Nat.sub_mul]
               omega
             ·obtain ⟨zs, cc, hzl, hrun⟩ := grow_run (ty := o.type) hu hinf hzz hsz hzs hby hOld (by rw [List.length_map, hrl]) hS (by omega) hbytes h63
              obtain ⟨_, hk⟩ := hr w.heap.size cc
              refine main _ _ hcs.2 hrun ⟨_, ?_, hk⟩
              refine grow_step (old := [(n, none)]) (L1 := L') (vs := ((b.cs.drop 0).take (len * size)).map At.den ++ news.map At.den ++ zs) hc hd hM (by simp) hf hn hBN ?_ ?_ hoks
              ·have := models_alloc hmo' (((b.cs.drop 0).take (len * size)).map At.den ++ news.map At.den ++ zs).toArray el
               exact this.sub (List.Sublist.cons_cons _ (List.sublist_cons_self _ _))
              ·rw [← List.map_append]
               exact wide_rel (CellsRel.map _) hzl
            ·cases he
      ·rename_i hnsl
       split at he
       ·rename_i hemp
        split at he
        ·cases he
        ·rename_i hlim
         simp only [Bool.or_eq_true, decide_eq_true_eq, not_or, Nat.not_lt, Nat.not_le, gt_iff_lt, ge_iff_le] at hlim
         obtain ⟨hbytes, h63⟩ := hlim
         simp only [Option.some.injEq] at he
         subst he
         obtain ⟨hcs, hr⟩ := hr
         rw [AllCk.append] at hcs
         obtain ⟨hS, hnl, hnk, hno⟩ := srcT_src hc hsrc hcs.1
         have hden : ∃ base, sa.den = .slice base 0 0 := by
          unfold emptySl at hemp
          split at hemp
          ·exact ⟨_, rfl⟩
          ·exact ⟨_, rfl⟩
          ·cases hemp
         obtain ⟨base, hden⟩ := hden
         obtain ⟨L, hB, hmo⟩ := hc.mm
         have hOld : (Builtin.firstCells i.size 0 (.slice base 0 0)).run P w.drew = .ok ([] : List Value).toArray w.drew := by
          cases base with
          | none => exact run_firstCells_none w.drew i.size 0 0 0
          | some ad => exact run_firstCells_some w.drew i.size 0 ad 0 0 [] (by simp) (by simp)
         obtain ⟨zs, cc, hzl, hrun⟩ := grow_run (ty := o.type) (len := 0) (olds := []) hu hinf hzz hsz hzs hby hOld (by simp) hS (by omega) (by rw [Nat.zero_add]; exact hbytes) (by omega)
         obtain ⟨_, hk⟩ := hr w.heap.size cc
         rw [Nat.zero_add] at hrun
         refine main _ _ hcs.2 (by rw [hden]; exact hrun) ⟨_, ?_, hk⟩
         refine grow_step (old := []) (L1 := L) (vs := news.map At.den ++ zs) hc hd hM (by simp) hf hn hB ?_ ?_ hno
         ·exact models_alloc hmo _ _
         ·exact wide_rel (CellsRel.map _) hzl
       ·cases he
    ·cases he
  ·cases he
 ·cases he
end Go.Sx

/- copy, clear, maps, strings of bytes are sound in runs of known values. Generic. -/
namespace Go.Sx
open Go
variable {P : Program}
theorem cc_quiet {hi : Nat} {F : Own} {x : CS} {H : Heap} {O : Own} {a : Act} {w : World} {dst : Option Tmp} {v : Value} {sv : SV} (hM : MapsR x.h.ms O)
  (hc : Conc F x.s H O a w) (hd : ∀ d, dst = some d → d < x.s.sz) (hrel : sv.rel v) (hsok : sv.ok) (hf : ∀ n, x.s.next ≤ n → x.s.mem n = none) (hn : hi ≤ x.s.next) :
  CC hi F (x.app dst ⟨some (nrmSV sv), [], none⟩) H (a.put dst v) w := by
 have h := cc_same (dst := dst) hM hc hd hrel hsok hf hn
 exact h
/-- One box gets new cells. -/
theorem cc_box {hi : Nat} {F : Own} {x : CS} {H : Heap} {O L' : Own} {a : Act} {w w' : World} {dst : Option Tmp} {v : Value} {sv : SV} {val : Option SV} {n : Nat} {b : Bx} {cs : List At} {vs' : List Value} (hM : MapsR x.h.ms O)
  (hc : Conc F x.s H O a w) (hd : ∀ d, dst = some d → d < x.s.sz) (hrel : sv.rel v) (hsok : sv.ok) (hval : dst = none ∨ val = some (nrmSV sv)) (hf : ∀ n, x.s.next ≤ n → x.s.mem n = none) (hn : hi ≤ x.s.next)
  (hb : x.s.mem n = some b) (hB : Boxes (fun k => if k = n then none else x.s.mem k) L') (hm : Models w' H ((b.r, .cells vs'.toArray b.T (0, 0)) :: (L' ++ (O ++ F)))) (hv : CellsRel cs vs') (hok : ∀ a ∈ cs, a.ok) :
  CC hi F (x.app dst ⟨val, [(n, some { b with cs := cs })], none⟩) H (a.put dst v) w' := by
 have hB2 := hB.put (n := n) (b := { b with cs := cs }) (by simp) hv
 rw [box_back] at hB2
 have hmem : ∀ k, (x.app dst ⟨val, [(n, some { b with cs := cs })], none⟩).s.mem k = if k = n then some { b with cs := cs } else x.s.mem k := by
  intro k
  rw [CS.app_mem]
  by_cases e : k = n <;> simp [lookB, e]
 have hx : x.app dst ⟨val, [(n, some { b with cs := cs })], none⟩ = x.app dst ⟨val, [(n, some { b with cs := cs })], some (x.s.next, x.h)⟩ := rfl
 rw [hx]
 have hnn : n < x.s.next := by
  rcases Nat.lt_or_ge n x.s.next with h | h
  ·exact h
  ·have := hf n h; rw [hb] at this; cases this
 refine cc_step (sv := sv) (L' := (b.r, .cells vs'.toArray b.T (0, 0)) :: L') hc hd hrel hsok hval rfl ?_ ?_ hM (by simpa using hm) ?_ hn
 ·intro k b' hb' a' ha'
  have hb'' := hmem k
  rw [hx] at hb''
  rw [hb''] at hb'
  split at hb'
  ·simp only [Option.some.injEq] at hb'
   subst hb'
   exact hok a' ha'
  ·exact hc.ok.2 k b' hb' a' ha'
 ·refine (congrArg (fun m => Boxes m _) (funext fun k => ?_)).mpr hB2
  exact hmem k
 ·intro k hk'
  have hb'' := hmem k
  rw [hx] at hb''
  rw [hb'', if_neg (by omega)]
  exact hf k hk'
theorem run_copy_in {t t2 ty e : TypeId} {i : TypeInfo} (ht : P.underlying t = some (.slice e)) (hi : P.info? e = some i) {w : World} {r off dLen dCap : Nat} {vs : List Value} {T : TypeId} (hr : w.heap[r]? = some (.cells vs.toArray T (0, 0)))
  {x : Value} {k m : Nat} {cs : List Value} (hl : ∀ w' : World, (Builtin.lenOf x).run P w' = .ok m w') (hk : k = min m dLen) (hcells : (Builtin.firstCells i.size k x).run P w = .ok cs.toArray w) (hfit : off + cs.length ≤ vs.length) (h1 : ∀ v ∈ cs, v.oneCell' = true) :
  (Builtin.copy_ #[t, t2] ty #[.slice (some ⟨r, off, none⟩) dLen dCap, x]).run P w = .ok (goInt k) (w.setRow r (vs.take off ++ cs ++ vs.drop (off + cs.length)).toArray) := by
 have hst := run_storeCells_at P r off T cs 0 vs.toArray w hr (by simpa using hfit) h1
 simp only [Nat.add_zero] at hst
 have hk' : m.min dLen = k := hk.symm
 simp [Builtin.copy_, run_underlying ht, sizeOf, typeInfo, hi, hl, hk', hcells, hst]
theorem run_copy_nil' {t t2 ty e : TypeId} {i : TypeInfo} (ht : P.underlying t = some (.slice e)) (hi : P.info? e = some i) {w : World} {base : Option Addr} {dCap : Nat}
  {x : Value} {m : Nat} (hl : ∀ w' : World, (Builtin.lenOf x).run P w' = .ok m w') (hcells : (Builtin.firstCells i.size 0 x).run P w = .ok #[] w) :
  (Builtin.copy_ #[t, t2] ty #[.slice base 0 dCap, x]).run P w = .ok (goInt 0) w := by
 cases base <;> simp [Builtin.copy_, run_underlying ht, sizeOf, typeInfo, hi, hl, hcells, storeCells]
/-- The first k elements of what is copied. -/
theorem srcOf_first {F : Own} {x : CS} {H : Heap} {O : Own} {a : Act} {w : World} (hc : Conc F x.s H O a w) {size : Nat} {ya : At} {news : List At} {m : Nat} {ck : List Ck} {rd : List Nat}
  (h : srcOf x size ya = some (news, m, ck, rd)) (hck : AllCk ck) {k : Nat} (hk : k ≤ m) : (∀ w' : World, (Builtin.lenOf ya.den).run P w' = .ok m w') ∧ (Builtin.firstCells size k ya.den).run P w = .ok ((news.take (k * size)).map At.den).toArray w := by
 unfold srcOf at h
 split at h
 ·rename_i n r off len cap
  split at h
  ·rename_i b hb
   simp only [] at h
   split at h
   ·rename_i hcond
    simp only [Bool.and_eq_true, beq_iff_eq] at hcond
    simp only [Option.some.injEq, Prod.mk.injEq] at h
    obtain ⟨rfl, rfl, rfl, rfl⟩ := h
    have hr : r = b.r := hck.1
    subst hr
    obtain ⟨h1, h2⟩ := box_seg hc hb hcond.1 hcond.2
    refine ⟨fun _ => rfl, run_firstCells_some w size k _ len cap _ ?_ ?_⟩
    ·rw [List.length_map, List.length_take, hcond.1]
     exact Nat.min_eq_left (Nat.mul_le_mul_right _ hk)
    ·intro j v hj
     refine h1 j v ?_
     rw [List.map_take, List.getElem?_take] at hj
     split at hj
     ·exact hj
     ·cases hj
   ·simp at h
  ·simp at h
 ·rename_i va vc
  simp only [Option.some.injEq, Prod.mk.injEq] at h
  obtain ⟨rfl, rfl, rfl, rfl⟩ := h
  have : k = 0 := Nat.le_zero.1 hk
  subst this
  refine ⟨fun _ => rfl, ?_⟩
  cases va with
  | none => simpa [At.den] using run_firstCells_none (P := P) w size 0 0 vc
  | some ad => simpa [At.den] using run_firstCells_some (P := P) w size 0 ad 0 vc [] (by simp) (by simp)
 ·rename_i va vc
  simp only [Option.some.injEq, Prod.mk.injEq] at h
  obtain ⟨rfl, rfl, rfl, rfl⟩ := h
  have : k = 0 := Nat.le_zero.1 hk
  subst this
  refine ⟨fun _ => rfl, ?_⟩
  cases va with
  | none => simpa [At.den] using run_firstCells_none (P := P) w size 0 0 vc
  | some ad => simpa [At.den] using run_firstCells_some (P := P) w size 0 ad 0 vc [] (by simp) (by simp)
 ·simp at h
theorem emptySl_den {sa : At} (h : emptySl sa = true) : ∃ base, sa.den = .slice base 0 0 := by
 unfold emptySl at h
 split at h
 ·exact ⟨_, rfl⟩
 ·exact ⟨_, rfl⟩
 ·cases h
theorem copyE_sound {ops : Array Oper} {o : Oper} {x : CS} {c : Call} {e : Ef} (hop : o.op = .call c) (hcal : c.callee = .builtin .copy) (hg : guardOf (tgtOf ops) x.s o = .go []) (hd : ∀ d, o.dst = some d → d < x.s.sz)
  (he : copyE P x c.argTypes c.args.toList = some e) {hi : Nat} {F : Own} {H : Heap} {a : Act} {w : World} {K : CS → Prop} {Q : Exit → Act → World → Prop} (hC : CC hi F x H a w) (hr : e.run hi o.dst x K) :
  wp1 P ops Q o (fun a' w' => ∃ x', CC hi F x' H a' w' ∧ K x') a w := by
 obtain ⟨⟨O, hM, hc⟩, hf, hn⟩ := hC
 unfold copyE at he
 split at he
 ·rename_i t t2 da ya cs hts hops
  split at he
  ·rename_i el hu
   simp only [Option.bind_eq_some_iff] at he
   obtain ⟨size, hsize, he⟩ := he
   split at he
   ·cases he
   ·rename_i happ
    simp only [Bool.or_eq_true, not_or, bne_iff_ne, ne_eq, Decidable.not_not, Bool.not_eq_true'] at happ
    obtain ⟨htt, happ⟩ := happ
    have happ : appOk' P t el size = true := by simpa using happ
    subst htt
    simp only [Option.bind_eq_some_iff] at he
    obtain ⟨⟨news, m, ck, rd⟩, hsrc, he⟩ := he
    simp only [] at he
    obtain ⟨_, i, z, hinf, hsz, hzz, hzs, h0, hby⟩ := appOk_spec happ
    have hts' : c.argTypes = #[t, t] := by apply Array.ext'; simpa using hts
    have main : ∀ (v : Value) (w' : World), AllCk cs → (Builtin.copy_ #[t, t] o.type #[da.den, ya.den]).run P w = .ok v w' → (∃ x', CC hi F x' H (a.put o.dst v) w' ∧ K x') → wp1 P ops Q o (fun a' w' => ∃ x', CC hi F x' H a' w' ∧ K x') a w := by
     intro v w' hcs hrun hk
     refine wp1_exec hc hg (w' := w') (v := v) (app_exec (ops := ops) hop hcal (by simp) (by simp) (vs := [da.den, ya.den]) ?_ ?_) hk
     ·have := opAts_den hc hops hcs trivial
      simpa using this
     ·rw [hts']
      simp only [builtin, Sem.run_bind]
      rw [hrun]; rfl
    split at he
    ·rename_i n r off len cap
     split at he
     ·cases he
     ·rename_i b hb
      split at he
      ·cases he
      ·rename_i hold
       simp only [bne_iff_ne, ne_eq, Decidable.not_not] at hold
       simp only [Option.some.injEq] at he
       subst he
       obtain ⟨⟨hrb, hcs⟩, _, hk⟩ := hr
       have hrb : r = b.r := hrb
       subst hrb
       have hcs := AllCk.append.1 hcs
       obtain ⟨hS, hnl, hnk, hno⟩ := srcOf_src hc hu hsrc hcs.1
       obtain ⟨hl1, hl2⟩ := srcOf_first (P := P) hc hsrc hcs.1 (k := min m len) (Nat.min_le_left _ _)
       obtain ⟨L, hB, hmo⟩ := hc.mm
       obtain ⟨vs, L', hv, hp, hB'⟩ := hB.take hb
       have hmo' : Models w H ((b.r, .cells vs.toArray b.T (0, 0)) :: (L' ++ (O ++ F))) := hmo.perm (by simpa using hp.append_right (O ++ F))
       have hrow : w.heap[b.r]? = some (.cells vs.toArray b.T (0, 0)) := (hmo'.own (b.r, .cells vs.toArray b.T (0, 0)) (by simp)).1
       have hll : ((news.take (min m len * size)).map At.den).length = min m len * size := by
        rw [List.length_map, List.length_take, hnl]
        exact Nat.min_eq_left (Nat.mul_le_mul_right _ (Nat.min_le_left _ _))
       have hfit : off + min m len * size ≤ vs.length ∨ min m len * size = 0 := by
        rw [← hv.length]
        rw [List.length_take, List.length_drop] at hold
        omega
       have hrun : (Builtin.copy_ #[t, t] o.type #[.slice (some ⟨b.r, off, none⟩) len cap, ya.den]).run P w = .ok (goInt ((min m len : Nat) : Int)) (w.setRow b.r (vs.take off ++ (news.take (min m len * size)).map At.den ++ vs.drop (off + ((news.take (min m len * size)).map At.den).length)).toArray) := by
        rcases hfit with hfit | h00
        ·exact run_copy_in (t := t) (t2 := t) hu hinf hrow hl1 rfl (by rw [hsz]; exact hl2) (by rw [hll]; exact hfit) (by
          intro v hv'
          obtain ⟨a', ha', rfl⟩ := List.mem_map.1 hv'
          have ha2 := List.mem_of_mem_take ha'
          exact At.fit_one ((fitK_spec hnk).2 a' ha2) (hno a' ha2))
        ·have hm0 : min m len = 0 := (Nat.mul_eq_zero.1 h00).resolve_right (by omega)
         have hem : ((news.take (min m len * size)).map At.den) = [] := by rw [hm0]; simp
         rw [hem]
         simp only [List.append_nil, List.length_nil, Nat.add_zero, List.take_append_drop]
         rw [setRow_self w b.r vs.toArray b.T (0, 0) hrow]
         have hcl := hl2
         rw [hem, hm0] at hcl
         rw [hm0]
         have hk' : m.min len = 0 := hm0
         simp [Builtin.copy_, run_underlying hu, sizeOf, typeInfo, hinf, hl1, hk', hsz, hcl, storeCells]
       refine main _ _ hcs.2 hrun ⟨_, ?_, hk⟩
       have hm2 := models_row (vs' := vs.take off ++ (news.take (min m len * size)).map At.den ++ vs.drop (off + ((news.take (min m len * size)).map At.den).length)) hmo'
       refine cc_box (sv := .s (.at (.k (goInt ((min m len : Nat) : Int))))) (vs' := vs.take off ++ (news.take (min m len * size)).map At.den ++ vs.drop (off + ((news.take (min m len * size)).map At.den).length)) hM hc hd rfl (ok_k _) (.inr rfl) hf hn hb hB' hm2 ?_ ?_
       ·rw [List.length_map]; exact hv.fill _ _
       ·intro a' ha'
        rcases fillAt_mem ha' with h | h
        ·exact hc.ok.2 n b hb a' h
        ·exact hno a' (List.mem_of_mem_take h)
    ·split at he
     ·rename_i hemp
      simp only [Option.some.injEq] at he
      subst he
      obtain ⟨hcs, _, hk⟩ := hr
      rw [AllCk.append] at hcs
      obtain ⟨hl1, hl2⟩ := srcOf_first (P := P) hc hsrc hcs.1 (k := 0) (Nat.zero_le _)
      obtain ⟨base, hden⟩ := emptySl_den hemp
      refine main (goInt 0) w hcs.2 ?_ ⟨_, ?_, hk⟩
      ·rw [hden]
       exact run_copy_nil' hu hinf hl1 (by rw [hsz, hl2]; simp)
      ·exact cc_quiet (sv := .s (.at (.k (goInt 0)))) hM hc hd rfl (ok_k _) hf hn
     ·cases he
  ·cases he
 ·cases he
theorem run_clear_in {t ty e : TypeId} {z : Value} (ht : P.underlying t = some (.slice e)) (hz : ∀ w, (zeroValue e).run P w = .ok z w) {w : World} {r off n cap : Nat} {vs : List Value} {T : TypeId} (hr : w.heap[r]? = some (.cells vs.toArray T (0, 0)))
  (hfit : off + n * z.cells.size ≤ vs.length) (h1 : ∀ v ∈ (Builtin.zeroCells z.cells n).toList, v.oneCell' = true) :
  (Builtin.clear_ #[t] ty #[.slice (some ⟨r, off, none⟩) n cap]).run P w = .ok (.tuple #[]) (w.setRow r (vs.take off ++ (Builtin.zeroCells z.cells n).toList ++ vs.drop (off + (Builtin.zeroCells z.cells n).toList.length)).toArray) := by
 cases n with
 | zero =>
  have e0 : (Builtin.zeroCells z.cells 0).toList = [] := by simp [Builtin.zeroCells]
  rw [e0]
  simp only [List.append_nil, List.length_nil, Nat.add_zero, List.take_append_drop]
  rw [setRow_self w r vs.toArray T (0, 0) hr]
  simp [Builtin.clear_, run_underlying ht]
 | succ n =>
  have hst := run_storeCells_at P r off T (Builtin.zeroCells z.cells (n + 1)).toList 0 vs.toArray w hr (by simpa [size_zeroCells] using hfit) h1
  simp only [Nat.add_zero] at hst
  simp [Builtin.clear_, run_underlying ht, hz, hst]
theorem clearE_sound {ops : Array Oper} {o : Oper} {x : CS} {c : Call} {e : Ef} (hop : o.op = .call c) (hcal : c.callee = .builtin .clear) (hg : guardOf (tgtOf ops) x.s o = .go []) (hdst : o.dst = none)
  (he : clearE P x c.argTypes c.args.toList = some e) {hi : Nat} {F : Own} {H : Heap} {a : Act} {w : World} {K : CS → Prop} {Q : Exit → Act → World → Prop} (hC : CC hi F x H a w) (hr : e.run hi o.dst x K) :
  wp1 P ops Q o (fun a' w' => ∃ x', CC hi F x' H a' w' ∧ K x') a w := by
 obtain ⟨⟨O, hM, hc⟩, hf, hn⟩ := hC
 unfold clearE at he
 split at he
 ·rename_i t sa cs hts hops
  split at he
  ·rename_i el hu
   simp only [Option.bind_eq_some_iff] at he
   obtain ⟨size, hsize, z, hz, he⟩ := he
   split at he
   ·cases he
   ·rename_i hcond
    simp only [Bool.or_eq_true, not_or, bne_iff_ne, ne_eq, Decidable.not_not, beq_iff_eq, Bool.not_eq_true', Bool.not_eq_false] at hcond
    obtain ⟨⟨hzl, hs0⟩, hzf⟩ := hcond
    obtain ⟨zv, hzr, hzc, hzk, hzo⟩ := zeroOf_run hz
    have hts' : c.argTypes = #[t] := by apply Array.ext'; simpa using hts
    have main : ∀ (w' : World), AllCk cs → (Builtin.clear_ #[t] o.type #[sa.den]).run P w = .ok (.tuple #[]) w' → (∃ x', CC hi F x' H (a.put o.dst (.tuple #[])) w' ∧ K x') → wp1 P ops Q o (fun a' w' => ∃ x', CC hi F x' H a' w' ∧ K x') a w := by
     intro w' hcs hrun hk
     refine wp1_exec hc hg (w' := w') (v := .tuple #[]) (app_exec (ops := ops) hop hcal (by simp) (by simp) (vs := [sa.den]) ?_ ?_) hk
     ·have := opAts_den hc hops hcs trivial
      simpa using this
     ·rw [hts']
      simp only [builtin, Sem.run_bind]
      rw [hrun]; rfl
    rw [hdst] at hr main
    split at he
    ·rename_i n r off len cap
     split at he
     ·cases he
     ·rename_i b hb
      split at he
      ·rename_i hfit
       simp only [Option.some.injEq] at he
       subst he
       obtain ⟨⟨hrb, hcs⟩, _, hk⟩ := hr
       have hrb : r = b.r := hrb
       subst hrb
       obtain ⟨L, hB, hmo⟩ := hc.mm
       obtain ⟨vs, L', hv, hp, hB'⟩ := hB.take hb
       have hmo' : Models w H ((b.r, .cells vs.toArray b.T (0, 0)) :: (L' ++ (O ++ F))) := hmo.perm (by simpa using hp.append_right (O ++ F))
       have hrow : w.heap[b.r]? = some (.cells vs.toArray b.T (0, 0)) := (hmo'.own (b.r, .cells vs.toArray b.T (0, 0)) (by simp)).1
       have hzc' : zv.cells = (z.map At.den).toArray := by rw [← hzc]
       have hzz : (Builtin.zeroCells zv.cells len).toList = (repCells z len).map At.den := by
        have := repCells_spec (z.map At.den) (by rw [List.length_map, hzl]; exact hs0) len
        rw [repCells_den, ← this]
        simp only [Builtin.zeroCells, hzc', List.size_toArray]
       have hzz2 : zv.cells.size = size := by rw [hzc']; simp [hzl]
       have hrl : (repCells z len).length = len * size := by
        have := congrArg List.length hzz
        rw [Array.length_toList, size_zeroCells, hzz2, List.length_map] at this
        exact this.symm
       have hrun := run_clear_in (ty := o.type) (cap := cap) (n := len) (off := off) hu hzr hrow (by rw [hzz2, ← hv.length]; exact hfit) (by
        rw [hzz]
        intro v hv'
        obtain ⟨a', ha', rfl⟩ := List.mem_map.1 hv'
        have ha2 := repCells_mem ha'
        exact At.fit_one ((fitK_spec hzf).2 a' ha2) (hzo a' ha2))
       rw [hzz] at hrun
       refine main _ hcs hrun ⟨_, ?_, hk⟩
       have hm2 := models_row (vs' := vs.take off ++ (repCells z len).map At.den ++ vs.drop (off + ((repCells z len).map At.den).length)) hmo'
       refine cc_box (dst := none) (sv := .s (.at (.k (.tuple #[])))) (v := .tuple #[]) (vs' := vs.take off ++ (repCells z len).map At.den ++ vs.drop (off + ((repCells z len).map At.den).length)) hM hc (by simp) rfl (ok_k _) (.inl rfl) hf hn hb hB' hm2 ?_ ?_
       ·rw [List.length_map]; exact hv.fill _ _
       ·intro a' ha'
        rcases fillAt_mem ha' with h | h
        ·exact hc.ok.2 n b hb a' h
        ·exact hzo a' (repCells_mem h)
      ·cases he
    ·split at he
     ·rename_i hemp
      simp only [Option.some.injEq] at he
      subst he
      obtain ⟨hcs, _, hk⟩ := hr
      obtain ⟨base, hden⟩ := emptySl_den hemp
      refine main w hcs ?_ ⟨_, ?_, hk⟩
      ·rw [hden]
       cases base <;> simp [Builtin.clear_, run_underlying hu]
      ·exact cc_quiet (dst := none) (v := .tuple #[]) (sv := .s (.at (.k (.tuple #[])))) hM hc (by simp) rfl (ok_k _) hf hn
     ·cases he
  ·cases he
 ·cases he
end Go.Sx

/- Maps, strings of bytes, makeSlice are sound in runs of known values. Generic. -/
namespace Go.Sx
open Go
variable {P : Program}
theorem mapsR_look : ∀ {ms : List (Nat × MB)} {O : Own} {n : Nat} {b : MB}, MapsR ms O → lookMB ms n = some b →
  ∃ p O1 O2, O = O1 ++ p :: O2 ∧ b.is p ∧ ∀ b' p', b'.is p' → MapsR (setMB ms n b') (O1 ++ p' :: O2)
 | [], O, n, b, _, h => by simp [lookMB] at h
 | (k, m) :: r, O, n, b, hM, h => by
  obtain ⟨p, O', rfl, hp, hr⟩ := hM
  simp only [lookMB] at h
  split at h
  ·rename_i e
   simp only [Option.some.injEq] at h
   subst h
   refine ⟨p, [], O', rfl, hp, fun b' p' hb' => ?_⟩
   simp only [setMB, e, if_true]
   exact ⟨p', O', rfl, hb', hr⟩
  ·rename_i e
   obtain ⟨q, O1, O2, rfl, hq, hs⟩ := mapsR_look hr h
   refine ⟨q, p :: O1, O2, rfl, hq, fun b' p' hb' => ?_⟩
   simp only [setMB, e, if_false]
   exact ⟨p, O1 ++ p' :: O2, rfl, hp, hs b' p' hb'⟩
theorem MB.omap {b : MB} {p : Nat × Obj} (h : b.is p) : OMap b.kd (.map (some b.r)) b.m [p] := by
 obtain ⟨es, clock, rfl, he⟩ := h
 exact ⟨b.r, es, clock, rfl, rfl, he⟩
theorem keyKind_spec {t et : TypeId} {k : IntKind} (h : keyKind P t = some (et, some k)) : ∃ kt, P.underlying t = some (.map kt et) ∧ P.underlying kt = some (.int k) := by
 unfold keyKind at h
 split at h
 ·rename_i kt et' hu
  simp only [Option.some.injEq, Prod.mk.injEq] at h
  obtain ⟨rfl, h⟩ := h
  split at h
  ·rename_i k' hk
   simp only [Option.some.injEq] at h
   subst h
   exact ⟨kt, hu, hk⟩
  ·cases h
 ·cases h
theorem zero1_spec {t : TypeId} {v : Value} (h : zero1 P t = some v) : ∀ w, (zeroValue t).run P w = .ok v w := by
 unfold zero1 at h
 simp only [Option.bind_eq_some_iff] at h
 obtain ⟨i, hi, hz⟩ := h
 intro w
 simp [zeroValue, typeInfo, hi, hz]
theorem makeMapE_sound {ops : Array Oper} {o : Oper} {x : CS} {t : TypeId} {e : Ef} (hop : o.op = .makeMap t none) (hg : guardOf (tgtOf ops) x.s o = .go []) (hd : ∀ d, o.dst = some d → d < x.s.sz)
  (he : makeMapE P x t = some e) {hi : Nat} {F : Own} {H : Heap} {a : Act} {w : World} {K : CS → Prop} {Q : Exit → Act → World → Prop} (hC : CC hi F x H a w) (hr : e.run hi o.dst x K) :
  wp1 P ops Q o (fun a' w' => ∃ x', CC hi F x' H a' w' ∧ K x') a w := by
 obtain ⟨⟨O, hM, hc⟩, hf, hn⟩ := hC
 unfold makeMapE at he
 simp only [Option.bind_eq_some_iff] at he
 obtain ⟨⟨et, k⟩, hk, he⟩ := he
 simp only [Option.some.injEq] at he
 subst he
 obtain ⟨_, hr⟩ := hr
 obtain ⟨_, hk⟩ := hr w.heap.size
 have hrun : (execOp a.eval o).run P w = .ok (.value (.map (some w.heap.size))) { w with heap := w.heap.push (.map #[] 0) } := by
  simp only [execOp, hop, Instr.makeMap, Sem.run_bind, Sem.run_pure, Result.andThen_ok, run_newObj, Option.map_none]
 refine wp1_exec hc hg hrun ⟨_, ?_, hk⟩
 obtain ⟨L, hB, hmo⟩ := hc.mm
 refine cc_step (sv := .s (.at (.mp x.s.next w.heap.size))) (L' := L) (O' := (w.heap.size, .map #[] 0) :: O) (h' := { x.h with ms := (x.s.next, ⟨w.heap.size, k.getD .i64, []⟩) :: x.h.ms }) (nx := x.s.next + 1) hc hd rfl (ok_at trivial) (.inr rfl) rfl hc.ok.2 hB ?_ ?_ ?_ (by omega)
 ·exact ⟨_, O, rfl, ⟨#[], 0, rfl, rfl⟩, hM⟩
 ·exact (hmo.push (.map #[] 0)).perm (List.perm_middle.symm)
 ·intro n h; exact hf n (by omega)
theorem mlenE_sound {ops : Array Oper} {o : Oper} {x : CS} {c : Call} {e : Ef} (hop : o.op = .call c) (hcal : c.callee = .builtin .len) (hg : guardOf (tgtOf ops) x.s o = .go []) (hd : ∀ d, o.dst = some d → d < x.s.sz)
  (he : mlenE P x c.argTypes c.args.toList = some e) {hi : Nat} {F : Own} {H : Heap} {a : Act} {w : World} {K : CS → Prop} {Q : Exit → Act → World → Prop} (hC : CC hi F x H a w) (hr : e.run hi o.dst x K) :
  wp1 P ops Q o (fun a' w' => ∃ x', CC hi F x' H a' w' ∧ K x') a w := by
 obtain ⟨⟨O, hM, hc⟩, hf, hn⟩ := hC
 unfold mlenE at he
 split at he
 ·rename_i t n r cs hts hops
  split at he
  ·rename_i kt et b hu hb
   simp only [Option.some.injEq] at he
   subst he
   obtain ⟨⟨hrb, hcs⟩, _, hk⟩ := hr
   have hrb : r = b.r := hrb
   subst hrb
   obtain ⟨p, O1, O2, rfl, hp, _⟩ := mapsR_look hM hb
   obtain ⟨es, clock, rfl, hes⟩ := hp
   obtain ⟨L, hB, hmo⟩ := hc.mm
   have hrow := (hmo.own (b.r, .map es clock) (by simp)).1
   have hts' : c.argTypes = #[t] := by apply Array.ext'; simpa using hts
   have hg' : (getObj b.r).run P w = .ok (.map es clock) w := by simp [getObj, Sem.run, hrow]
   have hlen : es.size = b.m.length := by
    have := congrArg List.length hes
    simpa using this
   refine wp1_exec hc hg (v := goInt b.m.length) (w' := w) (app_exec (ops := ops) hop hcal (by simp) (by simp) (vs := [(At.mp n b.r).den]) ?_ ?_) ⟨_, ?_, hk⟩
   ·have := opAts_den hc hops hcs trivial
    simpa using this
   ·rw [hts']
    simp only [builtin, Sem.run_bind]
    have : (Builtin.len_ #[t] o.type #[(At.mp n b.r).den]).run P w = .ok (goInt b.m.length) w := by
     simp only [Builtin.len_, At.den]
     simp [run_underlying hu, hg', hlen]
    rw [this]; rfl
   ·exact cc_same (sv := .s (.at (.k (goInt b.m.length)))) hM hc hd rfl (ok_k _) hf hn
  ·cases he
 ·cases he
theorem lookupE_sound {ops : Array Oper} {o : Oper} {x : CS} {t : TypeId} {m k : Operand} {ok : Bool} {e : Ef} (hop : o.op = .lookup t m k ok) (hg : guardOf (tgtOf ops) x.s o = .go []) (hd : ∀ d, o.dst = some d → d < x.s.sz)
  (he : lookupE P x t m k ok = some e) {hi : Nat} {F : Own} {H : Heap} {a : Act} {w : World} {K : CS → Prop} {Q : Exit → Act → World → Prop} (hC : CC hi F x H a w) (hr : e.run hi o.dst x K) :
  wp1 P ops Q o (fun a' w' => ∃ x', CC hi F x' H a' w' ∧ K x') a w := by
 obtain ⟨⟨O, hM, hc⟩, hf, hn⟩ := hC
 unfold lookupE at he
 simp only [Option.bind_eq_some_iff] at he
 obtain ⟨⟨et, kk⟩, hkk, z, hz, he⟩ := he
 simp only at he
 split at he
 ·rename_i kd0
  obtain ⟨kt, hu, hkt⟩ := keyKind_spec hkk
  split at he
  ·rename_i n r cm ka ck hm hk
   split at he
   ·rename_i kd i b hlit hb
    split at he
    ·rename_i hkd
     subst hkd
     split at he
     ·rename_i hone
      simp only [Option.some.injEq] at he
      subst he
      obtain ⟨⟨hrb, hcs⟩, _, hK⟩ := hr
      have hrb : r = b.r := hrb
      subst hrb
      have hcs := AllCk.append.1 hcs
      obtain ⟨p, O1, O2, rfl, hp, _⟩ := mapsR_look hM hb
      obtain ⟨L, hB, hmo⟩ := hc.mm
      have em : a.eval m = .map (some b.r) := opAt_den hc hm hcs.1 trivial
      have ek : a.eval k = .int b.kd i := (opAt_den hc hk hcs.2 trivial).trans (lit_den hlit)
      have hl := run_lookup_own hu hkt (zero1_spec hz) (MB.omap hp) (O := L ++ (O1 ++ p :: O2)) (by simp) (H := H) (w := w) (F := F) (by simpa using hmo) i ok
      have hrun : (execOp a.eval o).run P w = .ok (.value (if ok then .tuple #[(lookM b.m i).getD z, .bool (lookM b.m i).isSome] else (lookM b.m i).getD z)) w := by
       rw [← hl]
       simp only [execOp, hop, PrimOp.sem, em, ek]
      refine wp1_exec hc hg hrun ⟨_, ?_, hK⟩
      cases ok with
      | true =>
       refine cc_same (sv := .tup [.at (.v ((lookM b.m i).getD z)), .at (.k (.bool (lookM b.m i).isSome))]) hM hc hd ?_ ?_ hf hn
       ·simp [SV.rel, S1.den, At.den]
       ·intro y hy
        simp only [List.mem_cons, List.not_mem_nil, or_false] at hy
        rcases hy with rfl | rfl
        ·exact ok_at hone
        ·exact ok_k _
      | false =>
       exact cc_same (sv := .s (.at (.v ((lookM b.m i).getD z)))) hM hc hd (rel_of_den rfl) (ok_at hone) hf hn
     ·cases he
    ·cases he
   ·cases he
  ·cases he
 ·cases he
theorem updateE_sound {ops : Array Oper} {o : Oper} {x : CS} {t : TypeId} {m k v : Operand} {e : Ef} (hop : o.op = .mapUpdate t m k v ∨ o.op = .insert t m k v) (hg : guardOf (tgtOf ops) x.s o = .go []) (hdst : o.dst = none)
  (he : updateE P x t m k v = some e) {hi : Nat} {F : Own} {H : Heap} {a : Act} {w : World} {K : CS → Prop} {Q : Exit → Act → World → Prop} (hC : CC hi F x H a w) (hr : e.run hi o.dst x K) :
  wp1 P ops Q o (fun a' w' => ∃ x', CC hi F x' H a' w' ∧ K x') a w := by
 obtain ⟨⟨O, hM, hc⟩, hf, hn⟩ := hC
 unfold updateE at he
 simp only [Option.bind_eq_some_iff] at he
 obtain ⟨⟨et, kk⟩, hkk, he⟩ := he
 simp only at he
 split at he
 ·rename_i kd0
  obtain ⟨kt, hu, hkt⟩ := keyKind_spec hkk
  split at he
  ·rename_i n r cm ka va ck hm hk
   split at he
   ·rename_i kd i u b hlit hlu hb
    split at he
    ·rename_i hkd
     simp only [Bool.and_eq_true, decide_eq_true_eq] at hkd
     obtain ⟨hkd, hone⟩ := hkd
     subst hkd
     simp only [Option.some.injEq] at he
     subst he
     obtain ⟨⟨hrb, hcs⟩, _, hK⟩ := hr
     have hrb : r = b.r := hrb
     subst hrb
     have hcs := AllCk.append.1 hcs
     obtain ⟨p, O1, O2, rfl, hp, hset⟩ := mapsR_look hM hb
     obtain ⟨L, hB, hmo⟩ := hc.mm
     have em : a.eval m = .map (some b.r) := opAt_den hc hm hcs.1 trivial
     have ekv := opAts_den hc hk hcs.2 trivial
     simp only [List.map_cons, List.map_nil, List.cons.injEq, and_true] at ekv
     have ek : a.eval k = .int b.kd i := ekv.1.trans (lit_den hlit)
     have ev : a.eval v = u := ekv.2.trans (lit_den hlu)
     have hperm : Models w H ([p] ++ (L ++ (O1 ++ O2) ++ F)) := hmo.perm (by
      simp only [List.append_assoc, List.cons_append, List.nil_append]
      exact (List.perm_append_left_iff (L ++ O1)).2 (List.Perm.refl (p :: (O2 ++ F))) |> fun h => by
       simp only [List.append_assoc] at h ⊢
       rw [← List.append_assoc, ← List.append_assoc L O1]
       exact List.perm_middle)
     obtain ⟨v', w', H', O', h1, ⟨rfl, h3⟩, h4, h5⟩ := update_triple hu hkt (MB.omap hp) H i u w _ hperm
     have hex : (execOp a.eval o).run P w = .ok .skip w' := by
      have hs : ((PrimOp.mapUpdate t).sem [.map (some b.r), .int b.kd i, u]).run P w = ((Instr.mapUpdate t (.map (some b.r)) (.int b.kd i) u).run P w).andThen fun _ w' => .ok (.value (.bool false)) w' := by
       simp only [PrimOp.sem, Sem.run_bind, Sem.run_pure]
      rw [hs] at h1
      cases hmu : (Instr.mapUpdate t (.map (some b.r)) (.int b.kd i) u).run P w with
      | ok y w1 =>
       rw [hmu] at h1
       simp only [Result.andThen_ok, Result.ok.injEq] at h1
       obtain ⟨_, rfl⟩ := h1
       rcases hop with hop | hop
       ·simp only [execOp, hop, Sem.run_bind, Sem.run_pure, em, ek, ev, hmu, Result.andThen_ok]
       ·simp only [execOp, hop, Sem.run_bind, Sem.run_pure, em, ek, ev, hmu, Result.andThen_ok]
      | halt y w1 => rw [hmu] at h1; simp at h1
     refine wp1_skip hc hg hex ⟨_, ?_, hK⟩
     rw [hdst]
     obtain ⟨r', es', clock', hv', rfl, hes'⟩ := h3
     simp only [Value.map.injEq, Option.some.injEq] at hv'
     subst hv'
     refine cc_step (dst := none) (v := undef) (sv := .s (.at (.k undef))) (L' := L) (O' := O1 ++ (b.r, .map es' clock') :: O2) (nx := x.s.next) (h' := { x.h with ms := setMB x.h.ms n { b with m := updM b.m i u } }) hc (by simp) rfl (ok_k _) (.inl rfl) rfl hc.ok.2 hB ?_ ?_ hf hn
     ·exact hset _ _ ⟨es', clock', rfl, hes'⟩
     ·refine h5.perm ?_
      simp only [List.append_assoc, List.cons_append, List.nil_append]
      rw [← List.append_assoc, ← List.append_assoc L O1]
      exact List.perm_middle.symm
    ·cases he
   ·cases he
  ·cases he
 ·cases he
theorem bytesAt_spec : ∀ {l : List At} {bs : List UInt8}, bytesAt l = some bs → l.map At.den = bs.map fun b => Value.int .u8 (b.toNat : Int)
 | [], bs, h => by simp only [bytesAt, Option.some.injEq] at h; subst h; rfl
 | a :: r, bs, h => by
  unfold bytesAt at h
  split at h
  ·rename_i e; cases e
  ·rename_i n r' e
   simp only [List.cons.injEq] at e
   obtain ⟨rfl, rfl⟩ := e
   split at h
   ·rename_i hn
    simp only [Option.map_eq_some_iff] at h
    obtain ⟨bs', hb, rfl⟩ := h
    rw [List.map_cons, List.map_cons, bytesAt_spec hb]
    congr 1
    simp only [At.den]
    congr 1
    have : n.toNat < 256 := by omega
    simp [Nat.mod_eq_of_lt this]
    omega
   ·cases h
  ·cases h
theorem convE_sound {ops : Array Oper} {o : Oper} {x : CS} {ta tb : TypeId} {y : Operand} {e : Ef} (hop : o.op = .convert ta tb y) (hg : guardOf (tgtOf ops) x.s o = .go []) (hd : ∀ d, o.dst = some d → d < x.s.sz)
  (he : convE P x ta tb y = some e) {hi : Nat} {F : Own} {H : Heap} {a : Act} {w : World} {K : CS → Prop} {Q : Exit → Act → World → Prop} (hC : CC hi F x H a w) (hr : e.run hi o.dst x K) :
  wp1 P ops Q o (fun a' w' => ∃ x', CC hi F x' H a' w' ∧ K x') a w := by
 obtain ⟨⟨O, hM, hc⟩, hf, hn⟩ := hC
 unfold convE at he
 split at he
 ·rename_i el ya cs hs hdt hy
  split at he
  ·rename_i hel
   simp only [Option.bind_eq_some_iff] at he
   obtain ⟨⟨l, m, ck, rd⟩, hsrc, bs, hbs, he⟩ := he
   simp only [Option.some.injEq] at he
   subst he
   obtain ⟨hcs, _, hk⟩ := hr
   have hcs := AllCk.append.1 hcs
   have ey := opAt_den hc hy hcs.2 trivial
   have hbd := bytesAt_spec hbs
   have hrun : (execOp a.eval o).run P w = .ok (.value (.string ⟨bs.toArray⟩)) w := by
    have hcv : (Go.convert ta tb ya.den).run P w = .ok (.string ⟨bs.toArray⟩) w := by
     unfold srcOf at hsrc
     split at hsrc
     ·rename_i n r off len cap
      split at hsrc
      ·rename_i b hb
       simp only [] at hsrc
       split at hsrc
       ·rename_i hcond
        simp only [Bool.and_eq_true, beq_iff_eq] at hcond
        simp only [Option.some.injEq, Prod.mk.injEq] at hsrc
        obtain ⟨rfl, rfl, rfl, rfl⟩ := hsrc
        have hr : r = b.r := hcs.1
        subst hr
        obtain ⟨h1, _⟩ := box_seg hc hb hcond.1 hcond.2
        have hlen : bs.length = len := by
         have := congrArg List.length hbd
         rw [List.length_map, List.length_map, hcond.1, Nat.mul_one] at this
         exact this.symm
        subst hlen
        refine run_convert_bytes_back w ta tb el ⟨b.r, off, none⟩ cap bs hs hel hdt ?_
        intro j hj
        refine h1 j _ ?_
        rw [hbd, List.getElem?_map, List.getElem?_eq_getElem hj]
        rfl
       ·cases hsrc
      ·cases hsrc
     ·rename_i va vc
      simp only [Option.some.injEq, Prod.mk.injEq] at hsrc
      obtain ⟨rfl, rfl, rfl, rfl⟩ := hsrc
      simp only [bytesAt, Option.some.injEq] at hbs
      subst hbs
      cases va with
      | none => exact run_convert_bytes_nil w ta el hs hel 0 vc tb hdt
      | some ad => exact run_convert_bytes_back w ta tb el ad vc [] hs hel hdt (by simp)
     ·rename_i va vc
      simp only [Option.some.injEq, Prod.mk.injEq] at hsrc
      obtain ⟨rfl, rfl, rfl, rfl⟩ := hsrc
      simp only [bytesAt, Option.some.injEq] at hbs
      subst hbs
      cases va with
      | none => exact run_convert_bytes_nil w ta el hs hel 0 vc tb hdt
      | some ad => exact run_convert_bytes_back w ta tb el ad vc [] hs hel hdt (by simp)
     ·cases hsrc
    simp only [execOp, hop, Sem.run_bind, ey, hcv, Result.andThen_ok, Sem.run_pure]
   refine wp1_exec hc hg hrun ⟨_, ?_, hk⟩
   exact cc_quiet (sv := .s (.at (.k (.string ⟨bs.toArray⟩)))) hM hc hd rfl (ok_k _) hf hn
  ·cases he
 ·cases he
end Go.Sx

/- Runs of known values are sound. Generic. -/
namespace Go.Sx
open Go
variable {P : Program}
theorem wp1_same {ops : Array Oper} {Q : Exit → Act → World → Prop} {o o' : Oper} {K : Act → World → Prop} {a : Act} {w : World} (hg : o.guard = o'.guard) (hd : o.dst = o'.dst) (he : execOp a.eval o = execOp a.eval o')
  (h : wp1 P ops Q o' K a w) : wp1 P ops Q o K a w := by
 have hw : Region.wanted o (yielded ops a.tmps) = Region.wanted o' (yielded ops a.tmps) := by unfold Region.wanted; rw [hg]
 unfold wp1 at h ⊢
 rw [hw]
 have h1 : o.wp P a w K Q = o'.wp P a w K Q := by
  unfold Oper.wp Oper.upon
  rw [he, hd]
 have h2 : o.asks P a w = o'.asks P a w := by unfold Oper.asks; rw [he]
 rw [h1, h2, hd]
 exact h
theorem mksE_sound {c : Cfg} {ops : Array Oper} {o : Oper} {x : CS} {name : Nat} {t : TypeId} {l k : Operand} {e : Ef} (hop : o.op = .makeSlice t l k)
  (he : mksE c ops name o x t l k = some e) {hi : Nat} {F : Own} {H : Heap} (hgl : GlobOk c.glob H) {a : Act} {w : World} {K : CS → Prop} {Q : Exit → Act → World → Prop} (hC : CC hi F x H a w) (hr : e.run hi o.dst x K) :
  wp1 c.P ops Q o (fun a' w' => ∃ x', CC hi F x' H a' w' ∧ K x') a w := by
 unfold mksE at he
 split at he
 ·rename_i lv cl kv ck hl hk
  simp only [Option.bind_eq_some_iff] at he
  obtain ⟨⟨y, fp⟩, hy, he⟩ := he
  have hc := hC.1.choose_spec.2
  have ecl := opAt_nil hl
  have eck := opAt_nil hk
  subst ecl; subst eck
  have el : a.eval l = lv := opAt_den hc hl trivial trivial
  have ek : a.eval k = kv := opAt_den hc hk trivial trivial
  have := light_sound (o := { o with op := .makeSlice t (.const lv) (.const kv) }) (fun _ h => by cases h) hy he hgl (Q := Q) hC hr
  refine wp1_same (o' := { o with op := .makeSlice t (.const lv) (.const kv) }) rfl rfl ?_ this
  simp only [execOp, hop, el, ek]
  rfl
 ·cases he
/-! What an effect hangs on -/
theorem srcOf_cong {x x' : CS} {size : Nat} {a : At} {l : List At} {m : Nat} {ck : List Ck} {rd : List Nat} (h : srcOf x size a = some (l, m, ck, rd)) (hm : ∀ n ∈ rd, x'.s.mem n = x.s.mem n) : srcOf x' size a = some (l, m, ck, rd) := by
 unfold srcOf at h ⊢
 split at h
 ·rename_i n r off len cap
  split at h
  ·rename_i b hb
   have h0 := h
   simp only [] at h
   split at h
   ·simp only [Option.some.injEq, Prod.mk.injEq] at h
    obtain ⟨rfl, rfl, rfl, rfl⟩ := h
    simp only
    rw [hm n (by simp), hb]
    exact h0
   ·cases h
  ·cases h
 ·exact h
 ·exact h
 ·cases h
theorem srcT_cong {x x' : CS} {size : Nat} {t : TypeId} {a : At} {l : List At} {m : Nat} {ck : List Ck} {rd : List Nat} (h : srcT P x size t a = some (l, m, ck, rd)) (hm : ∀ n ∈ rd, x'.s.mem n = x.s.mem n) : srcT P x' size t a = some (l, m, ck, rd) := by
 unfold srcT at h ⊢
 split at h
 ·exact srcOf_cong h hm
 ·exact h
 ·cases h
theorem appendGo_rd {x : CS} {e : TypeId} {size : Nat} {sa : At} {news : List At} {m : Nat} {ck : List Ck} {rd : List Nat} {f : Ef} (h : appendGo P x e size sa news m ck rd = some f) :
  f.lo.isSome = true ∧ (∀ k ∈ rd, k ∈ f.rd) ∧ (m ≠ 0 → ∀ n r off len cap, sa = .sl n r off len cap → n ∈ f.rd) := by
 unfold appendGo at h
 split at h
 ·rename_i hm0
  split at h
  ·split at h
   ·simp only [Option.some.injEq] at h; subst h; exact ⟨rfl, fun _ h => h, fun h => absurd hm0 h⟩
   ·cases h
  ·cases h
 ·split at h
  ·rename_i n r off len cap
   simp only [] at h
   split at h
   ·cases h
   ·split at h
    ·cases h
    ·split at h
     ·cases h
     ·have fin : ∀ {f : Ef} {cs : List Ck} {G : G Upd} {wr : List Nat}, some (Ef.mk cs G (n :: rd) wr (some x.s.next)) = some f → f.lo.isSome = true ∧ (∀ k ∈ rd, k ∈ f.rd) ∧ (m ≠ 0 → ∀ n' r' off' len' cap', At.sl n r off len cap = .sl n' r' off' len' cap' → n' ∈ f.rd) := by
       intro f cs G wr h
       simp only [Option.some.injEq] at h
       subst h
       refine ⟨rfl, fun k hk => List.mem_cons_of_mem _ hk, fun _ n' r' off' len' cap' he => ?_⟩
       simp only [At.sl.injEq] at he
       rw [← he.1]; simp
      split at h
      ·split at h
       ·split at h
        ·exact fin h
        ·cases h
       ·exact fin h
      ·split at h
       ·split at h
        ·split at h
         ·exact fin h
         ·cases h
        ·cases h
       ·split at h
        ·exact fin h
        ·cases h
  ·rename_i hns
   split at h
   ·split at h
    ·cases h
    ·simp only [Option.some.injEq] at h
     subst h
     exact ⟨rfl, fun _ h => h, fun _ n r off len cap he => absurd he (hns n r off len cap)⟩
   ·cases h
theorem appendGo_cong {x x' : CS} {e : TypeId} {size : Nat} {sa : At} {news : List At} {m : Nat} {ck : List Ck} {rd : List Nat} {f : Ef} (h : appendGo P x e size sa news m ck rd = some f)
  (hn : x'.s.next = x.s.next) (hh : x'.h = x.h) (hm : ∀ n ∈ f.rd, x'.s.mem n = x.s.mem n) : appendGo P x' e size sa news m ck rd = some f := by
 obtain ⟨_, _, hs⟩ := appendGo_rd h
 have hg : ∀ need known old, growG x' e size need known old = growG x e size need known old := by
  intro need known old
  unfold growG
  rw [hn, hh]
 by_cases hm0 : m = 0
 ·unfold appendGo at h ⊢
  rw [if_pos hm0] at h ⊢
  rw [hn, hh]; exact h
 ·unfold appendGo at h ⊢
  rw [if_neg hm0] at h ⊢
  cases sa with
  | sl n r off len cap =>
   have hmem := hm n (hs hm0 n r off len cap rfl)
   simp only [hmem, hn, hh, hg] at h ⊢
   exact h
  | _ => simp only [hn, hh, hg] at h ⊢; exact h
theorem operands_call {c : Call} : (Op.call c).operands.toList = (match c.callee with | .value f => [f] | .invoke r _ => [r] | .builtin _ => []) ++ c.args.toList := by
 simp only [Op.operands, Call.operands]
 cases c.callee <;> simp
theorem heavyE_cong {c : Cfg} {call : CallF} {ops : Array Oper} {name : Nat} {o : Oper} {x x' : CS} {e : Ef} (hl : (pkOf c.P o.op).isLight = false) (h : heavyE c call ops name o x (pkOf c.P o.op) = some e)
  (hz : x'.s.sz = x.s.sz) (ht : ∀ t ∈ o.looksAt ops, x'.s.tmps t = x.s.tmps t) (hm : ∀ n ∈ e.rd, x'.s.mem n = x.s.mem n) (hh : e.lo.isSome = true → x'.s.next = x.s.next ∧ x'.h = x.h) :
  heavyE c call ops name o x' (pkOf c.P o.op) = some e := by
 have hx : ∀ y ∈ o.op.operands.toList, Ea x.s x'.s y := by
  rintro y hy t rfl
  refine ht t ?_
  simp only [Oper.looksAt, List.mem_append]
  left
  exact List.mem_filterMap.2 ⟨_, hy, rfl⟩
 unfold pkOf at h hl ⊢
 split at h
 ·rename_i cl hop
  rw [hop, operands_call] at hx
  have hargs : ∀ y ∈ cl.args.toList, Ea x.s x'.s y := fun y hy => hx y (List.mem_append_right _ hy)
  split at h
  ·rename_i f hf
   rw [hf] at hx
   exact callE_cong (P := c.P) h (hx f (by simp)) hargs hm hh
  ·
   simp only [heavyE] at h ⊢
   unfold appendE at h ⊢
   rw [opAts_congr hargs]
   split at h
   ·split at h
    ·simp only [Option.bind_eq_some_iff] at h
     obtain ⟨size, hsz, h⟩ := h
     split at h
     ·cases h
     ·rename_i hk
      simp only [Option.bind_eq_some_iff] at h
      obtain ⟨⟨news, m, ck, rd⟩, hs, h⟩ := h
      simp only [] at h
      split at h
      ·rename_i hfit
       obtain ⟨h1, h2, _⟩ := appendGo_rd h
       obtain ⟨e1, e2⟩ := hh h1
       have hs' := srcT_cong hs fun n hn => hm n (h2 n hn)
       have h' := appendGo_cong h e1 e2 hm
       simp only [hsz, Option.bind_some, if_neg hk, hs', hfit, if_true]
       exact h'
      ·cases h
    ·cases h
   ·cases h
  ·
   simp only [heavyE] at h ⊢
   split at h
   ·rename_i hdst
    simp only [hdst, if_true]
    unfold clearE at h ⊢
    rw [opAts_congr hargs]
    split at h
    ·split at h
     ·simp only [Option.bind_eq_some_iff] at h
      obtain ⟨size, hsz, z, hz', h⟩ := h
      split at h
      ·cases h
      ·rename_i hk
       simp only [hsz, hz', Option.bind_some, if_neg hk]
       split at h
       ·rename_i n r off len cap _
        split at h
        ·cases h
        ·rename_i b hb
         split at h
         ·rename_i hfit
          simp only [Option.some.injEq] at h
          subst h
          rw [hm n (by simp), hb]
          simp only [hfit, if_true]
         ·cases h
       ·split at h
        ·rename_i hem
         simp only [hem, if_true]
         exact h
        ·cases h
     ·cases h
    ·cases h
   ·cases h
  ·
   split at h
   ·rename_i hmt
    rw [if_pos hmt]
    simp only [heavyE] at h ⊢
    unfold mlenE at h ⊢
    rw [opAts_congr hargs]
    split at h
    ·split at h
     ·rename_i kt et b hu hb
      simp only [Option.some.injEq] at h
      subst h
      obtain ⟨e1, e2⟩ := hh rfl
      simp only [hu, e2, hb, e1]
     ·cases h
    ·cases h
   ·cases h
  ·
   simp only [heavyE] at h ⊢
   unfold copyE at h ⊢
   rw [opAts_congr hargs]
   split at h
   ·split at h
    ·simp only [Option.bind_eq_some_iff] at h
     obtain ⟨size, hsz, h⟩ := h
     split at h
     ·cases h
     ·rename_i hk
      simp only [Option.bind_eq_some_iff] at h
      obtain ⟨⟨news, m, ck, rd⟩, hs, h⟩ := h
      simp only [] at h
      split at h
      ·rename_i n r off len cap _
       split at h
       ·cases h
       ·rename_i b hb
        split at h
        ·cases h
        ·rename_i hold
         simp only [Option.some.injEq] at h
         subst h
         have hs' := srcOf_cong hs fun n hn => hm n (List.mem_cons_of_mem _ hn)
         simp only [hsz, Option.bind_some, if_neg hk, hs']
         rw [hm n (by simp), hb]
         simp only [if_neg hold]
      ·split at h
       ·rename_i hem
        simp only [Option.some.injEq] at h
        subst h
        have hs' := srcOf_cong hs fun n hn => hm n hn
        simp only [hsz, Option.bind_some, if_neg hk, hs', hem, if_true]
       ·cases h
    ·cases h
   ·cases h
  ·cases h
 ·
  simp only [heavyE] at h ⊢
  unfold makeMapE at h ⊢
  simp only [Option.bind_eq_some_iff] at h
  obtain ⟨⟨et, k⟩, hk, h⟩ := h
  simp only [Option.some.injEq] at h
  subst h
  obtain ⟨e1, e2⟩ := hh rfl
  simp only [hk, Option.bind_some, e1, e2]
 ·rename_i t m k ok hop
  rw [hop] at hx
  simp only [heavyE] at h ⊢
  unfold lookupE at h ⊢
  rw [opAt_congr (hx m (by simp [Op.operands])), opAt_congr (hx k (by simp [Op.operands]))]
  have h0 := h
  simp only [Option.bind_eq_some_iff] at h
  obtain ⟨⟨et, kk⟩, hkk, z, hz', h⟩ := h
  have hlo : e.lo.isSome = true := by
   split at h
   ·split at h
    ·split at h
     ·split at h
      ·split at h
       ·simp only [Option.some.injEq] at h; subst h; rfl
       ·cases h
      ·cases h
     ·cases h
    ·cases h
   ·cases h
  obtain ⟨e1, e2⟩ := hh hlo
  rw [e1, e2]; exact h0
 ·rename_i t m k v hop
  rw [hop] at hx
  simp only [heavyE] at h ⊢
  split at h
  ·rename_i hdst
   simp only [hdst, if_true]
   unfold updateE at h ⊢
   rw [opAt_congr (hx m (by simp [Op.operands])), opAts_congr (xs := [k, v]) (fun y hy => hx y (by simp only [List.mem_cons, List.not_mem_nil, or_false] at hy; rcases hy with rfl | rfl <;> simp [Op.operands]))]
   have h0 := h
   simp only [Option.bind_eq_some_iff] at h
   obtain ⟨⟨et, kk⟩, hkk, h⟩ := h
   have hlo : e.lo.isSome = true := by
    split at h
    ·split at h
     ·split at h
      ·split at h
       ·simp only [Option.some.injEq] at h; subst h; rfl
       ·cases h
      ·cases h
     ·cases h
    ·cases h
   obtain ⟨e1, e2⟩ := hh hlo
   rw [e1, e2]; exact h0
  ·cases h
 ·rename_i t m k v hop
  rw [hop] at hx
  simp only [heavyE] at h ⊢
  split at h
  ·rename_i hdst
   simp only [hdst, if_true]
   unfold updateE at h ⊢
   rw [opAt_congr (hx m (by simp [Op.operands])), opAts_congr (xs := [k, v]) (fun y hy => hx y (by simp only [List.mem_cons, List.not_mem_nil, or_false] at hy; rcases hy with rfl | rfl <;> simp [Op.operands]))]
   have h0 := h
   simp only [Option.bind_eq_some_iff] at h
   obtain ⟨⟨et, kk⟩, hkk, h⟩ := h
   have hlo : e.lo.isSome = true := by
    split at h
    ·split at h
     ·split at h
      ·split at h
       ·simp only [Option.some.injEq] at h; subst h; rfl
       ·cases h
      ·cases h
     ·cases h
    ·cases h
   obtain ⟨e1, e2⟩ := hh hlo
   rw [e1, e2]; exact h0
  ·cases h
 ·
  rename_i t l k hop
  have hx' := hx
  rw [hop] at hx
  simp only [heavyE] at h ⊢
  unfold mksE at h ⊢
  rw [opAt_congr (hx l (by simp [Op.operands])), opAt_congr (hx k (by simp [Op.operands]))]
  split at h
  ·rename_i lv cl kv ck h1 h2
   simp only [Option.bind_eq_some_iff] at h
   obtain ⟨⟨y, fp⟩, hy, h⟩ := h
   have hrd := (ofNF_lo h).2
   have hy' := nf_congr (s' := x'.s) hy hz (fun t ht' => ht t (by
    simp only [Oper.looksAt, List.mem_append] at ht' ⊢
    rcases ht' with ht' | ht'
    ·simp [Op.operands] at ht'
    ·exact .inr ht')) (fun n hn => hm n (by rw [hrd]; exact hn))
   simp only [hy', Option.bind_some]
   exact h
  ·cases h
 ·
  rename_i ta tb y hop
  rw [hop] at hx
  split at h
  ·cases h
  ·rename_i hnl
   simp only [if_neg hnl]
   simp only [heavyE] at h ⊢
   unfold convE at h ⊢
   rw [opAt_congr (hx y (by simp [Op.operands]))]
   split at h
   ·split at h
    ·rename_i hel
     simp only [Option.bind_eq_some_iff] at h
     obtain ⟨⟨l, m, ck, rd⟩, hs, bs, hb, h⟩ := h
     simp only [Option.some.injEq] at h
     subst h
     have hs' := srcOf_cong hs fun n hn => hm n hn
     simp only [hel, hs', Option.bind_some, hb]
    ·cases h
   ·cases h
 ·cases h
theorem heavyE_sound {c : Cfg} (hokf : ∀ f, c.ok f = true → OkFn c.P f) {call : CallF} {H : Heap} (hcall : CallSound c.P c.ok H call) (hgl : GlobOk c.glob H) {ops : Array Oper} {name : Nat} {o : Oper} {x : CS} {e : Ef}
  (hg : guardOf (tgtOf ops) x.s o = .go []) (hd : ∀ d, o.dst = some d → d < x.s.sz) (he : heavyE c call ops name o x (pkOf c.P o.op) = some e)
  {hi : Nat} {F : Own} {a : Act} {w : World} {K : CS → Prop} {Q : Exit → Act → World → Prop} (hC : CC hi F x H a w) (hr : e.run hi o.dst x K) : wp1 c.P ops Q o (fun a' w' => ∃ x', CC hi F x' H a' w' ∧ K x') a w := by
 unfold pkOf at he
 split at he
 ·rename_i cl hop
  split at he
  ·rename_i f hf
   exact callE_sound hokf hcall hop hf hg hd he hC hr
  ·rename_i hf
   exact appendE_sound hop hf hg hd he hC hr
  ·rename_i hf
   simp only [heavyE] at he
   split at he
   ·rename_i hdst
    exact clearE_sound hop hf hg (by simpa using hdst) he hC hr
   ·cases he
  ·rename_i hf
   split at he
   ·exact mlenE_sound hop hf hg hd he hC hr
   ·cases he
  ·rename_i hf
   exact copyE_sound hop hf hg hd he hC hr
  ·cases he
 ·rename_i t hop
  exact makeMapE_sound hop hg hd he hC hr
 ·rename_i t m k ok hop
  exact lookupE_sound hop hg hd he hC hr
 ·rename_i t m k v hop
  simp only [heavyE] at he
  split at he
  ·rename_i hdst
   exact updateE_sound (.inl hop) hg (by simpa using hdst) he hC hr
  ·cases he
 ·rename_i t m k v hop
  simp only [heavyE] at he
  split at he
  ·rename_i hdst
   exact updateE_sound (.inr hop) hg (by simpa using hdst) he hC hr
  ·cases he
 ·rename_i t l k hop
  exact mksE_sound hop he hgl hC hr
 ·rename_i ta tb y hop
  split at he
  ·cases he
  ·exact convE_sound hop hg hd he hC hr
 ·cases he
theorem cN_ok {c : Cfg} (hokf : ∀ f, c.ok f = true → OkFn c.P f) {H : Heap} (hgl : GlobOk c.glob H) (call : CallF) (hcall : CallSound c.P c.ok H call) : NOk c.P (cN c call) H := by
 constructor
 ·intro ops base i o x x' e h hz ht hm hh
  unfold cN at h ⊢
  simp only [] at h ⊢
  split at h
  ·rename_i hl
   rw [if_pos hl]
   simp only [Option.bind_eq_some_iff] at h
   obtain ⟨⟨y, fp⟩, hy, he⟩ := h
   have hrd := (ofNF_lo he).2
   have := nf_congr (s' := x'.s) hy hz ht (fun n hn => hm n (by rw [hrd]; exact hn))
   simp only [this, Option.bind_some]
   exact he
  ·rename_i hl
   rw [if_neg hl]
   have hd : dstOk x'.s o.dst = dstOk x.s o.dst := by unfold dstOk; rw [hz]
   have hg : guardOf (tgtOf ops) x'.s o = guardOf (tgtOf ops) x.s o := by
    refine guardOf_congr fun j want t h1 h2 => ht t ?_
    simp only [Oper.looksAt, h1, List.mem_append]
    right
    unfold tgtOf at h2
    simp [h2]
   rw [hd, hg]
   split at h
   ·cases h
   ·rename_i hdo
    rw [if_neg hdo]
    split at h
    ·exact h
    ·exact heavyE_cong (by simpa using hl) h hz ht hm hh
    ·cases h
 ·intro ops base tab i o x e ho he F a w K Q hC hr
  simp only at ho he hC hr ⊢
  unfold cN at he
  simp only [] at he
  split at he
  ·simp only [Option.bind_eq_some_iff] at he
   obtain ⟨⟨y, fp⟩, hy, he⟩ := he
   exact light_sound (fun _ h => by cases h) hy he hgl hC hr
  ·split at he
   ·cases he
   ·rename_i hdo
    have hd : ∀ d, o.dst = some d → d < x.s.sz := by
     intro d hd
     simp only [hd, dstOk, Bool.not_eq_true', decide_eq_false_iff_not, Decidable.not_not] at hdo
     exact hdo
    split at he
    ·rename_i hg
     simp only [Option.some.injEq] at he
     subst he
     obtain ⟨⟨O, hM, hc⟩, hf, hn⟩ := hC
     obtain ⟨_, _, hk⟩ := hr
     unfold wp1
     rw [if_neg (by simp [guard_skip hc hg])]
     exact ⟨_, cc_quiet (sv := .s (.at (.k undef))) hM hc hd rfl (ok_k _) hf hn, hk⟩
    ·rename_i hg
     exact heavyE_sound hokf hcall hgl hg hd he hC hr
    ·cases he
end Go.Sx

/- Tables of numbers that the program's text lays; a run's result. Generic. -/
namespace Go.Sx
open Go Go.ChangeShapes Go.WideShapes
variable {P : Program}
theorem read_cells {H : Heap} {g : Nat} {cs : List Value} (h : ∀ i v, cs[i]? = some v → H.cell? ⟨g, i, none⟩ = some v) {off m : Nat} (hle : off + m ≤ cs.length) : H.read (.pointer (some ⟨g, off, none⟩)) m = some ((cs.drop off).take m) := by
 simp only [Heap.read]
 have key : ∀ (n i : Nat), i + n = m → (List.range' i n).mapM (fun i => H.cell? ((⟨g, off, none⟩ : Addr).add i)) = some (((cs.drop off).drop i).take n) := by
  intro n
  induction n with
  | zero => intro i _; simp
  | succ n ih =>
   intro i hi
   have hlt : off + i < cs.length := by omega
   have hc : H.cell? ((⟨g, off, none⟩ : Addr).add i) = some cs[off + i] := by
    rw [add_none]
    exact h _ _ (List.getElem?_eq_getElem hlt)
   rw [List.range'_succ, List.mapM_cons, hc, ih (i + 1) (by omega)]
   simp only [Option.pure_def, Option.bind_eq_bind, Option.bind_some]
   congr 1
   rw [show (cs.drop off).drop i = cs[off + i] :: (cs.drop off).drop (i + 1) by
    rw [List.drop_drop, List.drop_drop, List.drop_eq_getElem_cons hlt]; rfl]
   rfl
 rw [List.range_eq_range']
 simpa using key m 0 (by omega)
/-- A listed table of numbers. -/
theorem ints_of_laid {T : Type} {enc : TypeId × Value → T} {w : World} {base : Nat} {sp : Nat → Bool} {held : Bool} {fuel : Nat} {t e : TypeId} {n b : Nat} {k : IntKind} {cs : Array Value} {l : List Int} {ps : List MemPlace} (ht : P.underlying t = some (.array n e)) (he : P.underlying e = some (.int k)) (hc : P.cellsOf e = 1)
  (hn : l.length = n) (hd : DataW.trod enc P w base sp held fuel t cs.toList = some (.agg (l.map fun s => .lit (.int k s)), ps)) (hv : ∀ i : Nat, w.cell? ⟨b, i, none⟩ = cs[i]?) :
  ∀ i v, (l.map fun n => Value.int k n)[i]? = some v → (heapOf w).cell? ⟨b, i, none⟩ = some v := by
 obtain ⟨xs, m, _, hx, hlen, hxl, hel⟩ := DataW.trod_array ht hd
 simp only [Prod.mk.injEq, DataW.agg.injEq] at hx
 intro i r hr
 rw [List.getElem?_map, Option.map_eq_some_iff] at hr
 obtain ⟨s, hs, rfl⟩ := hr
 have hi : i < n := by rw [← hn]; exact (List.getElem?_eq_some_iff.1 hs).1
 have hix : i < xs.length := by omega
 have h1 := hel i hi
 rw [List.getElem?_eq_getElem hix, hc, Nat.mul_one] at h1
 obtain ⟨u, hu, hux, _⟩ := DataW.trod_int he h1
 have hsu : s = u := by
  have := congrArg (fun l => l[i]?) hx.1
  simp only [List.getElem?_map, hs, List.getElem?_eq_getElem hix, Option.map_some, Option.some.injEq, hux, DataW.lit.injEq, Lit.int.injEq, true_and] at this
  exact this
 have hcell : cs[i]? = some (.int k s) := by
  have := congrArg (fun l => l[0]?) hu
  simp only [List.getElem?_take, List.getElem?_drop, Nat.add_zero] at this
  simp only [Nat.lt_add_one, if_true, Array.getElem?_toList, List.getElem?_cons_zero] at this
  rw [this, hsu]
 rw [heapOf_cell, hv i, hcell]
theorem globOk_one {g : Nat} {cs : List Value} {H : Heap} (ho : Ones cs) (h : ∀ i v, cs[i]? = some v → H.cell? ⟨g, i, none⟩ = some v) : GlobOk (fun n => if n = g then some cs else none) H := by
 intro n ds hn
 simp only [] at hn
 split at hn
 ·rename_i e
  simp only [Option.some.injEq] at hn
  subst hn; subst e
  exact ⟨ho, fun off m hle => read_cells h hle⟩
 ·cases hn
/-- A run whose result is true. -/
def isT (r : SV × CS) : Bool := match r.1 with | .s (.at (.k (.bool b))) => b | _ => false
/-- The run of a function without arguments ends in true. (A structure: so that nobody looks into it but who asks.) -/
structure Ran (c : Cfg) (depth loops : Nat) (f : FuncId) : Prop where
 h : (runG c depth loops f [] [] 0 ⟨[], []⟩).den fun r => isT r = true
theorem Ran.reckon {c : Cfg} {depth loops : Nat} {f : FuncId} (n N : Nat) (h : ∀ k : Nat → Nat, ((G.exN n (runG c depth loops f [] [] 0 ⟨[], []⟩) ((List.range N).map k)).x, (G.exN n (runG c depth loops f [] [] 0 ⟨[], []⟩) ((List.range N).map k)).fine isT) =
  ((G.exN n (runG c depth loops f [] [] 0 ⟨[], []⟩) ((List.range N).map k)).y, true)) : Ran c depth loops f := by
 refine ⟨G.reckon (p := isT) (fun _ h => h) n N _ ?_⟩
 intro k
 have := h k
 rw [Prod.mk.injEq] at this
 exact this
end Go.Sx

/- Arguments that are slices. Generic. -/
namespace Go.Sx
open Go Go.ChangeShapes Go.WideShapes
variable {P : Program}
theorem wf_ints {H : Heap} {n : Nat} {e : TypeId} (he : P.underlying e = some (.int .i64)) : ∀ {rows : List (List Value)}, (∀ r ∈ rows, Wf P H n e r) → ∃ l : List Int, rows = l.map fun n => [.int .i64 n]
 | [], _ => ⟨[], rfl⟩
 | r :: rs, h => by
  obtain ⟨l, hl⟩ := wf_ints he (rows := rs) fun x hx => h x (by simp [hx])
  have := h r (by simp)
  cases n with
  | zero => exact this.elim
  | succ n =>
   unfold Wf at this
   rw [he] at this
   obtain ⟨x, rfl, _⟩ := this
   exact ⟨x :: l, by rw [hl]; rfl⟩
end Go.Sx

/- The same runs, reckoned faster: plain operations at once, checks of order once for a region. Generic. -/
namespace Go.Sx
open Go
def qS1 (s : SS) (x : Operand) : Option S1 :=
 match x with
 | .tmp t =>
  match s.tmps t with
  | .s v => if v.known then some v else none
  | .tup _ => none
  | .opt _ _ => none
 | .const v => some (constS1 v)
 | .global _ => none
 | .func _ => none
def qPl (s : SS) (x : Operand) : Option Value :=
 match qS1 s x with
 | some (.at a) => match a with
  | .k v => some v
  | _ => none
 | _ => none
abbrev QF := Program → SS → Option SV
def qNo : QF := fun _ _ => none
def qMove (x : Operand) : QF := fun _ s => match qS1 s x with | some v => some (nrmSV (.s v)) | none => none
def qInt (op : BinOp) : IntKind → Int → Int → Option Value :=
 BinOp.casesOn (motive := fun _ => IntKind → Int → Int → Option Value) op
  (add := fun k a b => some (.int k (k.wrap (a + b)))) (sub := fun k a b => some (.int k (k.wrap (a - b)))) (mul := fun k a b => some (.int k (k.wrap (a * b))))
  (quo := fun _ _ _ => none) (rem := fun _ _ _ => none) (and := fun _ _ _ => none) (or := fun _ _ _ => none) (xor := fun _ _ _ => none) (shl := fun _ _ _ => none) (shr := fun _ _ _ => none) (andNot := fun _ _ _ => none)
  (eql := fun _ a b => some (.bool (a == b))) (neq := fun _ a b => some (.bool (a != b))) (lss := fun _ a b => some (.bool (decide (a < b)))) (leq := fun _ a b => some (.bool (decide (a ≤ b))))
  (gtr := fun _ a b => some (.bool (decide (a > b)))) (geq := fun _ a b => some (.bool (decide (a ≥ b))))
theorem qInt_eq {op : BinOp} {k : IntKind} {a b : Int} {v : Value} (h : qInt op k a b = some v) : evalInt op k a b = some v ∧ op ≠ .shl ∧ op ≠ .shr ∧ plainK (.k v) = some v := by
 cases op <;> simp only [qInt, evalInt, reduceCtorEq, Option.some.injEq] at h ⊢ <;> subst h <;> exact ⟨rfl, by simp, by simp, rfl⟩
def qBin2 (op : BinOp) (bk : BK) (u v : Value) : Option SV :=
 match bk with
 | .int => match u with
  | .int k a => match v with
   | .int k' b => if k = k' then match qInt op k a b with | some r => some (.s (.at (.k r))) | none => none else none
   | _ => none
  | _ => none
 | _ => none
def qBin (op : BinOp) (t : TypeId) (x y : Operand) (_ : TypeId) : QF := fun P s =>
 match bkOf P t with
 | some bk => match qPl s x with
  | some u => match qPl s y with
   | some v => qBin2 op bk u v
   | none => none
  | none => none
 | none => none
def qOp (op : Op) : QF :=
 Op.casesOn (motive := fun _ => QF) op (move := qMove) (assign := qMove) (pick := fun _ _ _ => qNo) (alloc := fun _ => qNo) (box := fun _ _ => qNo) (build := fun _ _ => qNo) (buildSlice := fun _ _ _ => qNo) (insert := fun _ _ _ _ => qNo)
  (load := fun _ _ => qNo) (store := fun _ _ _ => qNo) (ready := fun _ => qNo) (waits := fun _ => qNo) (nilCheck := fun _ => qNo) (binOp := qBin) (unOp := fun _ _ _ => qNo) (convert := fun _ _ _ => qNo) (sliceToArrayPointer := fun _ _ => qNo)
  (makeInterface := fun _ _ => qNo) (makeFunc := fun _ _ _ => qNo) (makeMap := fun _ _ => qNo) (makeChan := fun _ _ => qNo) (makeSlice := fun _ _ _ => qNo) (slice := fun _ _ _ _ _ => qNo) (fieldAddr := fun _ _ _ => qNo) (field := fun _ _ _ => qNo)
  (indexAddr := fun _ _ _ => qNo) (index := fun _ _ _ => qNo) (lookup := fun _ _ _ _ => qNo) (mapUpdate := fun _ _ _ _ => qNo) (mapEntry := fun _ _ _ => qNo) (entryStore := fun _ _ _ _ => qNo) (range := fun _ _ => qNo) (next := fun _ _ => qNo) (entry := fun _ => qNo)
  (typeAssert := fun _ _ _ _ => qNo) (extract := fun _ _ => qNo) (call := fun _ => qNo) (go := fun _ => qNo) (defer := fun _ => qNo) (panic := fun _ => qNo) (send := fun _ _ => qNo) (recv := fun _ _ _ => qNo) (select := fun _ _ => qNo)
def qOper (P : Program) (o : Oper) (s : SS) : Option (Nat × SV) :=
 match o.guard with
 | some _ => none
 | none => match o.dst with
  | none => none
  | some d => match Nat.blt d s.sz with
   | false => none
   | true => match qOp o.op P s with | some v => some (d, v) | none => none
def trivE (v : SV) : Ef := ⟨[], .done ⟨some v, [], none⟩, [], [], none⟩
theorem qS1_eq {s : SS} {x : Operand} {v : S1} (h : qS1 s x = some v) : opS1 s [] x = some (v, []) := by
 unfold qS1 at h
 unfold opS1
 split at h
 ·split at h
  ·rename_i hs
   split at h
   ·rename_i hk
    simp only [Option.some.injEq] at h; subst h
    simp only [hs, hk, if_true]
   ·cases h
  ·cases h
  ·cases h
 ·simp only [Option.some.injEq] at h; subst h; rfl
 ·cases h
 ·cases h
theorem qPl_eq {s : SS} {x : Operand} {v : Value} (h : qPl s x = some v) : opAt s [] x = some (.k v, []) := by
 unfold qPl at h
 split at h
 ·rename_i hx
  split at h
  ·simp only [Option.some.injEq] at h; subst h
   simp only [opAt, qS1_eq hx]
  ·cases h
 ·cases h
theorem qOp_nf {P : Program} {op : Op} {s : SS} {v : SV} (h : qOp op P s = some v) (okf : FuncId → Bool) (rules : FuncId → Option (List Nat)) (name : Nat) (o : Oper) (ho : o.op = op) :
  (pkOf P op).isLight = true ∧ ∃ w : S1, nfGo P okf rules false name o [] s = some (.fl [] .sil (fun _ => .s w), {}) ∧ v = nrmSV (.s w) := by
 have mv : ∀ x, qMove x P s = some v → ∃ w : S1, moveNF s [] o.dst false x = some (.fl [] .sil (fun _ => .s w), {}) ∧ v = nrmSV (.s w) := by
  intro x h
  unfold qMove at h
  split at h
  ·rename_i w hw
   simp only [Option.some.injEq] at h
   subst h
   refine ⟨w, ?_, rfl⟩
   have e := qS1_eq hw
   unfold moveNF
   simp only [Bool.false_eq_true, if_false]
   cases x with
   | tmp t =>
    simp only
    unfold qS1 at hw
    simp only at hw
    split at hw
    ·rename_i hs
     rw [hs]
     simp only [e, Option.bind_some, plainNF, mkSV, List.isEmpty_nil, if_true]
    ·cases hw
    ·cases hw
   | const c => simp only [e, Option.bind_some, plainNF, mkSV, List.isEmpty_nil, if_true]
   | global n => simp [qS1] at hw
   | func n => simp [qS1] at hw
  ·cases h
 cases op with
 | move x => obtain ⟨w, h1, h2⟩ := mv x h; exact ⟨rfl, w, by simp only [nfGo, ho]; exact h1, h2⟩
 | assign x => obtain ⟨w, h1, h2⟩ := mv x h; exact ⟨rfl, w, by simp only [nfGo, ho]; exact h1, h2⟩
 | binOp b t x y ty =>
  refine ⟨rfl, ?_⟩
  have h : qBin b t x y ty P s = some v := h
  unfold qBin at h
  split at h
  ·rename_i bk hbk
   split at h
   ·rename_i u hu
    split at h
    ·rename_i w hw
     unfold qBin2 at h
     split at h
     ·split at h
      ·rename_i k a
       split at h
       ·rename_i k' c
        split at h
        ·rename_i hk
         subst hk
         split at h
         ·rename_i r hr
          simp only [Option.some.injEq] at h
          subst h
          obtain ⟨e1, e2, e3, e4⟩ := qInt_eq hr
          refine ⟨.at (.k r), ?_, rfl⟩
          simp only [nfGo, ho, binNF, hbk, opAts, qPl_eq hu, qPl_eq hw, Option.bind_some]
          have hf : folds (.bin b .int) [.k (.int k a), .k (.int k c)] = some r := by
           simp only [folds, List.mapM_cons, List.mapM_nil, plainK, Option.pure_def, Option.bind_eq_bind, Option.bind_some, evalPure, evalBin]
           cases b <;> first | exact absurd rfl e2 | exact absurd rfl e3 | simpa using e1
          simp only [pureNF, hf, mkSV, List.isEmpty_nil, if_true]
          rfl
         ·cases h
        ·cases h
       ·cases h
      ·cases h
     ·cases h
    ·cases h
   ·cases h
  ·cases h
 | _ => cases h
theorem qOper_N {c : Cfg} {call : CallF} {ops : Array Oper} {base i : Nat} {o : Oper} {x : CS} {t : Nat} {v : SV} (h : qOper c.P o x.s = some (t, v)) : o.dst = some t ∧ cN c call ops base i o x = some (trivE v) := by
 unfold qOper at h
 split at h
 ·cases h
 ·rename_i hg
  split at h
  ·cases h
  ·rename_i d hd
   split at h
   ·cases h
   ·rename_i hlt
    split at h
    ·rename_i w hw
     simp only [Option.some.injEq, Prod.mk.injEq] at h
     obtain ⟨rfl, rfl⟩ := h
     refine ⟨hd, ?_⟩
     obtain ⟨h1, s1, h2, h3⟩ := qOp_nf hw (fun _ => false) (fun _ => none) (base + i) o rfl
     have hlt' : d < x.s.sz := Nat.le_of_ble_eq_true hlt
     have hgd : guardOf (tgtOf ops) x.s o = .go [] := by unfold guardOf; rw [hg]
     have hdo : dstOk x.s o.dst = true := by rw [hd]; simpa [dstOk] using hlt'
     have hnf : nf c.P (fun _ => false) (fun _ => none) (tgtOf ops) false (base + i) o x.s = some (.fl [] .sil (fun _ => .s s1), {}) := by
      unfold nf
      simp only [hdo, hgd, Bool.not_true, Bool.false_eq_true, if_false]
      exact h2
     unfold cN
     simp only [h1, if_true, hnf, Option.bind_some, ofNF, h3]
     rfl
    ·cases h
/-! Regions -/
/-- No two that are not ordered get in each other's way, by what they look at and put. -/
def apartAll (ops : Array Oper) (tab : List (Nat × Nat)) : List (Nat × Oper) → List (Nat × Oper) → Bool
 | [], _ => true
 | (i, o) :: r, done => (done.all fun p => ordB tab p.1 i || Oper.apart ops p.2 o) && apartAll ops tab r ((i, o) :: done)
def flogOk (tab : List (Nat × Nat)) (i : Nat) (e : Ef) : List EntE → Bool
 | [] => true
 | l :: r => (ordB tab l.i i || indep l.e e) && flogOk tab i e r
def RX.regQ (c : RX) (d : Bool) : List (Nat × Oper) → List EntE → CS → G CS
 | [], _, x => .done x
 | (i, o) :: r, flog, x =>
  match qOper c.P o x.s with
  | some p => match p with | (t, v) => RX.regQ c d r flog (x.appD (some t) ⟨some v, [], none⟩)
  | none =>
  match c.N i o x with
  | none => .fail (1000 + i)
  | some e =>
   if d && !flogOk c.tab i e flog then .fail (2000 + i)
   else G.mchk e.cs (e.body.bind fun u => if okU c.hi e u then RX.regQ c d r (if d then ⟨i, o, e⟩ :: flog else flog) (x.appD o.dst u) else .fail (3000 + i))
def trivial' (e : Ef) : Prop := e.rd = [] ∧ e.wr = [] ∧ e.lo = none
theorem indep_triv {a b : Ef} (h : trivial' a ∨ trivial' b) : indep a b = true := by
 have d1 : ∀ l : List Nat, disj [] l = true := fun l => rfl
 have d2 : ∀ l : List Nat, disj l [] = true := fun l => by simp [disj]
 rcases h with ⟨h1, h2, h3⟩ | ⟨h1, h2, h3⟩
 ·unfold indep
  rw [h1, h2, h3]
  simp only [d1, Bool.and_self, Bool.true_and]
  cases b.lo <;> simp
 ·unfold indep
  rw [h1, h2, h3]
  simp only [d2, Bool.and_self, Bool.true_and]
  cases a.lo <;> simp
theorem flogOk_spec {tab : List (Nat × Nat)} {i : Nat} {e : Ef} : ∀ {fl : List EntE}, flogOk tab i e fl = true → ∀ l ∈ fl, ordB tab l.i i = true ∨ indep l.e e = true
 | [], _, l, h => by cases h
 | x :: r, h, l, hl => by
  simp only [flogOk, Bool.and_eq_true, Bool.or_eq_true] at h
  rcases List.mem_cons.1 hl with rfl | hl
  ·exact h.1
  ·exact flogOk_spec h.2 l hl
theorem okLog_of {ops : Array Oper} {tab : List (Nat × Nat)} {i : Nat} {o : Oper} {e : Ef} {log fl : List EntE} {dn : List (Nat × Oper)} (hin : ∀ l ∈ log, l ∈ fl ∨ trivial' l.e) (hdn : ∀ l ∈ log, (l.i, l.o) ∈ dn)
  (hap : (dn.all fun p => ordB tab p.1 i || Oper.apart ops p.2 o) = true) (hf : trivial' e ∨ flogOk tab i e fl = true) : okLogE ops tab i o e log = true := by
 unfold okLogE
 rw [List.all_eq_true]
 intro l hl
 have h1 := List.all_eq_true.1 hap (l.i, l.o) (hdn l hl)
 simp only [Bool.or_eq_true] at h1
 simp only [Bool.or_eq_true, Bool.and_eq_true]
 rcases h1 with h1 | h1
 ·exact .inl h1
 ·rcases hf with hf | hf
  ·exact .inr ⟨indep_triv (.inr hf), h1⟩
  ·rcases hin l hl with h2 | h2
   ·rcases flogOk_spec hf l h2 with h3 | h3
    ·exact .inl h3
    ·exact .inr ⟨h3, h1⟩
   ·exact .inr ⟨indep_triv (.inl h2), h1⟩
theorem G.den_bind' {α β : Type} {P : β → Prop} {f : α → G β} : ∀ {g : G α}, g.den (fun a => (f a).den P) → (g.bind f).den P
 | .fail _, h => h
 | .done _, h => h
 | .box _, h => fun r => den_bind' (h r)
 | .chk _ _, h => ⟨h.1, den_bind' h.2⟩
 | .eql _ _ _, h => ⟨h.1, den_bind' h.2⟩
theorem G.den_mchk' {α : Type} {P : α → Prop} {c : List Ck} {g : G α} (h1 : AllCk c) (h2 : g.den P) : (G.mchk c g).den P := by
 cases c with
 | nil => exact h2
 | cons x r => exact ⟨h1, h2⟩
theorem RX.regQ_den {c : RX} (hq : ∀ i o x t v, qOper c.P o x.s = some (t, v) → o.dst = some t ∧ c.N i o x = some (trivE v)) {d : Bool} {K : CS → Prop} : ∀ {l dn : List (Nat × Oper)} {log fl : List EntE} {x : CS},
  (d = true → apartAll c.ops c.tab l dn = true) → (∀ l ∈ log, l ∈ fl ∨ trivial' l.e) → (∀ l ∈ log, (l.i, l.o) ∈ dn) → (c.regQ d l fl x).den K → (c.reg d l log x).den K
 | [], _, _, _, _, _, _, _, h => h
 | (i, o) :: r, dn, log, fl, x, ha, hin, hdn, h => by
  simp only [RX.regQ] at h
  simp only [RX.reg]
  have hokl : ∀ e, (trivial' e ∨ (d && !flogOk c.tab i e fl) = false) → (d && !okLogE c.ops c.tab i o e log) = false := by
   intro e he
   cases d with
   | false => rfl
   | true =>
    have h1 := ha rfl
    simp only [apartAll, Bool.and_eq_true] at h1
    have := okLog_of (e := e) hin hdn h1.1 (he.imp id fun h => by simpa using h)
    simp [this]
  have ha' : d = true → apartAll c.ops c.tab r ((i, o) :: dn) = true := fun hd => by
   have h1 := ha hd
   simp only [apartAll, Bool.and_eq_true] at h1
   exact h1.2
  split at h
  ·rename_i p hqo
   obtain ⟨t, v⟩ := p
   obtain ⟨h1, h2⟩ := hq i o x t v hqo
   rw [h2]
   have hl := hokl (trivE v) (.inl ⟨rfl, rfl, rfl⟩)
   have hok : okU c.hi (trivE v) ⟨some v, [], none⟩ = true := rfl
   simp only [hl, Bool.false_eq_true, if_false]
   rw [show ∀ f : Upd → G CS, G.mchk (trivE v).cs ((trivE v).body.bind f) = f ⟨some v, [], none⟩ from fun f => rfl, if_pos hok, h1]
   refine RX.regQ_den hq ha' ?_ ?_ h
   ·intro y hy
    cases d with
    | false => simp only [Bool.false_eq_true, if_false] at hy; exact hin y hy
    | true =>
     simp only [if_true, List.mem_cons] at hy
     rcases hy with rfl | hy
     ·exact .inr ⟨rfl, rfl, rfl⟩
     ·exact hin y hy
   ·intro y hy
    cases d with
    | false => simp only [Bool.false_eq_true, if_false] at hy; exact List.mem_cons_of_mem _ (hdn y hy)
    | true =>
     simp only [if_true, List.mem_cons] at hy
     rcases hy with rfl | hy
     ·exact List.mem_cons_self
     ·exact List.mem_cons_of_mem _ (hdn y hy)
  ·split at h
   ·exact h.elim
   ·rename_i e he
    rw [he]
    split at h
    ·exact h.elim
    ·rename_i hfl
     have hl := hokl e (.inr (by simpa using hfl))
     simp only [hl, Bool.false_eq_true, if_false]
     obtain ⟨h1, h2⟩ := G.den_mchk h
     refine G.den_mchk' h1 (G.den_bind' (G.den_mono (fun u hu => ?_) (G.den_bind h2)))
     split at hu
     ·rename_i hok
      simp only [hok, if_true]
      refine RX.regQ_den hq ha' ?_ ?_ hu
      ·intro y hy
       cases d with
       | false => simp only [Bool.false_eq_true, if_false] at hy ⊢; exact hin y hy
       | true =>
        simp only [if_true, List.mem_cons] at hy ⊢
        rcases hy with rfl | hy
        ·exact .inl (.inl rfl)
        ·exact (hin y hy).imp .inr id
      ·intro y hy
       cases d with
       | false => simp only [Bool.false_eq_true, if_false] at hy; exact List.mem_cons_of_mem _ (hdn y hy)
       | true =>
        simp only [if_true, List.mem_cons] at hy
        rcases hy with rfl | hy
        ·exact List.mem_cons_self
        ·exact List.mem_cons_of_mem _ (hdn y hy)
     ·exact hu.elim
def cxRegionQ (P : Program) (N : NF1) (ops : Array Oper) (draw : Bool) (x : CS) : G CS :=
 let l := enumFrom 0 ops.toList
 let hi := x.s.next + ops.size
 let x' : CS := x.bump ops.size
 if draw then
  let l' := schedGo ops.size 0 l
  let tab := maskTab l' []
  if topo ops.size 0 l' && apartAll ops tab l' [] then RX.regQ ⟨P, ops, tab, hi, N ops x.s.next⟩ true l' [] x' else .fail 3000
 else RX.regQ ⟨P, ops, [], hi, N ops x.s.next⟩ false l [] x'
def NQ (P : Program) (N : NF1) : Prop := ∀ ops base i o x t v, qOper P o x.s = some (t, v) → o.dst = some t ∧ N ops base i o x = some (trivE v)
theorem cxRegionQ_den {P : Program} {N : NF1} (hq : NQ P N) {ops : Array Oper} {draw : Bool} {x : CS} {K : CS → Prop} (h : (cxRegionQ P N ops draw x).den K) : (cxRegion P N ops draw x).den K := by
 unfold cxRegionQ at h
 unfold cxRegion
 cases draw with
 | true =>
  simp only [if_true] at h ⊢
  split at h
  ·rename_i ht
   simp only [Bool.and_eq_true] at ht
   rw [if_pos ht.1]
   exact RX.regQ_den (hq ops _) (fun _ => ht.2) (fun _ h => by cases h) (fun _ h => by cases h) h
  ·exact h.elim
 | false =>
  simp only [Bool.false_eq_true, if_false] at h ⊢
  exact RX.regQ_den (dn := []) (hq ops _) (fun h => by cases h) (fun _ h => by cases h) (fun _ h => by cases h) h
def cxCodeQ (P : Program) (N : NF1) (n : Nat) : Code → CS → G Out
 | .skip, x => .done (.nrm x)
 | .label _, x => .done (.nrm x)
 | .region _ ops draw, x => (cxRegionQ P N ops draw x).bind fun x' => .done (.nrm x')
 | .seq a b, x => (cxCodeQ P N n a x).bind fun o => match o with
  | .nrm x' => cxCodeQ P N n b x'
  | o => .done o
 | .cond c a b, x => match qPl x.s c with
  | some v => (match v with
   | .bool t => (match t with | true => cxCodeQ P N n a x | false => cxCodeQ P N n b x)
   | _ => .fail 905)
  | none => match opAt x.s [] c with
  | some (.k (.bool true), _) => cxCodeQ P N n a x
  | some (.k (.bool false), _) => cxCodeQ P N n b x
  | _ => .fail 904
 | .block id b, x => (cxCodeQ P N n b x).bind fun o => match o with
  | .ext j x' => if j = id then .done (.nrm x') else .done (.ext j x')
  | o => .done o
 | .exit id, x => .done (.ext id x)
 | .ret, x => .done (.ret x)
 | .loop b, x => loopG (cxCodeQ P N n b) n x
 | _, _ => .fail 907
theorem loopG_den {f g : CS → G Out} (h : ∀ (x : CS) (K : Out → Prop), (f x).den K → (g x).den K) : ∀ (n : Nat) (x : CS) (K : Out → Prop), (loopG f n x).den K → (loopG g n x).den K
 | 0, _, _, hd => hd
 | n + 1, x, K, hd => by
  simp only [loopG] at hd ⊢
  refine G.den_bind' (G.den_mono (fun o ho => ?_) (h _ _ (G.den_bind hd)))
  cases o with
  | nrm x' => exact loopG_den h n x' K ho
  | ext j x' => exact ho
  | ret x' => exact ho
theorem cxCodeQ_den {P : Program} {N : NF1} (hq : NQ P N) {n : Nat} : ∀ (c : Code) {x : CS} {K : Out → Prop}, (cxCodeQ P N n c x).den K → (cxCode P N n c x).den K := by
 intro c
 induction c with
 | skip => intro x K h; exact h
 | label l => intro x K h; exact h
 | region id ops draw =>
  intro x K h
  exact G.den_bind' (cxRegionQ_den hq (G.den_bind h))
 | seq c d ihc ihd =>
  intro x K h
  refine G.den_bind' (G.den_mono (fun o ho => ?_) (ihc (G.den_bind h)))
  cases o with
  | nrm x' => exact ihd ho
  | ext j x' => exact ho
  | ret x' => exact ho
 | cond c d e ihd ihe =>
  intro x K h
  simp only [cxCodeQ] at h
  simp only [cxCode]
  split at h
  ·rename_i v hv
   rw [qPl_eq hv]
   split at h
   ·split at h
    ·exact ihd h
    ·exact ihe h
   ·exact h.elim
  ·split at h
   ·rename_i cs he; rw [he]; exact ihd h
   ·rename_i cs he; rw [he]; exact ihe h
   ·exact h.elim
 | block id b ih =>
  intro x K h
  exact G.den_bind' (ih (G.den_bind h))
 | exit id => intro x K h; exact h
 | ret => intro x K h; exact h
 | loop b ih =>
  intro x K h
  exact loopG_den (fun x K h => ih h) n x K h
 | _ => intro x K h; exact h.elim
def callGQ (P : Program) (N : CallF → NF1) (loops : Nat) : Nat → CallF
 | 0, _, _, _, _, _ => .fail 700
 | k + 1, f, args, mem, next, h =>
  match P.funcs[f]? with
  | none => .fail 701
  | some fn => match fn.body with
   | none => .fail 702
   | some c =>
    if args.length ≤ fn.ntmps then
     (cxCodeQ P (N (callGQ P N loops k)) loops c (entryCS fn args mem next h)).bind fun o => match o with
      | .nrm x => retG P fn x
      | .ret x => retG P fn x
      | .ext _ _ => .fail 703
    else .fail 704
end Go.Sx

/- Sound is the faster reckoning too. Generic. -/
namespace Go.Sx
open Go
variable {P : Program}
def runGQ (c : Cfg) (depth loops : Nat) : CallF := callGQ c.P (cN c) loops depth
theorem cN_q (c : Cfg) (call : CallF) : NQ c.P (cN c call) := fun _ _ _ _ _ _ _ h => qOper_N h
structure RanQ (c : Cfg) (depth loops : Nat) (f : FuncId) : Prop where
 h : (runGQ c depth loops f [] [] 0 ⟨[], []⟩).den fun r => isT r = true
theorem RanQ.reckon {c : Cfg} {depth loops : Nat} {f : FuncId} (n N : Nat) (h : ∀ k : Nat → Nat, ((G.exN n (runGQ c depth loops f [] [] 0 ⟨[], []⟩) ((List.range N).map k)).x, (G.exN n (runGQ c depth loops f [] [] 0 ⟨[], []⟩) ((List.range N).map k)).fine isT) =
  ((G.exN n (runGQ c depth loops f [] [] 0 ⟨[], []⟩) ((List.range N).map k)).y, true)) : RanQ c depth loops f := by
 refine ⟨G.reckon (p := isT) (fun _ h => h) n N _ ?_⟩
 intro k
 have := h k
 rw [Prod.mk.injEq] at this
 exact this
end Go.Sx

/- Runs of known values in which some functions are met by what is proved of them. Generic. -/
namespace Go.Sx
open Go
variable {P : Program}
abbrev SumF := FuncId → List S1 → List (Nat × Option Bx) → HS → Option (List Ck × SV)
def callGS (P : Program) (N : CallF → NF1) (loops : Nat) (sum : SumF) : Nat → CallF
 | 0, _, _, _, _, _ => .fail 700
 | k + 1, f, args, mem, next, h =>
  match sum f args mem h with
  | some (cs, sv) => G.mchk cs (.done (sv, memCS mem next h))
  | none =>
  match P.funcs[f]? with
  | none => .fail 701
  | some fn => match fn.body with
   | none => .fail 702
   | some c =>
    if args.length ≤ fn.ntmps then
     (cxCodeQ P (N (callGS P N loops sum k)) loops c (entryCS fn args mem next h)).bind fun o => match o with
      | .nrm x => retG P fn x
      | .ret x => retG P fn x
      | .ext _ _ => .fail 703
    else .fail 704
/-- What is proved of them. -/
def SumOk (P : Program) (ok : FuncId → Bool) (H : Heap) (sum : SumF) : Prop :=
 ∀ (f : FuncId) (args : List S1) (mem : List (Nat × Option Bx)) (h : HS) (cs : List Ck) (sv : SV), ok f = true → sum f args mem h = some (cs, sv) → AllCk cs → sv.ok ∧
  ∀ (F : Own) (w : World) (next : Nat), (∀ s ∈ args, s.ok) → MemC F (memCS mem next h) H w → Calls P f (args.map S1.den).toArray w fun e w' => ∃ v, e = .returned v ∧ sv.rel v ∧ MemC F (memCS mem next h) H w'
theorem callGS_sound (hm : P.follows .mixedOrders = true) {ok : FuncId → Bool} {H : Heap} {N : CallF → NF1} (hN : ∀ call, CallSound P ok H call → NOk P (N call) H) (hq : ∀ call, NQ P (N call)) {loops : Nat} {sum : SumF} (hs : SumOk P ok H sum) : ∀ k, CallSound P ok H (callGS P N loops sum k)
 | 0 => by intro f args mem next h F w K _ hd; exact hd.elim
 | k + 1 => by
  intro f args mem next h F w K hokff hd hargs hmem
  simp only [callGS] at hd
  split at hd
  ·rename_i cs sv hsum
   obtain ⟨hck, hk⟩ := G.den_mchk hd
   obtain ⟨h1, h2⟩ := hs f args mem h cs sv hokff hsum hck
   refine (h2 F w next hargs hmem).mono ?_
   rintro e w' ⟨v, rfl, hv, hm'⟩
   exact ⟨v, sv, _, rfl, hv, h1, hk, hm'⟩
  split at hd
  ·exact hd.elim
  ·rename_i fn hf
   split at hd
   ·exact hd.elim
   ·rename_i c hc
    split at hd
    ·rename_i hle
     refine calls_of_wp hf hc ?_
     obtain ⟨L, O, hB, hcok, hM, hmod, hfr⟩ := hmem
     have key : ∀ t, (((entryCS fn args mem next h).s.tmps t).rel (((args.map S1.den).toArray ++ Array.replicate (fn.ntmps - (args.map S1.den).toArray.size) undef).getD t undef)) ∧ ((entryCS fn args mem next h).s.tmps t).ok := by
      intro t
      simp only [entryCS]
      rcases Nat.lt_or_ge t args.length with hlt | hge
      ·rw [List.getElem?_eq_getElem hlt]
       refine ⟨?_, hargs _ (List.getElem_mem hlt)⟩
       have : ((args.map S1.den).toArray ++ Array.replicate (fn.ntmps - (args.map S1.den).toArray.size) undef).getD t undef = args[t].den := by
        rw [Array.getD_eq_getD_getElem?, Array.getElem?_append_left (by simpa using hlt)]
        simp [hlt]
       rw [this]; exact rel_of_den rfl
      ·rw [List.getElem?_eq_none hge]
       refine ⟨?_, ok_k undef⟩
       have : ((args.map S1.den).toArray ++ Array.replicate (fn.ntmps - (args.map S1.den).toArray.size) undef).getD t undef = undef := by
        rw [Array.getD_eq_getD_getElem?, Array.getElem?_append_right (by simpa using hge)]
        rw [Array.getElem?_replicate]
        split <;> rfl
       rw [this]
       exact rel_of_den rfl
     have hCC : CC 0 F (entryCS fn args mem next h) H { tmps := (args.map S1.den).toArray ++ Array.replicate (fn.ntmps - (args.map S1.den).toArray.size) undef, defers := [] } w :=
      ⟨⟨O, hM, ⟨fun t => (key t).2, hcok⟩, rfl, by simp [entryCS]; omega, fun t => (key t).1, L, hB, hmod⟩, hfr, Nat.zero_le _⟩
     refine cx_sound hm (hN _ (callGS_sound hm hN hq hs k)) c (cxCodeQ_den (hq _) c (G.den_bind hd)) hCC ?_
     have back : ∀ x a' w', CC 0 F x H a' w' → (retG P fn x).den K → a'.defers = [] ∧ ∃ v, (results fn a'.tmps).run P w' = .ok v w' ∧
       ∃ v' sv y, Ending.returned v = .returned v' ∧ sv.rel v' ∧ sv.ok ∧ K (sv, y) ∧ MemC F y H w' := by
      rintro x a' w' ⟨⟨O', hM', hC'⟩, hf', _⟩ hret
      unfold retG at hret
      split at hret
      ·exact hret.elim
      ·rename_i l hl
       obtain ⟨hck, hk⟩ := G.den_mchk hret
       obtain ⟨L', hB', hmod'⟩ := hC'.mm
       have hr := res_list hC' hl hck
       refine ⟨hC'.df, resV l, ?_, _, resSV l, x, rfl, ?_, ?_, hk, L', O', hB', hC'.ok.2, hM', hmod', hf'⟩
       ·rw [results_eq, Sem.run_bind]
        rw [← Array.toArray_toList (xs := fn.results), List.mapM_toArray]
        simp only [Sem.run_map]
        rw [hr]
        rcases l with _ | ⟨v, _ | ⟨v', r⟩⟩ <;> simp [resV]
       ·rcases l with _ | ⟨v, _ | ⟨v', r⟩⟩
        ·rfl
        ·exact rel_of_den rfl
        ·rfl
       ·have := resAll_ok hC'.ok hl
        rcases l with _ | ⟨v, _ | ⟨v', r⟩⟩
        ·exact this
        ·exact this v (by simp)
        ·exact this
     intro o a' w' hC' hk
     cases o with
     | nrm x => exact back x a' w' hC' hk
     | ret x => exact back x a' w' hC' hk
     | ext j x => exact hk.elim
    ·exact hd.elim
def runGS (c : Cfg) (sum : SumF) (depth loops : Nat) : CallF := callGS c.P (cN c) loops sum depth
theorem run_tripleS {c : Cfg} (hm : c.P.follows .mixedOrders = true) (hokf : ∀ f, c.ok f = true → OkFn c.P f) {H : Heap} (hgl : GlobOk c.glob H) {sum : SumF} (hs : SumOk c.P c.ok H sum) {depth loops : Nat} {f : FuncId} {args : List S1} (hf : c.ok f = true) (hargs : ∀ s ∈ args, s.ok)
  {K : SV × CS → Prop} (h : (runGS c sum depth loops f args [] 0 ⟨[], []⟩).den K) :
  Triple c.P f (args.map S1.den) H [] fun v H' O' => H' = H ∧ O' = [] ∧ ∃ sv y, sv.rel v ∧ K (sv, y) := by
 intro w F hw
 have hsound := callGS_sound hm (fun call => cN_ok hokf hgl call) (cN_q c) (loops := loops) hs depth
 have hmem : MemC F (memCS [] 0 ⟨[], []⟩) H w := ⟨[], [], Boxes.none, fun n b h => by simp [memCS, lookB] at h, rfl, by simpa using hw, fun _ _ => rfl⟩
 refine (hsound f args [] 0 ⟨[], []⟩ F w K hf h hargs hmem).mono ?_
 rintro e w' ⟨v, sv, y, rfl, hrel, _, hk, L, O, _, _, _, hmod, _⟩
 refine ⟨v, H, [], rfl, ⟨rfl, rfl, sv, y, hrel, hk⟩, Heap.le_refl H, ?_⟩
 refine hmod.sub ?_
 simp only [List.nil_append]
 exact (List.sublist_append_right O F).trans (List.sublist_append_right L _)
structure RanS (c : Cfg) (sum : SumF) (depth loops : Nat) (f : FuncId) : Prop where
 h : (runGS c sum depth loops f [] [] 0 ⟨[], []⟩).den fun r => isT r = true
theorem RanS.reckon {c : Cfg} {sum : SumF} {depth loops : Nat} {f : FuncId} (n N : Nat) (h : ∀ k : Nat → Nat, ((G.exN n (runGS c sum depth loops f [] [] 0 ⟨[], []⟩) ((List.range N).map k)).x, (G.exN n (runGS c sum depth loops f [] [] 0 ⟨[], []⟩) ((List.range N).map k)).fine isT) =
  ((G.exN n (runGS c sum depth loops f [] [] 0 ⟨[], []⟩) ((List.range N).map k)).y, true)) : RanS c sum depth loops f := by
 refine ⟨G.reckon (p := isT) (fun _ h => h) n N _ ?_⟩
 intro k
 have := h k
 rw [Prod.mk.injEq] at this
 exact this
theorem run_trueS {c : Cfg} (hm : c.P.follows .mixedOrders = true) (hokf : ∀ f, c.ok f = true → OkFn c.P f) {H : Heap} (hgl : GlobOk c.glob H) {sum : SumF} (hs : SumOk c.P c.ok H sum) {depth loops : Nat} {f : FuncId} (hf : c.ok f = true)
  (h : RanS c sum depth loops f) (O : Own) : RetO c.P f [] H O (.bool true) := by
 have := (run_tripleS hm hokf hgl hs hf (args := []) (by simp) h.h).frame O
 refine this.mono ?_
 rintro v H' O' _ ⟨O'', rfl, rfl, rfl, sv, y, hrel, hk⟩
 refine ⟨?_, rfl⟩
 unfold isT at hk
 simp only at hk
 split at hk
 ·subst hk; exact hrel
 ·cases hk
/-- The heap may be taken for a smaller one. -/
theorem Models.less {w : World} {H H' : Heap} {O : Own} (h : Models w H' O) (hl : Heap.le H H') : Models w H O :=
 ⟨fun b o hb => h.pers b o (hl.1 b o hb), fun p hp => ⟨(h.own p hp).1, by
  cases e : H p.1 with
  | none => rfl
  | some o => have := hl.1 _ _ e; rw [(h.own p hp).2] at this; cases this⟩, h.nodup, h.env.trans hl.2⟩
end Go.Sx

