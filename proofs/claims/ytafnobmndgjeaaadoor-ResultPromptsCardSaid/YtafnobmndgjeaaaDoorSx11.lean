/- New boxes; calls and the like. -/
import Derived.Test.YtafnobmndgjeaaaDoorSx10
namespace Go.Sx
open Go
variable {P : Program} {ops : Array Oper} {o : Oper} {s : SS} {gl : List (At × Bool)}

theorem sound_box {name : Nat} {T : TypeId} {cells : List At} {val : Nat → At} {cs : List Ck} (hg : guardOf (tgtOf ops) s o = .go []) (hd : ∀ d, o.dst = some d → d < s.sz)
    (hn : s.mem name = none) (hv : ∀ r, (val r).ok) (hvk : ∀ r, (val r).known = true) (hcells : s.Ok → ∀ a, a ∈ cells → a.ok)
    (hrun : ∀ F H O a w, Conc F s H O a w → AllCk cs → ∃ vs : List Value, CellsRel cells vs ∧
      (execOp a.eval o).run P w = .ok (.value (val w.heap.size).den) { w with heap := w.heap.push (.cells vs.toArray T (0, 0)) }) :
    Sound P ops o s (.box cs name T cells val) := by
  intro F H O a w d K Q hc hr
  obtain ⟨hcs, hk⟩ := hr
  obtain ⟨vs, hvs, hex⟩ := hrun F H O a w hc hcs
  unfold wp1
  rw [if_pos ((guard_go hc hg).2 trivial)]
  refine .inl ?_
  unfold Oper.wp
  rw [hex, Oper.upon_value]
  obtain ⟨L, hL, hmod⟩ := hc.mm
  have h1 : Conc F (s.setBox name (some ⟨w.heap.size, T, cells⟩)) H O a { w with heap := w.heap.push (.cells vs.toArray T (0, 0)) } := by
    refine ⟨hc.ok.setBox name ?_, hc.df, hc.sz, hc.tm, _, hL.put (n := name) (b := ⟨w.heap.size, T, cells⟩) hn hvs, ?_⟩
    · rintro b' hb' a' ha'
      simp only [Option.some.injEq] at hb'; subst hb'; exact hcells hc.ok a' ha'
    · simpa using hmod.push (.cells vs.toArray T (0, 0))
  refine ⟨_, H, O, h1.put (sv := .s (.at (val w.heap.size))) hd ?_ (ok_at (hv _)), Heap.le_refl H, hk _⟩
  cases hval : val w.heap.size <;> first
    | rfl
    | (have := hvk w.heap.size; rw [hval] at this; simp [At.known] at this)

theorem zeroOf_run {T : TypeId} {cells : List At} (h : zeroOf P T = some cells) : ∃ z : Value, (∀ w, (zeroValue T).run P w = .ok z w) ∧ z.cells.toList = cells.map At.den ∧ cells.all At.known = true ∧ ∀ a, a ∈ cells → a.ok := by
  unfold zeroOf at h
  cases hi : P.info? T with
  | none => simp [hi] at h
  | some i =>
    simp only [hi, Option.bind_some, Option.map_eq_some_iff] at h
    obtain ⟨z, hz, rfl⟩ := h
    refine ⟨z, fun w => by simp [zeroValue, typeInfo, hi, hz], by simp [Function.comp_def, At.den], by simp [At.known], ?_⟩
    intro a ha; simp only [List.mem_map] at ha; obtain ⟨x, _, rfl⟩ := ha; trivial

def repVals (z : List Value) : Nat → List Value
  | 0 => []
  | n + 1 => z ++ repVals z n
theorem repCells_spec (z : List Value) (hz : z.length ≠ 0) : ∀ n : Nat, ((Array.range (n * z.length)).map fun i => z.toArray[i % z.toArray.size]!).toList = (repVals z n)
  | 0 => by simp [repVals]
  | n + 1 => by
    have ih := repCells_spec z hz n
    simp only [Array.toList_map, Array.toList_range] at ih ⊢
    rw [show (n + 1) * z.length = z.length + n * z.length by rw [Nat.add_mul]; omega, List.range_add, List.map_append, List.map_map]
    have e1 : (List.range z.length).map (fun i => z.toArray[i % z.toArray.size]!) = z := by
      apply List.ext_getElem
      · simp
      · intro i h1 h2
        have hi : i < z.length := by simpa using h1
        simp [Nat.mod_eq_of_lt hi, hi]
    have e2 : (List.range (n * z.length)).map ((fun i => z.toArray[i % z.toArray.size]!) ∘ fun i => z.length + i) = (List.range (n * z.length)).map fun i => z.toArray[i % z.toArray.size]! := by
      apply List.map_congr_left
      intro i _
      simp [Function.comp]
    rw [e1, e2, ih]; rfl
theorem repCells_den (z : List At) : ∀ n, (repCells z n).map At.den = repVals (z.map At.den) n
  | 0 => rfl
  | n + 1 => by simp [repCells, repVals, repCells_den z n]
theorem repCells_mem {z : List At} : ∀ {n : Nat} {a : At}, a ∈ repCells z n → a ∈ z
  | 0, a, h => by simp [repCells] at h
  | n + 1, a, h => by
    simp only [repCells, List.mem_append] at h
    exact h.elim id repCells_mem
theorem fillParts_mem (hok : s.Ok) {place : Nat → Option (Nat × Nat)} : ∀ {parts : List (Nat × Operand)} {cells out : List At} {cs : List Ck}, fillParts s gl place parts cells = some (out, cs) →
    (∀ a, a ∈ cells → a.ok) → ∀ a, a ∈ out → a.ok
  | [], cells, out, cs, h, hc => by simp only [fillParts, Option.some.injEq, Prod.mk.injEq] at h; rw [← h.1]; exact hc
  | (i, x) :: r, cells, out, cs, h, hc => by
    simp only [fillParts] at h
    split at h
    · rename_i off size v c hp hx
      split at h
      · simp only [Option.map_eq_some_iff] at h
        obtain ⟨⟨cs', c'⟩, hr, he⟩ := h
        simp only [Prod.mk.injEq] at he
        obtain ⟨rfl, rfl⟩ := he
        refine fillParts_mem hok hr ?_
        intro a ha
        simp only [fillAt, List.mem_append] at ha
        rcases ha with (ha | ha) | ha
        · exact hc a (List.mem_of_mem_take ha)
        · exact opS1_ok hok hx a ha
        · exact hc a (List.mem_of_mem_drop ha)
      · simp at h
    · simp at h

/-! Many boxes at once -/
theorem noDup_nodup : ∀ {l : List Nat}, noDup l = true → l.Nodup
  | [], _ => by simp
  | n :: r, h => by
    simp only [noDup, Bool.and_eq_true, Bool.not_eq_true', List.contains_eq_mem, decide_eq_false_iff_not] at h
    exact List.nodup_cons.2 ⟨h.1, noDup_nodup h.2⟩
theorem delBoxes_mem : ∀ {l : List Nat} {s : SS} {n : Nat}, (delBoxes l s).mem n = if n ∈ l then none else s.mem n
  | [], s, n => by simp [delBoxes]
  | m :: r, s, n => by
    rw [delBoxes, delBoxes_mem]
    by_cases h : n ∈ r
    · simp [h]
    · by_cases e : n = m <;> simp [h, e, SS.setBox]
theorem delBoxes_tmps : ∀ {l : List Nat} {s : SS}, (delBoxes l s).tmps = s.tmps ∧ (delBoxes l s).sz = s.sz
  | [], _ => ⟨rfl, rfl⟩
  | m :: r, s => by rw [delBoxes]; exact delBoxes_tmps (l := r) (s := s.setBox m none)
theorem putBoxes_tmps : ∀ {l : List (Nat × Bx)} {css : List (List Value)} {s : SS}, (putBoxes l css s).tmps = s.tmps ∧ (putBoxes l css s).sz = s.sz
  | [], _, _ => by simp [putBoxes]
  | _ :: _, [], _ => by simp [putBoxes]
  | (n, b) :: r, vs :: vss, s => by rw [putBoxes]; exact putBoxes_tmps (l := r)
theorem setBox_ok' {s : SS} (h : s.Ok) (l : List Nat) : (delBoxes l s).Ok := by
  refine ⟨by rw [delBoxes_tmps.1]; exact h.1, fun n b hb => ?_⟩
  rw [delBoxes_mem] at hb
  split at hb
  · simp at hb
  · exact h.2 n b hb
theorem putBoxes_ok : ∀ {l : List (Nat × Bx)} {css : List (List Value)} {s : SS}, s.Ok → Fits (l.map (·.2.bv)) css → (putBoxes l css s).Ok
  | [], _, _, h, _ => by simpa [putBoxes] using h
  | _ :: _, [], _, h, _ => by simpa [putBoxes] using h
  | (n, b) :: r, vs :: vss, s, h, hf => by
    rw [putBoxes]
    refine putBoxes_ok (h.setBox n ?_) hf.2.2
    rintro b' hb' a ha
    simp only [Option.some.injEq] at hb'; subst hb'
    have hl : vs.length = b.cs.length := by have := hf.1; simpa [Bx.bv] using this
    exact ok_atsFrom (by omega) hf.2.1 a ha

theorem take_all : ∀ {l : List (Nat × Bx)} {s : SS} {L : Own}, Boxes s.mem L → (∀ p, p ∈ l → s.mem p.1 = some p.2) → (l.map (·.1)).Nodup → (∀ p, p ∈ l → p.2.cs.all At.known = true) →
    ∃ L', L.Perm (l.map (fun p => p.2.bv.obj) ++ L') ∧ Boxes (delBoxes (l.map (·.1)) s).mem L'
  | [], s, L, h, _, _, _ => ⟨L, by simp, h⟩
  | (n, b) :: r, s, L, h, hm, hn, hk => by
    obtain ⟨vs, L1, hvs, hp, h1⟩ := h.take (hm (n, b) (by simp))
    simp only [List.map_cons, List.nodup_cons] at hn
    have hr : ∀ p, p ∈ r → (s.setBox n none).mem p.1 = some p.2 := by
      intro p hp'
      have : p.1 ≠ n := fun e => hn.1 (e ▸ List.mem_map_of_mem hp')
      simp only [SS.setBox, this, if_false]
      exact hm p (by simp [hp'])
    obtain ⟨L', hp2, h2⟩ := take_all (s := s.setBox n none) (L := L1) h1 hr hn.2 (fun p hp' => hk p (by simp [hp']))
    refine ⟨L', hp.trans ?_, by simpa [delBoxes] using h2⟩
    have : vs = b.cs.map At.den := hvs.known (hk (n, b) (by simp))
    simp only [List.map_cons, List.cons_append]
    rw [this]
    exact List.Perm.cons _ hp2
theorem putB_eq : ∀ {l : List (Nat × Bx)} {css : List (List Value)} {s : SS} {i : Nat}, Fits (l.map (·.2.bv)) (css.drop i) → putB i l css s = putBoxes l (css.drop i) s
  | [], css, s, i, _ => by cases css.drop i <;> rfl
  | (n, b) :: r, css, s, i, h => by
    cases hd : css.drop i with
    | nil => rw [hd] at h; exact h.elim
    | cons v vs =>
      rw [hd] at h
      have hlt : i < css.length := by
        rcases Nat.lt_or_ge i css.length with h' | h'
        · exact h'
        · rw [List.drop_of_length_le h'] at hd; cases hd
      rw [List.drop_eq_getElem_cons hlt] at hd
      obtain ⟨rfl, hd2⟩ := List.cons.inj hd
      have hv : css.getD i [] = css[i] := by simp [List.getD, hlt]
      rw [putB, putBoxes, ← hd2, putB_eq (l := r) (i := i + 1) (by rw [hd2]; exact h.2.2), hv]
theorem putB_tmps : ∀ {l : List (Nat × Bx)} {css : List (List Value)} {s : SS} {i : Nat}, (putB i l css s).tmps = s.tmps ∧ (putB i l css s).sz = s.sz
  | [], _, _, _ => ⟨rfl, rfl⟩
  | (n, b) :: r, css, s, i => by rw [putB]; exact putB_tmps (l := r)
theorem put_all : ∀ {l : List (Nat × Bx)} {css : List (List Value)} {s : SS} {L : Own}, Boxes s.mem L → (∀ p, p ∈ l → s.mem p.1 = none) → (l.map (·.1)).Nodup → Fits (l.map (·.2.bv)) css →
    ∃ L', L'.Perm ((newCells (l.map (·.2.bv)) css).map BV.obj ++ L) ∧ Boxes (putBoxes l css s).mem L'
  | [], css, s, L, h, _, _, _ => by cases css <;> exact ⟨L, by simp [newCells], by simpa [putBoxes] using h⟩
  | (n, b) :: r, [], s, L, h, _, _, hf => by simp [Fits] at hf
  | (n, b) :: r, vs :: vss, s, L, h, hm, hn, hf => by
    simp only [List.map_cons, List.nodup_cons] at hn
    have hl : vs.length = b.cs.length := by have := hf.1; simpa [Bx.bv] using this
    have h1 := h.put (n := n) (b := { b with cs := atsFrom vs 0 b.cs.length }) (vs := vs) (hm (n, b) (by simp)) (CellsRel.atsFrom hl)
    obtain ⟨L', hp, h2⟩ := put_all (l := r) (css := vss) (s := s.setBox n (some { b with cs := atsFrom vs 0 b.cs.length })) h1 (by
      intro p hp'
      have : p.1 ≠ n := fun e => hn.1 (e ▸ List.mem_map_of_mem hp')
      simp only [SS.setBox, this, if_false]
      exact hm p (by simp [hp'])) hn.2 hf.2.2
    refine ⟨L', hp.trans ?_, by simpa [putBoxes] using h2⟩
    simp only [List.map_cons, newCells, List.cons_append]
    exact List.perm_middle

theorem liveBoxes_spec {s : SS} {l : List Nat} : ∀ p, p ∈ liveBoxes s l → s.mem p.1 = some p.2 := by
  intro p hp
  simp only [liveBoxes, List.mem_filterMap, Option.map_eq_some_iff] at hp
  obtain ⟨n, _, b, hb, rfl⟩ := hp
  exact hb

theorem models_freeze : ∀ {l : List BV} {w : World} {H : Heap} {O : Own}, Models w H (l.map BV.obj ++ O) → Models w (H.insAll l) O ∧ Heap.le H (H.insAll l)
  | [], w, H, O, h => ⟨by simpa [Heap.insAll] using h, Heap.le_refl H⟩
  | b :: r, w, H, O, h => by
    simp only [List.map_cons, List.cons_append] at h
    have hf : Models w (H.ins b.r b.obj.2) (r.map BV.obj ++ O) := Models.freeze h
    have hle : Heap.le H (H.ins b.r b.obj.2) := (Ghost.freeze H b.r b.obj.2 [] w (r.map BV.obj ++ O) h).2
    obtain ⟨h1, h2⟩ := models_freeze hf
    exact ⟨h1, Heap.le_trans hle h2⟩

theorem ok_svList {vs : List Value} (ho : Ones vs) : ∀ {l : List (Option Nat)} {i : Nat}, i + Shp.count (.tup l) ≤ vs.length → ∀ x, x ∈ Shp.svList vs i l → x.ok
  | [], i, _, x, hx => by simp [Shp.svList] at hx
  | none :: r, i, h, x, hx => by
    simp only [Shp.count, List.foldr_cons, Option.getD_none] at h
    simp only [Shp.svList, List.mem_cons] at hx
    rcases hx with rfl | hx
    · exact ok_at (ho.get i (by omega))
    · exact ok_svList ho (l := r) (i := i + 1) (by simp only [Shp.count]; omega) x hx
  | some m :: r, i, h, x, hx => by
    simp only [Shp.count, List.foldr_cons, Option.getD_some] at h
    simp only [Shp.svList, List.mem_cons] at hx
    rcases hx with rfl | hx
    · exact ok_atsFrom (by omega) ho
    · exact ok_svList ho (l := r) (i := i + m) (by simp only [Shp.count]; omega) x hx
theorem openList_spec : ∀ {l : List (Option Nat)} {xs vs pre : List Value}, Shp.openList l xs = some vs →
    vs.length = Shp.count (.tup l) ∧ (Shp.svList (pre ++ vs) pre.length l).map S1.den = xs
  | [], [], vs, pre, h => by simp only [Shp.openList, Option.some.injEq] at h; subst h; simp [Shp.count, Shp.svList]
  | [], _ :: _, vs, pre, h => by simp [Shp.openList] at h
  | none :: r, [], vs, pre, h => by simp [Shp.openList] at h
  | none :: r, v :: xs, vs, pre, h => by
    simp only [Shp.openList, Option.map_eq_some_iff] at h
    obtain ⟨us, hu, rfl⟩ := h
    obtain ⟨h1, h2⟩ := openList_spec (pre := pre ++ [v]) hu
    refine ⟨?_, ?_⟩
    · simp only [Shp.count, List.foldr_cons, Option.getD_none, List.length_cons] at h1 ⊢; omega
    · simp only [Shp.svList, List.map_cons]
      have e : pre ++ v :: us = pre ++ [v] ++ us := by simp
      have : g (pre ++ v :: us) pre.length = v := by simp [g]
      rw [S1.den, At.den, this, e]
      have hl : (pre ++ [v]).length = pre.length + 1 := by simp
      rw [← hl, h2]
  | some m :: r, [], vs, pre, h => by simp [Shp.openList] at h
  | some m :: r, v :: xs, vs, pre, h => by
    cases v with
    | agg cs =>
      simp only [Shp.openList] at h
      split at h
      · rename_i hsz
        simp only [Option.map_eq_some_iff] at h
        obtain ⟨us, hu, rfl⟩ := h
        obtain ⟨h1, h2⟩ := openList_spec (pre := pre ++ cs.toList) hu
        have hl : (pre ++ cs.toList).length = pre.length + m := by simp [hsz]
        refine ⟨?_, ?_⟩
        · simp only [Shp.count, List.foldr_cons, Option.getD_some, List.length_append, Array.length_toList] at h1 ⊢
          omega
        · simp only [Shp.svList, List.map_cons]
          rw [← hl, ← List.append_assoc, h2]
          congr 1
          simp only [S1.den, Value.agg.injEq]
          rw [atsFrom_eq]
          apply Array.ext'
          simp only [List.toList_toArray, List.map_map]
          apply List.ext_getElem
          · simp [hsz]
          · intro i hi1 hi2
            have hi : i < cs.size := by simpa using hi2
            have hlt : ¬ (pre.length + i < pre.length) := by omega
            simp [At.den, g, List.getElem?_append, hi, hlt]
      · simp at h
    | _ => simp [Shp.openList] at h
theorem open_spec {shp : Shp} {v : Value} {vs : List Value} (h : shp.open v = some vs) (ho : Ones vs) : (shp.sv vs).rel v ∧ (shp.sv vs).ok := by
  cases shp with
  | one =>
    simp only [Shp.open, Option.some.injEq] at h; subst h
    exact ⟨rfl, ok_at ho.1⟩
  | agg m =>
    cases v with
    | agg cs =>
      simp only [Shp.open] at h
      split at h
      · rename_i hsz
        simp only [Option.some.injEq] at h; subst h
        refine ⟨?_, ok_atsFrom (by simp [hsz]) ho⟩
        show _ = Value.agg ((atsFrom cs.toList 0 m).map At.den).toArray
        rw [atsFrom_den (by simp [hsz])]
      · simp at h
    | _ => simp [Shp.open] at h
  | tup l =>
    cases v with
    | tuple xs =>
      simp only [Shp.open] at h
      obtain ⟨h1, h2⟩ := openList_spec (pre := []) h
      refine ⟨?_, ok_svList ho (l := l) (i := 0) (by omega)⟩
      show _ = Value.tuple ((Shp.svList vs 0 l).map S1.den).toArray
      have h2' : (Shp.svList vs 0 l).map S1.den = xs.toList := by simpa using h2
      rw [h2']
    | _ => simp [Shp.open] at h

/-- A call, or an operation with a law of its own. -/
theorem sound_hv {hk : HK} {frz own : List (Nat × Bx)} {shp : Shp} {post : List Value → List Ck} {cs : List Ck} {sv : List Value → SV} (hg : guardOf (tgtOf ops) s o = .go []) (hd : ∀ d, o.dst = some d → d < s.sz)
    (hfrz : ∀ p, p ∈ frz ++ own → s.mem p.1 = some p.2) (hnd : ((frz ++ own).map (·.1)).Nodup) (hkn : ∀ p, p ∈ frz ++ own → p.2.cs.all At.known = true)
    (hsv : ∀ v vs, s.Ok → shp.open v = some vs → Ones vs → AllCk (post vs) → (sv vs).rel v ∧ (sv vs).ok)
    (hex : ∀ F H O a w, Conc F s H O a w → AllCk cs → ∀ H1 O1 R, hk.T P H1 O1 R → ∀ F1, Models w H1 (O1 ++ F1) → ∀ (next : Act → World → Prop) (Q : Exit → Act → World → Prop),
      (∀ v w' H' O', R v H' O' → Heap.le H1 H' → Models w' H' (O' ++ F1) → next (a.put o.dst v) w') → o.wp P a w next Q) :
    Sound P ops o s (.hv cs hk frz own shp post sv) := by
  intro F H O a w d K Q hc hr
  obtain ⟨hcs, hr⟩ := hr
  unfold wp1
  rw [if_pos ((guard_go hc hg).2 trivial)]
  refine .inl ?_
  obtain ⟨L, hL, hmod⟩ := hc.mm
  obtain ⟨L', hp, hL'⟩ := take_all hL hfrz hnd hkn
  have hm0 : Models w H ((frz.map (·.2.bv)).map BV.obj ++ ((own.map (·.2.bv)).map BV.obj ++ (L' ++ (O ++ F)))) := by
    refine hmod.perm ((hp.append_right _).trans (List.Perm.of_eq ?_))
    simp [List.map_map, Function.comp_def]
  obtain ⟨H1, O1, O2, R, hgh, hT, hk'⟩ := hr ⟨w, L' ++ F, hm0.perm (by
    rw [List.append_assoc, List.append_assoc]
    exact List.Perm.append_left _ (List.Perm.append_left _ (List.perm_append_comm_assoc _ _ _))) ⟩
  obtain ⟨hm1, hle1⟩ := models_freeze hm0
  have hgh' : Ghost (H.insAll (frz.map (·.2.bv))) O H1 (O1 ++ O2) := by
    split at hgh
    · obtain ⟨rfl, rfl, rfl⟩ := hgh; exact Ghost.refl _ _
    · exact hgh
  have hm2 : Models w (H.insAll (frz.map (·.2.bv))) (O ++ ((own.map (·.2.bv)).map BV.obj ++ (L' ++ F))) := by
    refine hm1.perm ?_
    exact (List.Perm.append_left _ (List.perm_append_comm_assoc _ _ _)).trans (List.perm_append_comm_assoc _ _ _)
  obtain ⟨hm3, hle2⟩ := hgh' w _ hm2
  have hm4 : Models w H1 (((own.map (·.2.bv)).map BV.obj ++ O1) ++ (O2 ++ (L' ++ F))) := by
    refine hm3.perm ?_
    rw [List.append_assoc, List.append_assoc]
    exact (List.Perm.append_left _ (List.perm_append_comm_assoc _ _ _)).trans (List.perm_append_comm_assoc _ _ _)
  refine hex F H O a w hc hcs H1 _ R hT _ hm4 _ Q ?_
  intro v w' H' O' hR hle3 hm5
  obtain ⟨vs, css, O3, hop, hones, hfits, rfl, hpost, hK⟩ := hk' v H' O' hR hle3
  obtain ⟨hrel, hok⟩ := hsv v vs hc.ok hop hones hpost
  have hmemNone : ∀ p, p ∈ own → (delBoxes ((frz ++ own).map (·.1)) s).mem p.1 = none := by
    intro p hp'
    rw [delBoxes_mem, if_pos (List.mem_map_of_mem (by simp [hp']))]
  have hndo : (own.map (·.1)).Nodup := by
    rw [List.map_append] at hnd; exact (List.nodup_append.1 hnd).2.1
  obtain ⟨L'', hp'', hL''⟩ := put_all (css := css) hL' hmemNone hndo hfits
  have hconc : Conc F (putBoxes own css (delBoxes ((frz ++ own).map (·.1)) s)) H' (O3 ++ O2) a w' := by
    refine ⟨putBoxes_ok (setBox_ok' hc.ok _) hfits, hc.df, ?_, ?_, L'', hL'', ?_⟩
    · rw [putBoxes_tmps.2, delBoxes_tmps.2]; exact hc.sz
    · rw [putBoxes_tmps.1, delBoxes_tmps.1]; exact hc.tm
    · refine hm5.perm (List.Perm.trans ?_ (hp''.symm.append_right _))
      rw [List.append_assoc, List.append_assoc, ← List.append_assoc O3]
      exact List.Perm.append_left _ (List.perm_append_comm_assoc _ _ _)
  have hpb : putB 0 own css (delBoxes ((frz ++ own).map (·.1)) s) = putBoxes own css (delBoxes ((frz ++ own).map (·.1)) s) := putB_eq (i := 0) hfits
  rw [hvUpd, hpb] at hK
  refine ⟨_, H', O3 ++ O2, hconc.put ?_ hrel hok, Heap.le_trans hle1 (Heap.le_trans hle2 hle3), hK⟩
  intro d' hd'
  rw [putBoxes_tmps.2, delBoxes_tmps.2]; exact hd d' hd'
end Go.Sx
