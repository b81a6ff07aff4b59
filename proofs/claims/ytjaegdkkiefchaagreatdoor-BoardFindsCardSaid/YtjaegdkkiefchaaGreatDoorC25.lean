/- A board that is an argument: what is read of it. -/
import Derived.Test.YtjaegdkkiefchaaGreatDoorC23
import Derived.Test.YtjaegdkkiefchaaGreatDoorFw3
namespace Go.Proofs.YtjaegdkkiefchaaGreatDoor
open Go Go.Sx
set_option maxRecDepth 100000
set_option maxHeartbeats 1000000

theorem map_of {α : Type} {f : α → List Value} : ∀ {rows : List (List Value)}, (∀ r ∈ rows, ∃ x, r = f x) → ∃ l : List α, rows = l.map f
  | [], _ => ⟨[], rfl⟩
  | r :: rs, h => by
    obtain ⟨l, hl⟩ := map_of (rows := rs) fun x hx => h x (by simp [hx])
    obtain ⟨x, rfl⟩ := h r (by simp)
    exact ⟨x :: l, by rw [hl]; rfl⟩
theorem sl_row {H : Heap} {size : Nat} {v : Value} {rows : List (List Value)} (h : Sl H size v rows) {r : List Value} (hr : r ∈ rows) : r.length = size := by
  obtain ⟨i, hlt, rfl⟩ := List.getElem_of_mem hr
  obtain ⟨_, _, _, h3, _⟩ := h.idx (k := .i64) (List.getElem?_eq_getElem hlt)
  exact h3
theorem get_g {r : List Value} {i : Nat} {c : Value} (h : r[i]? = some c) : c = g r i := by rw [g_get h]
theorem leavesOb : leaves PP 5 Ty_api_Object = some [3, 3, 3, 3, 3, 3, 3, 3, 3, 4, 4, 4] := by kernel_rfl
theorem leavesTg : leaves PP 5 Ty_api_Target = some [3, 3] := by kernel_rfl
theorem leavesBl : leaves PP 5 Ty_api_Block = some [3, 3] := by kernel_rfl
theorem leavesIt : leaves PP 5 Ty_api_Item = some [3, 3, 3, 3, 75] := by kernel_rfl
theorem leavesBd : leaves PP 6 33 = some [22, 3, 3, 3, 3, 3, 25, 25, 25, 25, 4, 4, 4, 3, 3, 3, 3, 3, 3, 3, 25, 25, 25, 25, 4, 4, 4, 3, 3, 29, 29, 25, 30, 3, 3, 31, 3, 3] := by kernel_rfl
theorem leaf_int {H : Heap} {c : Value} (h : Leaf PP H 3 c) : ∃ x, c = iV x := let ⟨x, e, _⟩ := h.int Tryz.underlying3; ⟨x, e⟩
theorem leaf_bool {H : Heap} {c : Value} (h : Leaf PP H 4 c) : ∃ x, c = .bool x := h.bool Tryz.underlying4
theorem leaf_at {H : Heap} {k : Nat} {t : TypeId} {ds : List Value} {ls : List TypeId} {n : Nat} (hl : leaves PP n t = some ls) (hw : Wf PP H k t ds) (i : Nat) (l : TypeId) (hi : ls[i]? = some l) : Leaf PP H l (g ds i) := by
  obtain ⟨c, h1, h2⟩ := leaf_get hl hw i l hi
  rw [← get_g h1]; exact h2
theorem read_ob {H : Heap} {k : Nat} {r : List Value} (hw : Wf PP H k Ty_api_Object r) (hl : r.length = 12) : ∃ o, r = Ob.row o := by
  have a := fun i l h => leaf_at leavesOb hw i l h
  obtain ⟨x0, e0⟩ := leaf_int (a 0 3 rfl)
  obtain ⟨x1, e1⟩ := leaf_int (a 1 3 rfl)
  obtain ⟨x2, e2⟩ := leaf_int (a 2 3 rfl)
  obtain ⟨x3, e3⟩ := leaf_int (a 3 3 rfl)
  obtain ⟨x4, e4⟩ := leaf_int (a 4 3 rfl)
  obtain ⟨x5, e5⟩ := leaf_int (a 5 3 rfl)
  obtain ⟨x6, e6⟩ := leaf_int (a 6 3 rfl)
  obtain ⟨x7, e7⟩ := leaf_int (a 7 3 rfl)
  obtain ⟨x8, e8⟩ := leaf_int (a 8 3 rfl)
  obtain ⟨x9, e9⟩ := leaf_bool (a 9 4 rfl)
  obtain ⟨x10, e10⟩ := leaf_bool (a 10 4 rfl)
  obtain ⟨x11, e11⟩ := leaf_bool (a 11 4 rfl)
  match r, hl with
  | [_, _, _, _, _, _, _, _, _, _, _, _], _ =>
    refine ⟨⟨x0, x1, x2, x3, x4, x5, x6, x7, x8, x9, x10, x11⟩, ?_⟩
    simp only [g, List.getD_cons_zero, List.getD_cons_succ] at e0 e1 e2 e3 e4 e5 e6 e7 e8 e9 e10 e11
    rw [e0, e1, e2, e3, e4, e5, e6, e7, e8, e9, e10, e11]; rfl
theorem read_two {H : Heap} {k : Nat} {t : TypeId} (ht : leaves PP 5 t = some [3, 3]) {r : List Value} (hw : Wf PP H k t r) (hl : r.length = 2) : ∃ x y : Int, r = [iV x, iV y] := by
  obtain ⟨x0, e0⟩ := leaf_int (leaf_at ht hw 0 3 rfl)
  obtain ⟨x1, e1⟩ := leaf_int (leaf_at ht hw 1 3 rfl)
  match r, hl with
  | [_, _], _ =>
    refine ⟨x0, x1, ?_⟩
    simp only [g, List.getD_cons_zero, List.getD_cons_succ] at e0 e1
    rw [e0, e1]
theorem read_its {H : Heap} {v : Value} (h : Leaf PP H 29 v) : ∃ l, ItsS H v l := by
  obtain ⟨rows, hs, n, hw⟩ := h.slice Tryz.underlying29
  have hc : PP.cellsOf 77 = 5 := by kernel_rfl
  rw [hc] at hs
  have key : ∀ r ∈ rows, ∃ (x : It) (s : Value), r = [iV x.player, iV x.id, iV x.card, iV x.trig, s] ∧ Sl H 2 s (x.tgs.map Tg.row) := by
    intro r hr
    have hl := sl_row hs hr
    have hw := hw r hr
    obtain ⟨x0, e0⟩ := leaf_int (leaf_at leavesIt hw 0 3 rfl)
    obtain ⟨x1, e1⟩ := leaf_int (leaf_at leavesIt hw 1 3 rfl)
    obtain ⟨x2, e2⟩ := leaf_int (leaf_at leavesIt hw 2 3 rfl)
    obtain ⟨x3, e3⟩ := leaf_int (leaf_at leavesIt hw 3 3 rfl)
    obtain ⟨trows, ts, m, tw⟩ := (leaf_at leavesIt hw 4 75 rfl).slice Tryz.underlying75
    have hc2 : PP.cellsOf 105 = 2 := by kernel_rfl
    rw [hc2] at ts
    obtain ⟨tl, rfl⟩ := map_of (f := Tg.row) (rows := trows) fun r hr => by
      obtain ⟨x, y, e⟩ := read_two leavesTg (tw r hr) (sl_row ts hr)
      exact ⟨⟨x, y⟩, e⟩
    match r, hl with
    | [_, _, _, _, s], _ =>
      refine ⟨⟨x0, x1, x2, x3, tl⟩, s, ?_, ?_⟩
      · simp only [g, List.getD_cons_zero, List.getD_cons_succ] at e0 e1 e2 e3
        rw [e0, e1, e2, e3]
      · simpa [g] using ts
  have : ∃ l : List It, rows.length = l.length ∧ ∀ (i : Nat) (r : List Value) (x : It), rows[i]? = some r → l[i]? = some x → ∃ s, r = [iV x.player, iV x.id, iV x.card, iV x.trig, s] ∧ Sl H 2 s (x.tgs.map Tg.row) := by
    clear hs hw
    induction rows with
    | nil => exact ⟨[], rfl, fun i r x h => by simp at h⟩
    | cons r rs ih =>
      obtain ⟨l, h1, h2⟩ := ih fun x hx => key x (by simp [hx])
      obtain ⟨x, s, h3, h4⟩ := key r (by simp)
      refine ⟨x :: l, by simp [h1], fun i r' x' e1 e2 => ?_⟩
      cases i with
      | zero => simp at e1 e2; subst e1; subst e2; exact ⟨s, h3, h4⟩
      | succ i => exact h2 i r' x' (by simpa using e1) (by simpa using e2)
  obtain ⟨l, h1, h2⟩ := this
  exact ⟨l, rows, hs, h1, h2⟩
theorem read_ints {H : Heap} {v : Value} (h : Leaf PP H 25 v) : ∃ l, Sl H 1 v (ints l) := by
  obtain ⟨rows, hs, n, hw⟩ := h.slice Tryz.underlying25
  have hc : PP.cellsOf 3 = 1 := by kernel_rfl
  rw [hc] at hs
  obtain ⟨l, rfl⟩ := wf_ints Tryz.underlying3 hw
  exact ⟨l, hs⟩
theorem read_board {H : Heap} {cs : List Value} (hlen : cs.length = 38) (a : ∀ i l, ([22, 3, 3, 3, 3, 3, 25, 25, 25, 25, 4, 4, 4, 3, 3, 3, 3, 3, 3, 3, 25, 25, 25, 25, 4, 4, 4, 3, 3, 29, 29, 25, 30, 3, 3, 31, 3, 3] : List TypeId)[i]? = some l → Leaf PP H l (g cs i)) : ∃ v b, cs = boardC v b ∧ BdS H v b := by
  obtain ⟨orows, os, on, ow⟩ := (a 0 22 rfl).slice Tryz.underlying22
  have hc : PP.cellsOf 40 = 12 := by kernel_rfl
  rw [hc] at os
  obtain ⟨ol, rfl⟩ := map_of (f := Ob.row) (rows := orows) fun r hr => read_ob (ow r hr) (sl_row os hr)
  obtain ⟨brows, bs, bn, bw⟩ := (a 32 30 rfl).slice Tryz.underlying30
  have hc2 : PP.cellsOf 89 = 2 := by kernel_rfl
  rw [hc2] at bs
  obtain ⟨bl, rfl⟩ := map_of (f := Bl.row) (rows := brows) fun r hr => by
    obtain ⟨x, y, e⟩ := read_two leavesBl (bw r hr) (sl_row bs hr)
    exact ⟨⟨x, y⟩, e⟩
  obtain ⟨l0, hl0⟩ := read_ints (a 6 25 rfl)
  obtain ⟨h0, hh0⟩ := read_ints (a 7 25 rfl)
  obtain ⟨f0, hf0⟩ := read_ints (a 8 25 rfl)
  obtain ⟨g0, hg0⟩ := read_ints (a 9 25 rfl)
  obtain ⟨l1, hl1⟩ := read_ints (a 20 25 rfl)
  obtain ⟨h1, hh1⟩ := read_ints (a 21 25 rfl)
  obtain ⟨f1, hf1⟩ := read_ints (a 22 25 rfl)
  obtain ⟨g1, hg1⟩ := read_ints (a 23 25 rfl)
  obtain ⟨st, hst⟩ := read_its (a 29 29 rfl)
  obtain ⟨qu, hqu⟩ := read_its (a 30 29 rfl)
  obtain ⟨at_, hat⟩ := read_ints (a 31 25 rfl)
  obtain ⟨i1, e1⟩ := leaf_int (a 1 3 rfl)
  obtain ⟨i2, e2⟩ := leaf_int (a 2 3 rfl)
  obtain ⟨i3, e3⟩ := leaf_int (a 3 3 rfl)
  obtain ⟨i4, e4⟩ := leaf_int (a 4 3 rfl)
  obtain ⟨i5, e5⟩ := leaf_int (a 5 3 rfl)
  obtain ⟨i10, e10⟩ := leaf_bool (a 10 4 rfl)
  obtain ⟨i11, e11⟩ := leaf_bool (a 11 4 rfl)
  obtain ⟨i12, e12⟩ := leaf_bool (a 12 4 rfl)
  obtain ⟨i13, e13⟩ := leaf_int (a 13 3 rfl)
  obtain ⟨i14, e14⟩ := leaf_int (a 14 3 rfl)
  obtain ⟨i15, e15⟩ := leaf_int (a 15 3 rfl)
  obtain ⟨i16, e16⟩ := leaf_int (a 16 3 rfl)
  obtain ⟨i17, e17⟩ := leaf_int (a 17 3 rfl)
  obtain ⟨i18, e18⟩ := leaf_int (a 18 3 rfl)
  obtain ⟨i19, e19⟩ := leaf_int (a 19 3 rfl)
  obtain ⟨i24, e24⟩ := leaf_bool (a 24 4 rfl)
  obtain ⟨i25, e25⟩ := leaf_bool (a 25 4 rfl)
  obtain ⟨i26, e26⟩ := leaf_bool (a 26 4 rfl)
  obtain ⟨i27, e27⟩ := leaf_int (a 27 3 rfl)
  obtain ⟨i28, e28⟩ := leaf_int (a 28 3 rfl)
  obtain ⟨i33, e33⟩ := leaf_int (a 33 3 rfl)
  obtain ⟨i34, e34⟩ := leaf_int (a 34 3 rfl)
  obtain ⟨i35, e35, _⟩ := (a 35 31 rfl).int Tryz.underlying31
  obtain ⟨i36, e36⟩ := leaf_int (a 36 3 rfl)
  obtain ⟨i37, e37⟩ := leaf_int (a 37 3 rfl)
  refine ⟨⟨g cs 0, g cs 6, g cs 7, g cs 8, g cs 9, g cs 20, g cs 21, g cs 22, g cs 23, g cs 29, g cs 30, g cs 31, g cs 32⟩, ⟨ol, ⟨i1, i2, i3, i4, i5, l0, h0, f0, g0, i10, i11, i12, i13, i14⟩, ⟨i15, i16, i17, i18, i19, l1, h1, f1, g1, i24, i25, i26, i27, i28⟩, st, qu, at_, bl, i33, i34, i35, i36, i37⟩, ?_, ⟨os, ⟨hl0, hh0, hf0, hg0⟩, ⟨hl1, hh1, hf1, hg1⟩, hst, hqu, hat, bs⟩⟩
  simp only [boardC]
  rw [← e1, ← e2, ← e3, ← e4, ← e5, ← e10, ← e11, ← e12, ← e13, ← e14, ← e15, ← e16, ← e17, ← e18, ← e19, ← e24, ← e25, ← e26, ← e27, ← e28, ← e33, ← e34, ← e36, ← e37]
  have e35' : iV i35 = g cs 35 := e35.symm
  rw [e35']
  refine List.ext_getElem (by simp [hlen]) fun i h1 h2 => ?_
  have hi : i < 38 := by omega
  have : cs[i] = g cs i := by rw [← get_g (List.getElem?_eq_getElem h1)]
  rw [this]
  rcases i with _ | _ | _ | _ | _ | _ | _ | _ | _ | _ | _ | _ | _ | _ | _ | _ | _ | _ | _ | _ | _ | _ | _ | _ | _ | _ | _ | _ | _ | _ | _ | _ | _ | _ | _ | _ | _ | _ | i <;> first | rfl | omega
end Go.Proofs.YtjaegdkkiefchaaGreatDoor
