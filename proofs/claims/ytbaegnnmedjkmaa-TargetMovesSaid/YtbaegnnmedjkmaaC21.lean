/- A copy of a board: the reference's. -/
import Derived.Test.YtbaegnnmedjkmaaC10
import Derived.Test.YtbaegnnmedjkmaaFw3
import Derived.Test.YtbaegnnmedjkmaaFw3
import Derived.Test.YtbaegnnmedjkmaaFw3
import Derived.Lib.Overlaps
import Derived.Lib.AppendZerosOnto
namespace Go.Proofs.Ytbaegnnmedjkmaa
open Go Go.Sx
set_option maxRecDepth 100000
set_option maxHeartbeats 1000000
/-- A new slice with the rows of a frozen one. -/
theorem app_new {P : Program} {t ty e : TypeId} {size bytes : Nat} (ha : appOk P t e size bytes = true) {x : Value} {news : List (List Value)} {O : Own} {H : Heap} {K : List Value → List (List Value) → Heap → Own → Prop}
  (h : Sl H size x news) (hb : news.length * bytes ≤ 140737488355328) (h63 : news.length < 2 ^ 63) (hk : ∀ v' O1' H', Heap.le H H' → OSl e size v' news O1' → K [v'] [] H' (O1' ++ O)) :
  CallD (fun H1 O1 R => OpTriple P ((PrimOp.bi .append #[t, t] ty).sem [.slice none 0 0, x]) H1 O1 R) false [] [] .one K H O :=
 call_append (rows := []) (O1 := []) (O2 := O) ha (List.Perm.refl _) (OSl.nil e size) (fun _ hl _ => h.le hl) (by simpa using hb) (by simpa using h63) fun v' O1' H' hl ho => hk v' O1' H' hl (by simpa using ho)
theorem r_copied {H : Heap} {v : Value} {l : List It} (h : ItsS H v l) (hB : itsB l) : Triple PP F_zeitnotref15_copied [v] H [] fun v' H' O' => OIts Ty_api_Target Ty_api_Item v' l O' := by
 have hone := ItsR.one (h.r [])
 have hlen := ItsR.len (h.r [])
 obtain ⟨rows, hs, hrl, hit⟩ := h
 refine run_zeitnotref15_copied (vs := [v]) (by kernel_rfl) ⟨hone, trivial⟩ ?_
 simp only [T_zeitnotref15_copied]
 refine countY_den l.length (fun i x H' O' => Heap.le H H' ∧ ∃ rows' A Ts, O'.Perm (A ++ List.flatten Ts) ∧ OSl Ty_api_Item 5 x rows' A ∧ rows'.length = i ∧ Ts.length = i ∧
  (∀ (j : Nat) (r : List Value) (x : It) (T : Own), rows'[j]? = some r → l[j]? = some x → Ts[j]? = some T → ∃ s, r = [iV x.player, iV x.id, iV x.card, iV x.trig, s] ∧ OSl Ty_api_Target 2 s (x.tgs.map Tg.row) T))
  ⟨Heap.le_refl _, [], [], [], by simp, OSl.nil _ _, rfl, rfl, fun j r x T h => by simp at h⟩ ?_
 rintro i x H' O' hi - ⟨hle, rows', A, Ts, hp, hA, hrl', htl, hspec⟩
 refine pure_den _ hlen (pure_den _ (lss_eq _ _) (br_den (fun hb => ?_) (fun hb => ?_)))
 ·have hlt : i < l.length := by simpa using hb
  obtain ⟨s, hrow, hst⟩ := hit i rows[i] l[i] (List.getElem?_eq_getElem (by omega)) (List.getElem?_eq_getElem hlt)
  obtain ⟨a, h1, h2, h3, h4⟩ := (hs.le hle).idx (k := .i64) (i := i) (List.getElem?_eq_getElem (by omega))
  rw [hrow] at h2 h3 h4
  refine pure_den _ h1 (load_den h2 h3 h4 (newbox_den fun r0 => chkN_den (chkN_den ?_)))
  have hb6 := hB.2 _ (List.getElem_mem hlt)
  refine app_new (e := Ty_api_Target) (size := 2) (bytes := 16) (by kernel_rfl) (hst.le hle) (by simp; omega) (by simp; omega) fun s' T H2 l2 hT => ?_
  refine chkN_den (chkN_den (newbox_den fun r1 => ?_))
  refine call_append (rows := rows') (news := [[iV l[i].player, iV l[i].id, iV l[i].card, iV l[i].trig, s']]) (O1 := A) (O2 := T ++ List.flatten Ts) (e := Ty_api_Item) (size := 5) (bytes := 56) (by kernel_rfl) ((hp.append_left T).trans (List.perm_append_comm_assoc _ _ _)) hA
   (fun Hf _ hf => Sl.block1 (hf _ List.mem_cons_self) rfl ⟨rfl, rfl, rfl, rfl, hT.one, trivial⟩) ?_ ?_ ?_
  ·have := hB.1; simp; omega
  ·have := hB.1; simp; omega
  intro v' A' H3 l3 hA'
  refine pure_den _ (add_one (by have := hB.1; omega)) (countY_cont (by simp [Eqs]) hlt ⟨Heap.le_trans hle (Heap.le_trans l2 l3), _, A', Ts ++ [T], ?_, hA', by simp [hrl'], by simp [htl], ?_⟩)
  ·refine List.Perm.append_left A' ?_
   rw [List.flatten_append]
   simpa using List.perm_append_comm
  ·intro j r x T' q1 q2 q3
   by_cases hj : j = i
   ·subst hj
    rw [List.getElem?_append_right (by omega), hrl', Nat.sub_self] at q1
    rw [List.getElem?_eq_getElem hlt] at q2
    rw [List.getElem?_append_right (by omega), htl, Nat.sub_self] at q3
    simp only [Option.some.injEq, List.getElem?_cons_zero] at q1 q2 q3
    subst q1; subst q2; subst q3
    exact ⟨s', rfl, hT⟩
   ·have hjlt : j < Ts.length := by
     have := (List.getElem?_eq_some_iff.1 q3).1
     simp at this; omega
    rw [List.getElem?_append_left hjlt] at q3
    rw [List.getElem?_append_left (by omega)] at q1
    exact hspec j r x T' q1 q2 q3
 ·have hie : i = l.length := by
   have : ¬ ((i : Int) < (l.length : Int)) := by simpa using hb
   omega
  subst hie
  exact ret_denO ⟨rows', A, Ts, hp, hA, hrl', htl, hspec⟩
theorem r_Copy {H : Heap} {v : BV12} {b : Bd} (h : BdS H v b) (hB : bdB b) : Triple PP F_zeitnotref15_Copy [.agg (boardC v b).toArray] H [] fun r H' O' => ∃ w, r = .agg (boardC w b).toArray ∧ OwnB tys w b O' := by
 refine run_zeitnotref15_Copy (vs := boardC v b) (by kernel_rfl) (boardC_ones (h.r [])) ?_
 simp only [T_zeitnotref15_Copy]
 obtain ⟨b1, ⟨b2, b3, b4, b5⟩, ⟨b6, b7, b8, b9⟩, b10, b11, b12, b13⟩ := hB
 refine newbox_den fun r0 => ?_
 repeat (first | refine chkN_den ?_ | refine chkV_den ?_ | refine newbox_den fun _ => ?_)
 refine app_new (e := Ty_api_Object) (size := 12) (bytes := 80) (by kernel_rfl) h.objs (by simp [ints]; omega) (by simp [ints]; omega) fun xo Oo H1 l1 po => ?_
 replace h := h.le l1
 repeat (first | refine chkN_den ?_ | refine chkV_den ?_ | refine newbox_den fun _ => ?_)
 refine app_new (e := Ty_int) (size := 1) (bytes := 8) (by kernel_rfl) h.s0.lib (by simp [ints]; omega) (by simp [ints]; omega) fun x1 A0 H1 l1 p1 => ?_
 replace h := h.le l1
 repeat (first | refine chkN_den ?_ | refine chkV_den ?_ | refine newbox_den fun _ => ?_)
 refine app_new (e := Ty_int) (size := 1) (bytes := 8) (by kernel_rfl) h.s0.hand (by simp [ints]; omega) (by simp [ints]; omega) fun x2 B0 H1 l1 p2 => ?_
 replace h := h.le l1
 repeat (first | refine chkN_den ?_ | refine chkV_den ?_ | refine newbox_den fun _ => ?_)
 refine app_new (e := Ty_int) (size := 1) (bytes := 8) (by kernel_rfl) h.s0.field (by simp [ints]; omega) (by simp [ints]; omega) fun x3 C0 H1 l1 p3 => ?_
 replace h := h.le l1
 repeat (first | refine chkN_den ?_ | refine chkV_den ?_ | refine newbox_den fun _ => ?_)
 refine app_new (e := Ty_int) (size := 1) (bytes := 8) (by kernel_rfl) h.s0.grave (by simp [ints]; omega) (by simp [ints]; omega) fun x4 D0 H1 l1 p4 => ?_
 replace h := h.le l1
 repeat (first | refine chkN_den ?_ | refine chkV_den ?_ | refine newbox_den fun _ => ?_)
 refine app_new (e := Ty_int) (size := 1) (bytes := 8) (by kernel_rfl) h.s1.lib (by simp [ints]; omega) (by simp [ints]; omega) fun x5 A1 H1 l1 p5 => ?_
 replace h := h.le l1
 repeat (first | refine chkN_den ?_ | refine chkV_den ?_ | refine newbox_den fun _ => ?_)
 refine app_new (e := Ty_int) (size := 1) (bytes := 8) (by kernel_rfl) h.s1.hand (by simp [ints]; omega) (by simp [ints]; omega) fun x6 B1 H1 l1 p6 => ?_
 replace h := h.le l1
 repeat (first | refine chkN_den ?_ | refine chkV_den ?_ | refine newbox_den fun _ => ?_)
 refine app_new (e := Ty_int) (size := 1) (bytes := 8) (by kernel_rfl) h.s1.field (by simp [ints]; omega) (by simp [ints]; omega) fun x7 C1 H1 l1 p7 => ?_
 replace h := h.le l1
 repeat (first | refine chkN_den ?_ | refine chkV_den ?_ | refine newbox_den fun _ => ?_)
 refine app_new (e := Ty_int) (size := 1) (bytes := 8) (by kernel_rfl) h.s1.grave (by simp [ints]; omega) (by simp [ints]; omega) fun x8 D1 H1 l1 p8 => ?_
 replace h := h.le l1
 repeat (first | refine chkN_den ?_ | refine chkV_den ?_ | refine newbox_den fun _ => ?_)
 refine call_new (r_copied h.stack b10) fun xs H1 Os ps l1 => ⟨_, rfl, ⟨OIts.one ps, trivial⟩, ?_⟩
 replace h := h.le l1
 repeat (first | refine chkN_den ?_ | refine chkV_den ?_ | refine newbox_den fun _ => ?_)
 refine call_new (r_copied h.queue b11) fun xq H1 Oq pq l1 => ⟨_, rfl, ⟨OIts.one pq, trivial⟩, ?_⟩
 replace h := h.le l1
 repeat (first | refine chkN_den ?_ | refine chkV_den ?_ | refine newbox_den fun _ => ?_)
 refine app_new (e := Ty_int) (size := 1) (bytes := 8) (by kernel_rfl) h.att (by simp [ints]; omega) (by simp [ints]; omega) fun xa Oa H1 l1 pa => ?_
 replace h := h.le l1
 repeat (first | refine chkN_den ?_ | refine chkV_den ?_ | refine newbox_den fun _ => ?_)
 refine app_new (e := Ty_api_Block) (size := 2) (bytes := 16) (by kernel_rfl) h.blocks (by simp [ints]; omega) (by simp [ints]; omega) fun xb Obk H1 l1 pb => ?_
 replace h := h.le l1
 repeat (first | refine chkN_den ?_ | refine chkV_den ?_ | refine newbox_den fun _ => ?_)
 refine ret_denO ⟨⟨xo, x1, x2, x3, x4, x5, x6, x7, x8, xs, xq, xa, xb⟩, rfl, Oo, A0, B0, C0, D0, A1, B1, C1, D1, Os, Oq, Oa, Obk, ?_, ⟨po, p1, p2, p3, p4, p5, p6, p7, p8, ps, pq, pa, pb⟩⟩
 refine perm_count fun a _ _ => ?_
 simp only [List.count_append, List.count_nil]
 omega
end Go.Proofs.Ytbaegnnmedjkmaa
namespace Go.Proofs.Ytbaegnnmedjkmaa
open Go Go.Sx
set_option maxRecDepth 100000
set_option maxHeartbeats 1000000
theorem ptr0 (a : Addr) : ptrAdd (.pointer (some a)) 0 = .pointer (some a) := by simp [ptrAdd, Addr.add]
end Go.Proofs.Ytbaegnnmedjkmaa
namespace Go.Proofs.Ytbaegnnmedjkmaa
open Go Go.Sx
set_option maxRecDepth 100000
set_option maxHeartbeats 1000000
theorem ownB_ones {w : BV12} {b : Bd} {O : Own} (H : Heap) (h : OwnB tys w b O) : Ones (boardC w b) := boardC_ones (h.r (fun _ h => h) H)
end Go.Proofs.Ytbaegnnmedjkmaa
namespace Go.Proofs.Ytbaegnnmedjkmaa
open Go Go.Sx
set_option maxRecDepth 100000
set_option maxHeartbeats 1000000
theorem map_of {α : Type} {f : α → List Value} : ∀ {rows : List (List Value)}, (∀ r ∈ rows, ∃ x, r = f x) → ∃ l : List α, rows = l.map f
 | [], _ => ⟨[], rfl⟩
 | r :: rs, h => by
  obtain ⟨l, hl⟩ := map_of (rows := rs) fun x hx => h x (by simp [hx])
  obtain ⟨x, rfl⟩ := h r (by simp)
  exact ⟨x :: l, by rw [hl]; rfl⟩
theorem sl_row {H : Heap} {size : Nat} {v : Value} {rows : List (List Value)} (h : Sl H size v rows) {r : List Value} (hr : r ∈ rows) : r.length = size := by
 obtain ⟨i, hlt, rfl⟩ := List.getElem_of_mem hr
 obtain ⟨_, _, _, h3, _⟩ := h.idx (k := .i64) (List.getElem?_eq_getElem hlt)
 exact h3
theorem get_g {r : List Value} {i : Nat} {c : Value} (h : r[i]? = some c) : c = g r i := by rw [g_get h]
theorem leavesOb : leaves PP 5 Ty_api_Object = some [3, 3, 3, 3, 3, 3, 3, 3, 3, 4, 4, 4] := by kernel_rfl
theorem leavesTg : leaves PP 5 Ty_api_Target = some [3, 3] := by kernel_rfl
theorem leavesBl : leaves PP 5 Ty_api_Block = some [3, 3] := by kernel_rfl
theorem leavesIt : leaves PP 5 Ty_api_Item = some [3, 3, 3, 3, 58] := by kernel_rfl
theorem leavesBd : leaves PP 6 34 = some [23, 3, 3, 3, 3, 3, 26, 26, 26, 26, 4, 4, 4, 3, 3, 3, 3, 3, 3, 3, 26, 26, 26, 26, 4, 4, 4, 3, 3, 30, 30, 26, 31, 3, 3, 32, 3, 3] := by kernel_rfl
theorem leaf_int {H : Heap} {c : Value} (h : Leaf PP H 3 c) : ∃ x, c = iV x := let ⟨x, e, _⟩ := h.int Try.underlying3; ⟨x, e⟩
theorem leaf_bool {H : Heap} {c : Value} (h : Leaf PP H 4 c) : ∃ x, c = .bool x := h.bool Try.underlying4
theorem leaf_at {H : Heap} {k : Nat} {t : TypeId} {ds : List Value} {ls : List TypeId} {n : Nat} (hl : leaves PP n t = some ls) (hw : Wf PP H k t ds) (i : Nat) (l : TypeId) (hi : ls[i]? = some l) : Leaf PP H l (g ds i) := by
 obtain ⟨c, h1, h2⟩ := leaf_get hl hw i l hi
 rw [← get_g h1]; exact h2
theorem read_ob {H : Heap} {k : Nat} {r : List Value} (hw : Wf PP H k Ty_api_Object r) (hl : r.length = 12) : ∃ o, r = Ob.row o := by
 have a := fun i l h => leaf_at leavesOb hw i l h
 obtain ⟨x0, e0⟩ := leaf_int (a 0 3 rfl)
 obtain ⟨x1, e1⟩ := leaf_int (a 1 3 rfl)
 obtain ⟨x2, e2⟩ := leaf_int (a 2 3 rfl)
 obtain ⟨x3, e3⟩ := leaf_int (a 3 3 rfl)
 obtain ⟨x4, e4⟩ := leaf_int (a 4 3 rfl)
 obtain ⟨x5, e5⟩ := leaf_int (a 5 3 rfl)
 obtain ⟨x6, e6⟩ := leaf_int (a 6 3 rfl)
 obtain ⟨x7, e7⟩ := leaf_int (a 7 3 rfl)
 obtain ⟨x8, e8⟩ := leaf_int (a 8 3 rfl)
 obtain ⟨x9, e9⟩ := leaf_bool (a 9 4 rfl)
 obtain ⟨x10, e10⟩ := leaf_bool (a 10 4 rfl)
 obtain ⟨x11, e11⟩ := leaf_bool (a 11 4 rfl)
 match r, hl with
 | [_, _, _, _, _, _, _, _, _, _, _, _], _ =>
  refine ⟨⟨x0, x1, x2, x3, x4, x5, x6, x7, x8, x9, x10, x11⟩, ?_⟩
  simp only [g, List.getD_cons_zero, List.getD_cons_succ] at e0 e1 e2 e3 e4 e5 e6 e7 e8 e9 e10 e11
  rw [e0, e1, e2, e3, e4, e5, e6, e7, e8, e9, e10, e11]; rfl
theorem read_two {H : Heap} {k : Nat} {t : TypeId} (ht : leaves PP 5 t = some [3, 3]) {r : List Value} (hw : Wf PP H k t r) (hl : r.length = 2) : ∃ x y : Int, r = [iV x, iV y] := by
 obtain ⟨x0, e0⟩ := leaf_int (leaf_at ht hw 0 3 rfl)
 obtain ⟨x1, e1⟩ := leaf_int (leaf_at ht hw 1 3 rfl)
 match r, hl with
 | [_, _], _ =>
  refine ⟨x0, x1, ?_⟩
  simp only [g, List.getD_cons_zero, List.getD_cons_succ] at e0 e1
  rw [e0, e1]
theorem read_its {H : Heap} {v : Value} (h : Leaf PP H 30 v) : ∃ l, ItsS H v l := by
 obtain ⟨rows, hs, n, hw⟩ := h.slice Try.underlying30
 have hc : PP.cellsOf 60 = 5 := by kernel_rfl
 rw [hc] at hs
 have key : ∀ r ∈ rows, ∃ (x : It) (s : Value), r = [iV x.player, iV x.id, iV x.card, iV x.trig, s] ∧ Sl H 2 s (x.tgs.map Tg.row) := by
  intro r hr
  have hl := sl_row hs hr
  have hw := hw r hr
  obtain ⟨x0, e0⟩ := leaf_int (leaf_at leavesIt hw 0 3 rfl)
  obtain ⟨x1, e1⟩ := leaf_int (leaf_at leavesIt hw 1 3 rfl)
  obtain ⟨x2, e2⟩ := leaf_int (leaf_at leavesIt hw 2 3 rfl)
  obtain ⟨x3, e3⟩ := leaf_int (leaf_at leavesIt hw 3 3 rfl)
  obtain ⟨trows, ts, m, tw⟩ := (leaf_at leavesIt hw 4 58 rfl).slice Try.underlying58
  have hc2 : PP.cellsOf 62 = 2 := by kernel_rfl
  rw [hc2] at ts
  obtain ⟨tl, rfl⟩ := map_of (f := Tg.row) (rows := trows) fun r hr => by
   obtain ⟨x, y, e⟩ := read_two leavesTg (tw r hr) (sl_row ts hr)
   exact ⟨⟨x, y⟩, e⟩
  match r, hl with
  | [_, _, _, _, s], _ =>
   refine ⟨⟨x0, x1, x2, x3, tl⟩, s, ?_, ?_⟩
   ·simp only [g, List.getD_cons_zero, List.getD_cons_succ] at e0 e1 e2 e3
    rw [e0, e1, e2, e3]
   ·simpa [g] using ts
 have : ∃ l : List It, rows.length = l.length ∧ ∀ (i : Nat) (r : List Value) (x : It), rows[i]? = some r → l[i]? = some x → ∃ s, r = [iV x.player, iV x.id, iV x.card, iV x.trig, s] ∧ Sl H 2 s (x.tgs.map Tg.row) := by
  clear hs hw
  induction rows with
  | nil => exact ⟨[], rfl, fun i r x h => by simp at h⟩
  | cons r rs ih =>
   obtain ⟨l, h1, h2⟩ := ih fun x hx => key x (by simp [hx])
   obtain ⟨x, s, h3, h4⟩ := key r (by simp)
   refine ⟨x :: l, by simp [h1], fun i r' x' e1 e2 => ?_⟩
   cases i with
   | zero => simp at e1 e2; subst e1; subst e2; exact ⟨s, h3, h4⟩
   | succ i => exact h2 i r' x' (by simpa using e1) (by simpa using e2)
 obtain ⟨l, h1, h2⟩ := this
 exact ⟨l, rows, hs, h1, h2⟩
theorem read_ints {H : Heap} {v : Value} (h : Leaf PP H 26 v) : ∃ l, Sl H 1 v (ints l) := by
 obtain ⟨rows, hs, n, hw⟩ := h.slice Try.underlying26
 have hc : PP.cellsOf 3 = 1 := by kernel_rfl
 rw [hc] at hs
 obtain ⟨l, rfl⟩ := wf_ints Try.underlying3 hw
 exact ⟨l, hs⟩
theorem read_board {H : Heap} {cs : List Value} (hlen : cs.length = 38) (a : ∀ i l, ([23, 3, 3, 3, 3, 3, 26, 26, 26, 26, 4, 4, 4, 3, 3, 3, 3, 3, 3, 3, 26, 26, 26, 26, 4, 4, 4, 3, 3, 30, 30, 26, 31, 3, 3, 32, 3, 3] : List TypeId)[i]? = some l → Leaf PP H l (g cs i)) : ∃ v b, cs = boardC v b ∧ BdS H v b := by
 obtain ⟨orows, os, on, ow⟩ := (a 0 23 rfl).slice Try.underlying23
 have hc : PP.cellsOf 68 = 12 := by kernel_rfl
 rw [hc] at os
 obtain ⟨ol, rfl⟩ := map_of (f := Ob.row) (rows := orows) fun r hr => read_ob (ow r hr) (sl_row os hr)
 obtain ⟨brows, bs, bn, bw⟩ := (a 32 31 rfl).slice Try.underlying31
 have hc2 : PP.cellsOf 113 = 2 := by kernel_rfl
 rw [hc2] at bs
 obtain ⟨bl, rfl⟩ := map_of (f := Bl.row) (rows := brows) fun r hr => by
  obtain ⟨x, y, e⟩ := read_two leavesBl (bw r hr) (sl_row bs hr)
  exact ⟨⟨x, y⟩, e⟩
 obtain ⟨l0, hl0⟩ := read_ints (a 6 26 rfl)
 obtain ⟨h0, hh0⟩ := read_ints (a 7 26 rfl)
 obtain ⟨f0, hf0⟩ := read_ints (a 8 26 rfl)
 obtain ⟨g0, hg0⟩ := read_ints (a 9 26 rfl)
 obtain ⟨l1, hl1⟩ := read_ints (a 20 26 rfl)
 obtain ⟨h1, hh1⟩ := read_ints (a 21 26 rfl)
 obtain ⟨f1, hf1⟩ := read_ints (a 22 26 rfl)
 obtain ⟨g1, hg1⟩ := read_ints (a 23 26 rfl)
 obtain ⟨st, hst⟩ := read_its (a 29 30 rfl)
 obtain ⟨qu, hqu⟩ := read_its (a 30 30 rfl)
 obtain ⟨at_, hat⟩ := read_ints (a 31 26 rfl)
 obtain ⟨i1, e1⟩ := leaf_int (a 1 3 rfl)
 obtain ⟨i2, e2⟩ := leaf_int (a 2 3 rfl)
 obtain ⟨i3, e3⟩ := leaf_int (a 3 3 rfl)
 obtain ⟨i4, e4⟩ := leaf_int (a 4 3 rfl)
 obtain ⟨i5, e5⟩ := leaf_int (a 5 3 rfl)
 obtain ⟨i10, e10⟩ := leaf_bool (a 10 4 rfl)
 obtain ⟨i11, e11⟩ := leaf_bool (a 11 4 rfl)
 obtain ⟨i12, e12⟩ := leaf_bool (a 12 4 rfl)
 obtain ⟨i13, e13⟩ := leaf_int (a 13 3 rfl)
 obtain ⟨i14, e14⟩ := leaf_int (a 14 3 rfl)
 obtain ⟨i15, e15⟩ := leaf_int (a 15 3 rfl)
 obtain ⟨i16, e16⟩ := leaf_int (a 16 3 rfl)
 obtain ⟨i17, e17⟩ := leaf_int (a 17 3 rfl)
 obtain ⟨i18, e18⟩ := leaf_int (a 18 3 rfl)
 obtain ⟨i19, e19⟩ := leaf_int (a 19 3 rfl)
 obtain ⟨i24, e24⟩ := leaf_bool (a 24 4 rfl)
 obtain ⟨i25, e25⟩ := leaf_bool (a 25 4 rfl)
 obtain ⟨i26, e26⟩ := leaf_bool (a 26 4 rfl)
 obtain ⟨i27, e27⟩ := leaf_int (a 27 3 rfl)
 obtain ⟨i28, e28⟩ := leaf_int (a 28 3 rfl)
 obtain ⟨i33, e33⟩ := leaf_int (a 33 3 rfl)
 obtain ⟨i34, e34⟩ := leaf_int (a 34 3 rfl)
 obtain ⟨i35, e35, _⟩ := (a 35 32 rfl).int Try.underlying32
 obtain ⟨i36, e36⟩ := leaf_int (a 36 3 rfl)
 obtain ⟨i37, e37⟩ := leaf_int (a 37 3 rfl)
 refine ⟨⟨g cs 0, g cs 6, g cs 7, g cs 8, g cs 9, g cs 20, g cs 21, g cs 22, g cs 23, g cs 29, g cs 30, g cs 31, g cs 32⟩, ⟨ol, ⟨i1, i2, i3, i4, i5, l0, h0, f0, g0, i10, i11, i12, i13, i14⟩, ⟨i15, i16, i17, i18, i19, l1, h1, f1, g1, i24, i25, i26, i27, i28⟩, st, qu, at_, bl, i33, i34, i35, i36, i37⟩, ?_, ⟨os, ⟨hl0, hh0, hf0, hg0⟩, ⟨hl1, hh1, hf1, hg1⟩, hst, hqu, hat, bs⟩⟩
 simp only [boardC]
 rw [← e1, ← e2, ← e3, ← e4, ← e5, ← e10, ← e11, ← e12, ← e13, ← e14, ← e15, ← e16, ← e17, ← e18, ← e19, ← e24, ← e25, ← e26, ← e27, ← e28, ← e33, ← e34, ← e36, ← e37]
 have e35' : iV i35 = g cs 35 := e35.symm
 rw [e35']
 refine List.ext_getElem (by simp [hlen]) fun i h1 h2 => ?_
 have hi : i < 38 := by omega
 have : cs[i] = g cs i := by rw [← get_g (List.getElem?_eq_getElem h1)]
 rw [this]
 rcases i with _ | _ | _ | _ | _ | _ | _ | _ | _ | _ | _ | _ | _ | _ | _ | _ | _ | _ | _ | _ | _ | _ | _ | _ | _ | _ | _ | _ | _ | _ | _ | _ | _ | _ | _ | _ | _ | _ | i <;> first | rfl | omega
end Go.Proofs.Ytbaegnnmedjkmaa
namespace Go.Sx
open Go
theorem Cons.ghost {H H' : Heap} {O O' : Own} (h : Cons H O) (g : Ghost H O H' O') : Cons H' O' := by
 obtain ⟨w, F, hm⟩ := h
 exact ⟨w, F, (g w F hm).1⟩
theorem Cons.perm {H : Heap} {O O' : Own} (h : Cons H O) (hp : O.Perm O') : Cons H O' := h.ghost (Ghost.perm hp)
theorem Triple.ghost {P : Program} {f : FuncId} {args : List Value} {H : Heap} {O : Own} {Q Q' : Value → Heap → Own → Prop} (h : Triple P f args H O Q)
  (hq : ∀ v H' O', Heap.le H H' → Cons H' O' → Q v H' O' → ∃ H'' O'', Ghost H' O' H'' O'' ∧ Q' v H'' O'') : Triple P f args H O Q' :=
 fun w F hm => (h w F hm).mono fun _ w' ⟨v, H', O', he, q, hle, hm'⟩ =>
  let ⟨H'', O'', g, q'⟩ := hq v H' O' hle ⟨w', F, hm'⟩ q
  ⟨v, H'', O'', he, q', Heap.le_trans hle (g _ _ hm').2, (g _ _ hm').1⟩
theorem its_freeze {te : TypeId} : ∀ (l : List It) (rows : List (List Value)) (Ts : List Own) (H : Heap) (X : Own), rows.length = l.length → Ts.length = l.length →
  (∀ (i : Nat) (r : List Value) (x : It) (T : Own), rows[i]? = some r → l[i]? = some x → Ts[i]? = some T → ∃ s, r = [iV x.player, iV x.id, iV x.card, iV x.trig, s] ∧ OSl te 2 s (x.tgs.map Tg.row) T) →
  Cons H (List.flatten Ts ++ X) → ∃ H', Ghost H (List.flatten Ts ++ X) H' X ∧ Heap.le H H' ∧
   ∀ (i : Nat) (r : List Value) (x : It), rows[i]? = some r → l[i]? = some x → ∃ s, r = [iV x.player, iV x.id, iV x.card, iV x.trig, s] ∧ Sl H' 2 s (x.tgs.map Tg.row)
 | [], [], [], H, X, _, _, _, _ => ⟨H, Ghost.refl _ _, Heap.le_refl _, fun i r x h => by simp at h⟩
 | x :: l, r :: rows, T :: Ts, H, X, h1, h2, hs, hc => by
  obtain ⟨s, e, hT⟩ := hs 0 r x T rfl rfl rfl
  rw [List.flatten_cons, List.append_assoc] at hc
  obtain ⟨H1, g1, k1, l1⟩ := hT.freeze hc
  obtain ⟨H2, g2, l2, k2⟩ := its_freeze l rows Ts H1 X (by simpa using h1) (by simpa using h2) (fun i r x T a b c => hs (i + 1) r x T (by simpa using a) (by simpa using b) (by simpa using c)) (hc.ghost g1)
  refine ⟨H2, ?_, Heap.le_trans l1 l2, fun i r' x' a b => ?_⟩
  ·rw [List.flatten_cons, List.append_assoc]; exact g1.trans g2
  ·cases i with
   | zero => simp at a b; subst a; subst b; exact ⟨s, e, k1.le l2⟩
   | succ i => exact k2 i r' x' (by simpa using a) (by simpa using b)
 | [], _ :: _, _, _, _, h, _, _, _ => by simp at h
 | _ :: _, [], _, _, _, h, _, _, _ => by simp at h
 | [], [], _ :: _, _, _, _, h, _, _ => by simp at h
 | _ :: _, _ :: _, [], _, _, _, h, _, _ => by simp at h
theorem OIts.freeze {te ti : TypeId} {v : Value} {l : List It} {O1 X : Own} {H : Heap} (h : OIts te ti v l O1) (hc : Cons H (O1 ++ X)) : ∃ H', Ghost H (O1 ++ X) H' X ∧ ItsS H' v l ∧ Heap.le H H' := by
 obtain ⟨rows, A, Ts, hp, h1, h2, h3, h4⟩ := h
 have hp' : (O1 ++ X).Perm (A ++ (List.flatten Ts ++ X)) := (hp.append_right X).trans (List.Perm.of_eq (List.append_assoc _ _ _))
 obtain ⟨H1, g1, k1, l1⟩ := h1.freeze (hc.perm hp')
 obtain ⟨H2, g2, l2, k2⟩ := its_freeze l rows Ts H1 X h2 h3 h4 ((hc.perm hp').ghost g1)
 exact ⟨H2, (Ghost.perm hp').trans (g1.trans g2), ⟨rows, k1.le l2, h2, k2⟩, Heap.le_trans l1 l2⟩
theorem OwnB.freeze {t : Tys} {w : BV12} {b : Bd} {O X : Own} {H : Heap} (h : OwnB t w b O) (hc : Cons H (O ++ X)) : ∃ H', Ghost H (O ++ X) H' X ∧ BdS H' w b ∧ Heap.le H H' := by
 obtain ⟨Oo, A0, B0, C0, D0, A1, B1, C1, D1, Os, Oq, Oa, Obk, hp, h⟩ := h
 have hp' : (O ++ X).Perm (Oo ++ (A0 ++ (B0 ++ (C0 ++ (D0 ++ (A1 ++ (B1 ++ (C1 ++ (D1 ++ (Os ++ (Oq ++ (Oa ++ (Obk ++ X))))))))))))) := by
  refine (hp.append_right X).trans (List.Perm.of_eq ?_)
  simp only [List.append_assoc]
 replace hc := hc.perm hp'
 obtain ⟨H1, g1, k1, l1⟩ := h.objs.freeze hc
 replace hc := hc.ghost g1
 obtain ⟨H2, g2, k2, l2⟩ := h.l0.freeze hc
 replace hc := hc.ghost g2
 obtain ⟨H3, g3, k3, l3⟩ := h.h0.freeze hc
 replace hc := hc.ghost g3
 obtain ⟨H4, g4, k4, l4⟩ := h.f0.freeze hc
 replace hc := hc.ghost g4
 obtain ⟨H5, g5, k5, l5⟩ := h.g0.freeze hc
 replace hc := hc.ghost g5
 obtain ⟨H6, g6, k6, l6⟩ := h.l1.freeze hc
 replace hc := hc.ghost g6
 obtain ⟨H7, g7, k7, l7⟩ := h.h1.freeze hc
 replace hc := hc.ghost g7
 obtain ⟨H8, g8, k8, l8⟩ := h.f1.freeze hc
 replace hc := hc.ghost g8
 obtain ⟨H9, g9, k9, l9⟩ := h.g1.freeze hc
 replace hc := hc.ghost g9
 obtain ⟨H10, g10, k10, l10⟩ := h.stack.freeze hc
 replace hc := hc.ghost g10
 obtain ⟨H11, g11, k11, l11⟩ := h.queue.freeze hc
 replace hc := hc.ghost g11
 obtain ⟨H12, g12, k12, l12⟩ := h.att.freeze hc
 replace hc := hc.ghost g12
 obtain ⟨H13, g13, k13, l13⟩ := h.blocks.freeze hc
 have m12 := l13
 have m11 := Heap.le_trans l12 m12
 have m10 := Heap.le_trans l11 m11
 have m9 := Heap.le_trans l10 m10
 have m8 := Heap.le_trans l9 m9
 have m7 := Heap.le_trans l8 m8
 have m6 := Heap.le_trans l7 m7
 have m5 := Heap.le_trans l6 m6
 have m4 := Heap.le_trans l5 m5
 have m3 := Heap.le_trans l4 m4
 have m2 := Heap.le_trans l3 m3
 have m1 := Heap.le_trans l2 m2
 exact ⟨H13, (Ghost.perm hp').trans (g1.trans (g2.trans (g3.trans (g4.trans (g5.trans (g6.trans (g7.trans (g8.trans (g9.trans (g10.trans (g11.trans (g12.trans g13)))))))))))),
  ⟨k1.le m1, ⟨k2.le m2, k3.le m3, k4.le m4, k5.le m5⟩, ⟨k6.le m6, k7.le m7, k8.le m8, k9.le m9⟩, k10.le m10, k11.le m11, k12.le m12, k13⟩, Heap.le_trans l1 m1⟩
/-- What is handed back is frozen at once. -/
theorem Triple.frozen {P : Program} {f : FuncId} {args : List Value} {H : Heap} {t : Tys} {b : Bd} (h : Triple P f args H [] fun r _ O' => ∃ w, r = .agg (boardC w b).toArray ∧ OwnB t w b O') :
  Triple P f args H [] fun r H' O' => (∃ w, r = .agg (boardC w b).toArray ∧ BdS H' w b) ∧ O' = [] := by
 refine h.ghost ?_
 rintro v H' O' _ hc ⟨w, rfl, ho⟩
 obtain ⟨H'', g, k, _⟩ := ho.freeze (X := []) (by simpa using hc)
 exact ⟨H'', [], by simpa using g, ⟨w, rfl, k⟩, rfl⟩
end Go.Sx
namespace Go.Sx
open Go
theorem RetO.frame {P : Program} {f : FuncId} {args : List Value} {H : Heap} {O : Own} {r : Value} (h : RetO P f args H O r) (X : Own) : RetO P f args H (O ++ X) r :=
 (Triple.frame h X).mono fun _ _ _ _ ⟨O'', e, e1, e2⟩ => ⟨e1, by rw [e, e2]⟩
theorem RetO.perm {P : Program} {f : FuncId} {args : List Value} {H : Heap} {O O' : Own} {r : Value} (h : RetO P f args H O r) (hp : O.Perm O') : RetO P f args H O' r :=
 fun w F hm => (h w F (hm.perm (hp.symm.append_right F))).mono fun _ _ ⟨v, H', O1, he, ⟨q1, q2⟩, hle, hm'⟩ => ⟨v, H', O', he, ⟨q1, rfl⟩, hle, hm'.perm (by rw [q2]; exact hp.append_right F)⟩
theorem row_eq {r : List Value} {n : Nat} (h : r.length = n) : (List.range n).map (g r) = r := by
 subst h
 refine List.ext_getElem (by simp) fun i h1 h2 => ?_
 simp [g, h2]
/-- A call that is handed an own part. -/
theorem call_part {P : Program} {f : FuncId} {args : List Value} {H : Heap} {O O1 O2 : Own} {shp : Shp} {K : List Value → List (List Value) → Heap → Own → Prop} {R : Value → Heap → Own → Prop}
  (hO : O.Perm (O1 ++ O2)) (h : Triple P f args H O1 R) (hk : ∀ v H' O3, R v H' O3 → Heap.le H H' → ∃ vs, shp.open v = some vs ∧ Ones vs ∧ K vs [] H' (O3 ++ O2)) :
  CallD (fun H1 O1 R => Triple P f args H1 O1 R) false [] [] shp K H O := by
 intro _
 refine ⟨H, O1, O2, R, Ghost.perm hO, by simpa using h, ?_⟩
 intro v H' O' hr hle
 obtain ⟨vs, h1, h2, h3⟩ := hk v H' O' hr hle
 exact ⟨vs, [], O', h1, h2, trivial, rfl, h3⟩
end Go.Sx
namespace Go.Sx
open Go
theorem Sl.from {H : Heap} {size : Nat} {v : Value} {rows : List (List Value)} (h : Sl H size v rows) {i : Nat} (hi : i ≤ rows.length) : ∃ u, evalPure (.slc size true false false) [v, .int .i64 i] = some u ∧ Sl H size u (rows.drop i) := by
 obtain ⟨a, cap, rfl, h1, h2, h3⟩ := h
 have hb : slcBounds rows.length cap (some (.int .i64 (i : Int))) none none = some (i, rows.length, cap) := by
  simp [slcBounds, boundOr, boundHi, boundI, asI, hi]
 have hm : (rows.drop i).length = rows.length - i := List.length_drop
 refine ⟨.slice (if cap = i then a else a.map (·.add (i * size))) (rows.length - i) (cap - i), ?_, _, cap - i, by rw [hm], by rw [hm]; omega, by omega, fun hne => ?_⟩
 ·simp only [evalPure, takeArgs, evalSlc, hb, Option.map_some]
 ·have hne2 : rows ≠ [] := by rintro rfl; simp at hne
  have hlt : i < rows.length := by
   rcases Nat.lt_or_ge i rows.length with h | h
   ·exact h
   ·rw [List.drop_of_length_le h] at hne; exact absurd rfl hne
  obtain ⟨ad, rfl, hA⟩ := h3 hne2
  refine ⟨ad.add (i * size), ?_, fun j r hr => ?_⟩
  ·rw [if_neg (by omega)]; rfl
  ·rw [List.getElem?_drop] at hr
   have := hA (i + j) r hr
   rw [add_add, ← Nat.add_mul]; exact this
/-- Two lists, side by side, of which some are taken. -/
theorem filter2 {α β : Type} {p : α → Bool} {q : β → Bool} {R : α → β → Prop} (hpq : ∀ a b, R a b → p a = q b) : ∀ (l : List α) (r : List β), l.length = r.length → (∀ (i : Nat) (a : α) (b : β), l[i]? = some a → r[i]? = some b → R a b) →
  (l.filter p).length = (r.filter q).length ∧ ∀ (i : Nat) (a : α) (b : β), (l.filter p)[i]? = some a → (r.filter q)[i]? = some b → R a b
 | [], [], _, _ => ⟨rfl, fun i a b h => by simp at h⟩
 | a :: l, b :: r, h, hR => by
  have h0 := hR 0 a b rfl rfl
  have e := hpq a b h0
  obtain ⟨i1, i2⟩ := filter2 hpq l r (by simpa using h) fun i a b x y => hR (i + 1) a b (by simpa using x) (by simpa using y)
  cases hp : q b with
  | false => rw [List.filter_cons_of_neg (by rw [e, hp]; simp), List.filter_cons_of_neg (by rw [hp]; simp)]; exact ⟨i1, i2⟩
  | true =>
   rw [List.filter_cons_of_pos (by rw [e, hp]), List.filter_cons_of_pos hp]
   refine ⟨by simp [i1], fun i x y hx hy => ?_⟩
   cases i with
   | zero => simp at hx hy; subst hx; subst hy; exact h0
   | succ i => exact i2 i x y (by simpa using hx) (by simpa using hy)
 | [], _ :: _, h, _ => by simp at h
 | _ :: _, [], h, _ => by simp at h
end Go.Sx
namespace Go.Sx
open Go
/-- The kinds of frozen cards. -/
def KindS (H : Heap) (v : Value) (ks : List Int) : Prop := ∃ rows, Sl H 14 v rows ∧ rows.length = ks.length ∧ ∀ (i : Nat) (r : List Value) (k : Int), rows[i]? = some r → ks[i]? = some k → g r 1 = iV k
theorem KindS.le {H H' : Heap} {v : Value} {ks : List Int} (h : KindS H v ks) (hl : Heap.le H H') : KindS H' v ks := let ⟨rows, h1, h2, h3⟩ := h; ⟨rows, h1.le hl, h2, h3⟩
theorem KindS.one {H : Heap} {v : Value} {ks : List Int} (h : KindS H v ks) : v.oneCell' = true := let ⟨_, h1, _⟩ := h; h1.one
def kindAt (ks : List Int) (c : Int) : Int := if c < 0 ∨ c ≥ (ks.length : Int) then 0 else ks.getD c.toNat 0
def creatB (ks : List Int) (o : Ob) : Bool := o.card == -1 || kindAt ks o.card == 2
theorem reads_frozen {H : Heap} {O : Own} {p : Value} {m : Nat} {vs : List Value} (h : H.read p m = some vs) : Reads H O p m vs := .inl h
end Go.Sx
namespace Go.Sx
open Go
/-! Sorting by insertion -/
def insI (x : Int) (l : List Int) : List Int := l.takeWhile (fun y => decide (y < x)) ++ x :: l.dropWhile (fun y => decide (y < x))
def sortI (l : List Int) : List Int := l.foldl (fun out x => insI x out) []
theorem insI_perm (x : Int) (l : List Int) : (insI x l).Perm (x :: l) := by
 rw [insI]
 refine List.perm_middle.trans (List.Perm.cons x ?_)
 rw [List.takeWhile_append_dropWhile]
theorem sortI_perm_go : ∀ (l out : List Int), (l.foldl (fun out x => insI x out) out).Perm (l ++ out)
 | [], out => List.Perm.refl _
 | x :: l, out => by
  rw [List.foldl_cons]
  refine (sortI_perm_go l _).trans ?_
  exact ((insI_perm x out).append_left l).trans List.perm_middle
theorem sortI_perm (l : List Int) : (sortI l).Perm l := by have := sortI_perm_go l []; rw [List.append_nil] at this; exact this
theorem sortI_len (l : List Int) : (sortI l).length = l.length := (sortI_perm l).length_eq
theorem insI_sorted {x : Int} : ∀ {l : List Int}, l.Pairwise (· < ·) → x ∉ l → (insI x l).Pairwise (· < ·)
 | [], _, _ => by simp [insI]
 | a :: l, h, hx => by
  rw [List.pairwise_cons] at h
  simp only [List.mem_cons, not_or] at hx
  have ih := insI_sorted h.2 hx.2
  by_cases hax : a < x
  ·have e : insI x (a :: l) = a :: insI x l := by simp [insI, List.takeWhile_cons, List.dropWhile_cons, hax]
   rw [e, List.pairwise_cons]
   refine ⟨fun y hy => ?_, ih⟩
   rcases List.mem_cons.1 ((insI_perm x l).mem_iff.1 hy) with rfl | hy
   ·exact hax
   ·exact h.1 y hy
  ·have e : insI x (a :: l) = x :: a :: l := by simp [insI, List.takeWhile_cons, List.dropWhile_cons, hax]
   rw [e, List.pairwise_cons, List.pairwise_cons]
   refine ⟨fun y hy => ?_, h.1, h.2⟩
   rcases List.mem_cons.1 hy with rfl | hy
   ·omega
   ·have := h.1 y hy; omega
theorem sortI_sorted_go : ∀ {l out : List Int}, out.Pairwise (· < ·) → (l ++ out).Nodup → (l.foldl (fun out x => insI x out) out).Pairwise (· < ·)
 | [], _, h, _ => h
 | x :: l, out, h, hn => by
  rw [List.foldl_cons]
  have hn2 : (l ++ x :: out).Nodup := List.perm_middle.nodup_iff.2 (by simpa using hn)
  have hx : x ∉ out := by
   rw [List.nodup_append] at hn2
   exact (List.nodup_cons.1 hn2.2.1).1
  exact sortI_sorted_go (insI_sorted h hx) (((insI_perm x out).symm.append_left l).nodup_iff.1 hn2)
theorem sortI_sorted {l : List Int} (h : l.Nodup) : (sortI l).Pairwise (· < ·) := sortI_sorted_go (out := []) List.Pairwise.nil (by simpa using h)
/-- Two increasing lists of the same numbers are one. -/
theorem strict_ext : ∀ {l r : List Int}, l.Pairwise (· < ·) → r.Pairwise (· < ·) → (∀ x, x ∈ l ↔ x ∈ r) → l = r
 | [], [], _, _, _ => rfl
 | [], b :: r, _, _, h => by have := (h b).2 (by simp); cases this
 | a :: l, [], _, _, h => by have := (h a).1 (by simp); cases this
 | a :: l, b :: r, hl, hr, h => by
  rw [List.pairwise_cons] at hl hr
  have e : a = b := by
   have h1 := (h a).1 (by simp)
   have h2 := (h b).2 (by simp)
   rcases List.mem_cons.1 h1 with e | h1
   ·exact e
   rcases List.mem_cons.1 h2 with e | h2
   ·exact e.symm
   have := hl.1 b h2
   have := hr.1 a h1
   omega
  subst e
  congr 1
  refine strict_ext hl.2 hr.2 fun x => ⟨fun hx => ?_, fun hx => ?_⟩
  ·rcases List.mem_cons.1 ((h x).1 (by simp [hx])) with e | h'
   ·have := hl.1 x hx; omega
   ·exact h'
  ·rcases List.mem_cons.1 ((h x).2 (by simp [hx])) with e | h'
   ·have := hr.1 x hx; omega
   ·exact h'
end Go.Sx
namespace Go.Sx
open Go
set_option maxRecDepth 100000
set_option maxHeartbeats 1000000
end Go.Sx
namespace Go.Sx
open Go
set_option maxRecDepth 100000
set_option maxHeartbeats 1000000
end Go.Sx
namespace Go.Sx
open Go
set_option maxRecDepth 100000
set_option maxHeartbeats 1000000
end Go.Sx
namespace Go.Sx
open Go
/-- What is asked of a card: its kind, its effects' targets, how many effects its triggers have. -/
structure Cd where
 kind : Int
 tg : List Int
 tr : List Nat
def EffsS (H : Heap) (v : Value) (tg : List Int) : Prop := ∃ rows, Sl H 5 v rows ∧ rows.length = tg.length ∧ ∀ (i : Nat) (r : List Value) (t : Int), rows[i]? = some r → tg[i]? = some t → g r 1 = iV t
def TrigR (H : Heap) (r : List Value) (n : Nat) : Prop := ∃ erows, Sl H 5 (g r 1) erows ∧ erows.length = n
def TrigsS (H : Heap) (v : Value) (tr : List Nat) : Prop := ∃ rows, Sl H 2 v rows ∧ rows.length = tr.length ∧ ∀ (i : Nat) (r : List Value) (n : Nat), rows[i]? = some r → tr[i]? = some n → TrigR H r n
structure CdR (H : Heap) (r : List Value) (c : Cd) : Prop where
 kind : g r 1 = iV c.kind
 eff : EffsS H (g r 11) c.tg
 trig : TrigsS H (g r 12) c.tr
def CardsS (H : Heap) (v : Value) (cs : List Cd) : Prop := ∃ rows, Sl H 14 v rows ∧ rows.length = cs.length ∧ ∀ (i : Nat) (r : List Value) (c : Cd), rows[i]? = some r → cs[i]? = some c → CdR H r c
theorem EffsS.le {H H' : Heap} {v : Value} {l : List Int} (h : EffsS H v l) (hl : Heap.le H H') : EffsS H' v l := let ⟨rows, h1, h2, h3⟩ := h; ⟨rows, h1.le hl, h2, h3⟩
theorem TrigR.le {H H' : Heap} {r : List Value} {n : Nat} (h : TrigR H r n) (hl : Heap.le H H') : TrigR H' r n := let ⟨rows, h1, h2⟩ := h; ⟨rows, h1.le hl, h2⟩
theorem TrigsS.le {H H' : Heap} {v : Value} {l : List Nat} (h : TrigsS H v l) (hl : Heap.le H H') : TrigsS H' v l := let ⟨rows, h1, h2, h3⟩ := h; ⟨rows, h1.le hl, h2, fun i r n a b => (h3 i r n a b).le hl⟩
theorem CdR.le {H H' : Heap} {r : List Value} {c : Cd} (h : CdR H r c) (hl : Heap.le H H') : CdR H' r c := ⟨h.kind, h.eff.le hl, h.trig.le hl⟩
theorem CardsS.le {H H' : Heap} {v : Value} {cs : List Cd} (h : CardsS H v cs) (hl : Heap.le H H') : CardsS H' v cs := let ⟨rows, h1, h2, h3⟩ := h; ⟨rows, h1.le hl, h2, fun i r c a b => (h3 i r c a b).le hl⟩
def kindsOf (cs : List Cd) : List Int := cs.map (·.kind)
theorem CardsS.kinds {H : Heap} {v : Value} {cs : List Cd} (h : CardsS H v cs) : KindS H v (kindsOf cs) := by
 obtain ⟨rows, h1, h2, h3⟩ := h
 refine ⟨rows, h1, by simp [kindsOf, h2], fun i r k a b => ?_⟩
 rw [kindsOf, List.getElem?_map] at b
 cases hc : cs[i]? with
 | none => rw [hc] at b; cases b
 | some c =>
  rw [hc] at b
  obtain rfl : c.kind = k := by simpa using b
  exact (h3 i r c a hc).kind
theorem CardsS.one {H : Heap} {v : Value} {cs : List Cd} (h : CardsS H v cs) : v.oneCell' = true := let ⟨_, h1, _⟩ := h; h1.one
theorem CardsS.len {H : Heap} {v : Value} {cs : List Cd} (h : CardsS H v cs) : evalPure .len [v] = some (iV cs.length) := by
 obtain ⟨rows, h1, h2, _⟩ := h
 have := h1.len; rwa [h2] at this
theorem EffsS.one {H : Heap} {v : Value} {l : List Int} (h : EffsS H v l) : v.oneCell' = true := let ⟨_, h1, _⟩ := h; h1.one
theorem EffsS.len {H : Heap} {v : Value} {l : List Int} (h : EffsS H v l) : evalPure .len [v] = some (iV l.length) := by
 obtain ⟨rows, h1, h2, _⟩ := h
 have := h1.len; rwa [h2] at this
theorem TrigsS.one {H : Heap} {v : Value} {l : List Nat} (h : TrigsS H v l) : v.oneCell' = true := let ⟨_, h1, _⟩ := h; h1.one
theorem TrigsS.len {H : Heap} {v : Value} {l : List Nat} (h : TrigsS H v l) : evalPure .len [v] = some (iV l.length) := by
 obtain ⟨rows, h1, h2, _⟩ := h
 have := h1.len; rwa [h2] at this
theorem EffsS.nil (H : Heap) : EffsS H (.slice none 0 0) [] := ⟨[], Sl.nil H 5, rfl, fun i r t h => by simp at h⟩
theorem TrigsS.nil (H : Heap) : TrigsS H (.slice none 0 0) [] := ⟨[], Sl.nil H 2, rfl, fun i r t h => by simp at h⟩
def zCd : Cd := ⟨0, [], []⟩
def cdAt (cs : List Cd) (c : Int) : Cd := if c < 0 ∨ c ≥ (cs.length : Int) then zCd else cs.getD c.toNat zCd
/-- Light cards. -/
def cdLight (c : Cd) : Bool := !(decide ((c.tg.length : Int) > 5) || decide ((c.tr.length : Int) > 3)) && c.tr.all fun n => !decide ((n : Int) > 5)
def lightB (cs : List Cd) : Bool := (cs.take 13).all cdLight && decide ((cs.length : Int) ≤ 12)
theorem light_at {cs : List Cd} (h : lightB cs = true) (c : Int) : cdLight (cdAt cs c) = true := by
 rw [lightB, Bool.and_eq_true, decide_eq_true_eq] at h
 obtain ⟨h1, h2⟩ := h
 rw [cdAt]
 split
 ·rfl
 ·rename_i hn
  rw [List.take_of_length_le (by omega), List.all_eq_true] at h1
  refine h1 _ ?_
  have hlt : c.toNat < cs.length := by omega
  rw [List.getD_eq_getElem?_getD, List.getElem?_eq_getElem hlt]
  exact List.getElem_mem hlt
/-- How many of a card's effects need a target. -/
def needsOf (tg : List Int) : List Int := tg.filter fun t => t != 0
end Go.Sx
