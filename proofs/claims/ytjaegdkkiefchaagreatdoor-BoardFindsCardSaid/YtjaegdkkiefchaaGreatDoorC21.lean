/- A copy of a board: the reference's. -/
import Derived.Test.YtjaegdkkiefchaaGreatDoorC20
namespace Go.Proofs.YtjaegdkkiefchaaGreatDoor
open Go Go.Sx
set_option maxRecDepth 100000
set_option maxHeartbeats 1000000

/-- A new slice with the rows of a frozen one. -/
theorem app_new {P : Program} {t ty e : TypeId} {size bytes : Nat} (ha : appOk P t e size bytes = true) {x : Value} {news : List (List Value)} {O : Own} {H : Heap} {K : List Value → List (List Value) → Heap → Own → Prop}
    (h : Sl H size x news) (hb : news.length * bytes ≤ 140737488355328) (h63 : news.length < 2 ^ 63) (hk : ∀ v' O1' H', Heap.le H H' → OSl e size v' news O1' → K [v'] [] H' (O1' ++ O)) :
    CallD (fun H1 O1 R => OpTriple P ((PrimOp.bi .append #[t, t] ty).sem [.slice none 0 0, x]) H1 O1 R) false [] [] .one K H O :=
  call_append (rows := []) (O1 := []) (O2 := O) ha (List.Perm.refl _) (OSl.nil e size) (fun _ hl _ => h.le hl) (by simpa using hb) (by simpa using h63) fun v' O1' H' hl ho => hk v' O1' H' hl (by simpa using ho)
theorem r_copied {H : Heap} {v : Value} {l : List It} (h : ItsS H v l) (hB : itsB l) : Triple PP F_zeitnotref15_copied [v] H [] fun v' H' O' => OIts Ty_api_Target Ty_api_Item v' l O' := by
  have hone := ItsR.one (h.r [])
  have hlen := ItsR.len (h.r [])
  obtain ⟨rows, hs, hrl, hit⟩ := h
  refine run_zeitnotref15_copied (vs := [v]) (by kernel_rfl) ⟨hone, trivial⟩ ?_
  simp only [T_zeitnotref15_copied]
  refine countY_den l.length (fun i x H' O' => Heap.le H H' ∧ ∃ rows' A Ts, O'.Perm (A ++ List.flatten Ts) ∧ OSl Ty_api_Item 5 x rows' A ∧ rows'.length = i ∧ Ts.length = i ∧
    (∀ (j : Nat) (r : List Value) (x : It) (T : Own), rows'[j]? = some r → l[j]? = some x → Ts[j]? = some T → ∃ s, r = [iV x.player, iV x.id, iV x.card, iV x.trig, s] ∧ OSl Ty_api_Target 2 s (x.tgs.map Tg.row) T))
    ⟨Heap.le_refl _, [], [], [], by simp, OSl.nil _ _, rfl, rfl, fun j r x T h => by simp at h⟩ ?_
  rintro i x H' O' hi - ⟨hle, rows', A, Ts, hp, hA, hrl', htl, hspec⟩
  refine pure_den _ hlen (pure_den _ (lss_eq _ _) (br_den (fun hb => ?_) (fun hb => ?_)))
  · have hlt : i < l.length := by simpa using hb
    obtain ⟨s, hrow, hst⟩ := hit i rows[i] l[i] (List.getElem?_eq_getElem (by omega)) (List.getElem?_eq_getElem hlt)
    obtain ⟨a, h1, h2, h3, h4⟩ := (hs.le hle).idx (k := .i64) (i := i) (List.getElem?_eq_getElem (by omega))
    rw [hrow] at h2 h3 h4
    refine pure_den _ h1 (load_den h2 h3 h4 (newbox_den fun r0 => chkN_den (chkN_den ?_)))
    have hb6 := hB.2 _ (List.getElem_mem hlt)
    refine app_new (e := Ty_api_Target) (size := 2) (bytes := 16) (by kernel_rfl) (hst.le hle) (by simp; omega) (by simp; omega) fun s' T H2 l2 hT => ?_
    refine chkN_den (chkN_den (newbox_den fun r1 => ?_))
    refine call_append (rows := rows') (news := [[iV l[i].player, iV l[i].id, iV l[i].card, iV l[i].trig, s']]) (O1 := A) (O2 := T ++ List.flatten Ts) (e := Ty_api_Item) (size := 5) (bytes := 56) (by kernel_rfl) ((hp.append_left T).trans (List.perm_append_comm_assoc _ _ _)) hA
      (fun Hf _ hf => Sl.block1 (hf _ List.mem_cons_self) rfl ⟨rfl, rfl, rfl, rfl, hT.one, trivial⟩) ?_ ?_ ?_
    · have := hB.1; simp; omega
    · have := hB.1; simp; omega
    intro v' A' H3 l3 hA'
    refine pure_den _ (add_one (by have := hB.1; omega)) (countY_cont (by simp [Eqs]) hlt ⟨Heap.le_trans hle (Heap.le_trans l2 l3), _, A', Ts ++ [T], ?_, hA', by simp [hrl'], by simp [htl], ?_⟩)
    · refine List.Perm.append_left A' ?_
      rw [List.flatten_append]
      simpa using List.perm_append_comm
    · intro j r x T' q1 q2 q3
      by_cases hj : j = i
      · subst hj
        rw [List.getElem?_append_right (by omega), hrl', Nat.sub_self] at q1
        rw [List.getElem?_eq_getElem hlt] at q2
        rw [List.getElem?_append_right (by omega), htl, Nat.sub_self] at q3
        simp only [Option.some.injEq, List.getElem?_cons_zero] at q1 q2 q3
        subst q1; subst q2; subst q3
        exact ⟨s', rfl, hT⟩
      · have hjlt : j < Ts.length := by
          have := (List.getElem?_eq_some_iff.1 q3).1
          simp at this; omega
        rw [List.getElem?_append_left hjlt] at q3
        rw [List.getElem?_append_left (by omega)] at q1
        exact hspec j r x T' q1 q2 q3
  · have hie : i = l.length := by
      have : ¬ ((i : Int) < (l.length : Int)) := by simpa using hb
      omega
    subst hie
    exact ret_denO ⟨rows', A, Ts, hp, hA, hrl', htl, hspec⟩
theorem r_Copy {H : Heap} {v : BV12} {b : Bd} (h : BdS H v b) (hB : bdB b) : Triple PP F_zeitnotref15_Copy [.agg (boardC v b).toArray] H [] fun r H' O' => ∃ w, r = .agg (boardC w b).toArray ∧ OwnB tys w b O' := by
  refine run_zeitnotref15_Copy (vs := boardC v b) (by kernel_rfl) (boardC_ones (h.r [])) ?_
  simp only [T_zeitnotref15_Copy]
  obtain ⟨b1, ⟨b2, b3, b4, b5⟩, ⟨b6, b7, b8, b9⟩, b10, b11, b12, b13⟩ := hB
  refine newbox_den fun r0 => ?_
  repeat (first | refine chkN_den ?_ | refine chkV_den ?_ | refine newbox_den fun _ => ?_)
  refine app_new (e := Ty_api_Object) (size := 12) (bytes := 80) (by kernel_rfl) h.objs (by simp [ints]; omega) (by simp [ints]; omega) fun xo Oo H1 l1 po => ?_
  replace h := h.le l1
  repeat (first | refine chkN_den ?_ | refine chkV_den ?_ | refine newbox_den fun _ => ?_)
  refine app_new (e := Ty_int) (size := 1) (bytes := 8) (by kernel_rfl) h.s0.lib (by simp [ints]; omega) (by simp [ints]; omega) fun x1 A0 H1 l1 p1 => ?_
  replace h := h.le l1
  repeat (first | refine chkN_den ?_ | refine chkV_den ?_ | refine newbox_den fun _ => ?_)
  refine app_new (e := Ty_int) (size := 1) (bytes := 8) (by kernel_rfl) h.s0.hand (by simp [ints]; omega) (by simp [ints]; omega) fun x2 B0 H1 l1 p2 => ?_
  replace h := h.le l1
  repeat (first | refine chkN_den ?_ | refine chkV_den ?_ | refine newbox_den fun _ => ?_)
  refine app_new (e := Ty_int) (size := 1) (bytes := 8) (by kernel_rfl) h.s0.field (by simp [ints]; omega) (by simp [ints]; omega) fun x3 C0 H1 l1 p3 => ?_
  replace h := h.le l1
  repeat (first | refine chkN_den ?_ | refine chkV_den ?_ | refine newbox_den fun _ => ?_)
  refine app_new (e := Ty_int) (size := 1) (bytes := 8) (by kernel_rfl) h.s0.grave (by simp [ints]; omega) (by simp [ints]; omega) fun x4 D0 H1 l1 p4 => ?_
  replace h := h.le l1
  repeat (first | refine chkN_den ?_ | refine chkV_den ?_ | refine newbox_den fun _ => ?_)
  refine app_new (e := Ty_int) (size := 1) (bytes := 8) (by kernel_rfl) h.s1.lib (by simp [ints]; omega) (by simp [ints]; omega) fun x5 A1 H1 l1 p5 => ?_
  replace h := h.le l1
  repeat (first | refine chkN_den ?_ | refine chkV_den ?_ | refine newbox_den fun _ => ?_)
  refine app_new (e := Ty_int) (size := 1) (bytes := 8) (by kernel_rfl) h.s1.hand (by simp [ints]; omega) (by simp [ints]; omega) fun x6 B1 H1 l1 p6 => ?_
  replace h := h.le l1
  repeat (first | refine chkN_den ?_ | refine chkV_den ?_ | refine newbox_den fun _ => ?_)
  refine app_new (e := Ty_int) (size := 1) (bytes := 8) (by kernel_rfl) h.s1.field (by simp [ints]; omega) (by simp [ints]; omega) fun x7 C1 H1 l1 p7 => ?_
  replace h := h.le l1
  repeat (first | refine chkN_den ?_ | refine chkV_den ?_ | refine newbox_den fun _ => ?_)
  refine app_new (e := Ty_int) (size := 1) (bytes := 8) (by kernel_rfl) h.s1.grave (by simp [ints]; omega) (by simp [ints]; omega) fun x8 D1 H1 l1 p8 => ?_
  replace h := h.le l1
  repeat (first | refine chkN_den ?_ | refine chkV_den ?_ | refine newbox_den fun _ => ?_)
  refine call_new (r_copied h.stack b10) fun xs H1 Os ps l1 => ⟨_, rfl, ⟨OIts.one ps, trivial⟩, ?_⟩
  replace h := h.le l1
  repeat (first | refine chkN_den ?_ | refine chkV_den ?_ | refine newbox_den fun _ => ?_)
  refine call_new (r_copied h.queue b11) fun xq H1 Oq pq l1 => ⟨_, rfl, ⟨OIts.one pq, trivial⟩, ?_⟩
  replace h := h.le l1
  repeat (first | refine chkN_den ?_ | refine chkV_den ?_ | refine newbox_den fun _ => ?_)
  refine app_new (e := Ty_int) (size := 1) (bytes := 8) (by kernel_rfl) h.att (by simp [ints]; omega) (by simp [ints]; omega) fun xa Oa H1 l1 pa => ?_
  replace h := h.le l1
  repeat (first | refine chkN_den ?_ | refine chkV_den ?_ | refine newbox_den fun _ => ?_)
  refine app_new (e := Ty_api_Block) (size := 2) (bytes := 16) (by kernel_rfl) h.blocks (by simp [ints]; omega) (by simp [ints]; omega) fun xb Obk H1 l1 pb => ?_
  replace h := h.le l1
  repeat (first | refine chkN_den ?_ | refine chkV_den ?_ | refine newbox_den fun _ => ?_)
  refine ret_denO ⟨⟨xo, x1, x2, x3, x4, x5, x6, x7, x8, xs, xq, xa, xb⟩, rfl, Oo, A0, B0, C0, D0, A1, B1, C1, D1, Os, Oq, Oa, Obk, ?_, ⟨po, p1, p2, p3, p4, p5, p6, p7, p8, ps, pq, pa, pb⟩⟩
  refine perm_count fun a _ _ => ?_
  simp only [List.count_append, List.count_nil]
  omega
end Go.Proofs.YtjaegdkkiefchaaGreatDoor
