/- A copy of a board: the program's. -/
import Derived.Test.YtjaegdkkiefchaaGreatDoorC19
namespace Go.Proofs.YtjaegdkkiefchaaGreatDoor
open Go Go.Sx
set_option maxRecDepth 100000
set_option maxHeartbeats 1000000

theorem c_items {H : Heap} {v : Value} {l : List It} (h : ItsS H v l) (hB : itsB l) : Triple PP F_board_items [v] H [] fun v' H' O' => OIts Ty_api_Target Ty_api_Item v' l O' := by
  obtain ⟨rows, hs, hrl, hit⟩ := h
  refine run_board_items (vs := [v]) (by kernel_rfl) ⟨hs.one, trivial⟩ ?_
  simp only [T_board_items]
  refine call_new (c_Clone_api_Item hs (by have := hB.1; omega)) fun v' H1 O1 ho l1 => ⟨[v'], rfl, ⟨ho.one, trivial⟩, ?_⟩
  have hlen := ho.len
  rw [hrl] at hlen
  refine pure_den _ hlen ?_
  refine count_den l.length (fun i H' O' => Heap.le H1 H' ∧ ∃ rows' A Ts, O'.Perm (A ++ List.flatten Ts) ∧ OSl Ty_api_Item 5 v' rows' A ∧ rows'.length = l.length ∧ Ts.length = i ∧
    (∀ (j : Nat) (r : List Value) (x : It) (T : Own), rows'[j]? = some r → l[j]? = some x → Ts[j]? = some T → ∃ s, r = [iV x.player, iV x.id, iV x.card, iV x.trig, s] ∧ OSl Ty_api_Target 2 s (x.tgs.map Tg.row) T) ∧ ∀ j, i ≤ j → rows'[j]? = rows[j]?)
    ⟨Heap.le_refl _, rows, O1, [], by simp, ho, hrl, rfl, fun j r x T _ _ h => by simp at h, fun _ _ => rfl⟩ ?_
  rintro i H' O' hi - ⟨hle, rows', A, Ts, hp, hA, hrl', htl, hspec, hrest⟩
  refine pure_den _ (lss_eq _ _) (br_den (fun hb => ?_) (fun hb => ?_))
  · have hlt : i < l.length := by simpa using hb
    have hri : rows'[i]? = some rows[i] := by rw [hrest i (Nat.le_refl _)]; exact List.getElem?_eq_getElem (by omega)
    obtain ⟨s, hrow, hst⟩ := hit i rows[i] l[i] (List.getElem?_eq_getElem (by omega)) (List.getElem?_eq_getElem hlt)
    obtain ⟨a, k1, _, _, k3⟩ := hA.idx (fun p hp' => hp.mem_iff.2 (List.mem_append_left _ hp')) H' (k := .i64) hri
    have hr := k3 4 1 (by omega)
    rw [hrow] at hr
    refine pure_den _ k1 (chkP_den rfl (load_denR hr rfl ⟨hst.one, trivial⟩ ?_))
    refine call_new (c_Clone_api_Target (hst.le (Heap.le_trans l1 hle)) (by have := hB.2 _ (List.getElem_mem hlt); simp; omega)) fun s' H2 T hT l2 => ⟨[s'], rfl, ⟨hT.one, trivial⟩, ?_⟩
    have hp2 : (T ++ O').Perm (A ++ (T ++ List.flatten Ts)) := (hp.append_left T).trans (List.perm_append_comm_assoc _ _ _)
    obtain ⟨a2, j1, j2⟩ := hA.store hp2 (k := .i64) hri
    obtain ⟨A', hst2, hA'⟩ := j2 4 [s'] (by simp) ⟨hT.one, trivial⟩
    refine pure_den _ j1 (chkP_den rfl (chkP_den rfl ⟨_, hst2, ?_⟩))
    have hsp : splice rows[i] 4 [s'] = [iV l[i].player, iV l[i].id, iV l[i].card, iV l[i].trig, s'] := by rw [hrow]; rfl
    rw [hsp] at hA'
    refine pure_den _ (add_one (by have := hB.1; omega)) (count_cont (by simp [Eqs]) hlt ⟨Heap.le_trans hle l2, _, A', Ts ++ [T], ?_, hA', by simp [hrl'], by simp [htl], ?_, ?_⟩)
    · refine List.Perm.append_left A' ?_
      rw [List.flatten_append]
      simpa using List.perm_append_comm
    · intro j r x T' h1 h2 h3
      by_cases hj : j = i
      · subst hj
        rw [List.getElem?_set_self (by omega)] at h1
        rw [List.getElem?_eq_getElem hlt] at h2
        rw [List.getElem?_append_right (by omega), htl, Nat.sub_self] at h3
        simp only [Option.some.injEq, List.getElem?_cons_zero] at h1 h2 h3
        subst h1; subst h2; subst h3
        exact ⟨s', rfl, hT⟩
      · rw [List.getElem?_set_ne (by omega)] at h1
        have hjlt : j < Ts.length := by
          have := (List.getElem?_eq_some_iff.1 h3).1
          simp at this; omega
        rw [List.getElem?_append_left hjlt] at h3
        exact hspec j r x T' h1 h2 h3
    · intro j hj
      rw [List.getElem?_set_ne (by omega)]
      exact hrest j (by omega)
  · have hie : i = l.length := by
      have : ¬ ((i : Int) < (l.length : Int)) := by simpa using hb
      omega
    subst hie
    exact ret_denO ⟨rows', A, Ts, hp, hA, hrl', htl, hspec⟩
theorem OIts.one {te ti : TypeId} {v : Value} {l : List It} {O : Own} (h : OIts te ti v l O) : v.oneCell' = true := by
  obtain ⟨rows, A, Ts, _, h1, _⟩ := h; exact h1.one
theorem c_Copy {H : Heap} {v : BV12} {b : Bd} (h : BdS H v b) (hB : bdB b) : Triple PP F_board_Copy [.agg (boardC v b).toArray] H [] fun r H' O' => ∃ w, r = .agg (boardC w b).toArray ∧ OwnB tys w b O' := by
  refine run_board_Copy (vs := boardC v b) (by kernel_rfl) (boardC_ones (h.r [])) ?_
  simp only [T_board_Copy]
  obtain ⟨b1, ⟨b2, b3, b4, b5⟩, ⟨b6, b7, b8, b9⟩, b10, b11, b12, b13⟩ := hB
  have cl : ∀ {l : List Int}, l.length ≤ 1000000 → (ints l).length ≤ 2 ^ 40 := fun h => by rw [ints, List.length_map]; omega
  refine newbox_den fun r0 => newbox_den fun r1 => ?_
  repeat (first | refine chkN_den ?_ | refine chkV_den ?_)
  refine call_new (c_Clone_api_Object h.objs (by rw [List.length_map]; omega)) fun xo H1 Oo po l1 => ⟨_, rfl, ⟨po.one, trivial⟩, ?_⟩
  replace h := h.le l1
  repeat (first | refine chkN_den ?_ | refine chkV_den ?_)
  refine call_new (c_Clone_int h.att (cl b12)) fun xa H1 Oa pa l1 => ⟨_, rfl, ⟨pa.one, trivial⟩, ?_⟩
  replace h := h.le l1
  repeat (first | refine chkN_den ?_ | refine chkV_den ?_)
  refine call_new (c_Clone_api_Block h.blocks (by rw [List.length_map]; omega)) fun xb H1 Obk pb l1 => ⟨_, rfl, ⟨pb.one, trivial⟩, ?_⟩
  replace h := h.le l1
  repeat (first | refine chkN_den ?_ | refine chkV_den ?_)
  refine call_new (c_items h.stack b10) fun xs H1 Os ps l1 => ⟨_, rfl, ⟨OIts.one ps, trivial⟩, ?_⟩
  replace h := h.le l1
  repeat (first | refine chkN_den ?_ | refine chkV_den ?_)
  refine call_new (c_items h.queue b11) fun xq H1 Oq pq l1 => ⟨_, rfl, ⟨OIts.one pq, trivial⟩, ?_⟩
  replace h := h.le l1
  repeat (first | refine chkN_den ?_ | refine chkV_den ?_)
  refine call_retO (c_lists r0 1 _ _) rfl ⟨rfl, rfl, rfl, rfl, trivial⟩ fun H1 l1 => ?_
  replace h := h.le l1
  repeat (first | refine chkN_den ?_ | refine chkV_den ?_)
  refine call_new (c_Clone_int h.s0.lib (cl b2)) fun x1 H1 A0 p1 l1 => ⟨_, rfl, ⟨p1.one, trivial⟩, ?_⟩
  replace h := h.le l1
  repeat (first | refine chkN_den ?_ | refine chkV_den ?_)
  refine call_new (c_Clone_int h.s0.hand (cl b3)) fun x2 H1 B0 p2 l1 => ⟨_, rfl, ⟨p2.one, trivial⟩, ?_⟩
  replace h := h.le l1
  repeat (first | refine chkN_den ?_ | refine chkV_den ?_)
  refine call_new (c_Clone_int h.s0.field (cl b4)) fun x3 H1 C0 p3 l1 => ⟨_, rfl, ⟨p3.one, trivial⟩, ?_⟩
  replace h := h.le l1
  repeat (first | refine chkN_den ?_ | refine chkV_den ?_)
  refine call_new (c_Clone_int h.s0.grave (cl b5)) fun x4 H1 D0 p4 l1 => ⟨_, rfl, ⟨p4.one, trivial⟩, ?_⟩
  replace h := h.le l1
  repeat (first | refine chkN_den ?_ | refine chkV_den ?_)
  refine call_retO (c_lists r0 15 _ _) rfl ⟨rfl, rfl, rfl, rfl, trivial⟩ fun H1 l1 => ?_
  replace h := h.le l1
  repeat (first | refine chkN_den ?_ | refine chkV_den ?_)
  refine call_new (c_Clone_int h.s1.lib (cl b6)) fun x5 H1 A1 p5 l1 => ⟨_, rfl, ⟨p5.one, trivial⟩, ?_⟩
  replace h := h.le l1
  repeat (first | refine chkN_den ?_ | refine chkV_den ?_)
  refine call_new (c_Clone_int h.s1.hand (cl b7)) fun x6 H1 B1 p6 l1 => ⟨_, rfl, ⟨p6.one, trivial⟩, ?_⟩
  replace h := h.le l1
  repeat (first | refine chkN_den ?_ | refine chkV_den ?_)
  refine call_new (c_Clone_int h.s1.field (cl b8)) fun x7 H1 C1 p7 l1 => ⟨_, rfl, ⟨p7.one, trivial⟩, ?_⟩
  replace h := h.le l1
  repeat (first | refine chkN_den ?_ | refine chkV_den ?_)
  refine call_new (c_Clone_int h.s1.grave (cl b9)) fun x8 H1 D1 p8 l1 => ⟨_, rfl, ⟨p8.one, trivial⟩, ?_⟩
  repeat (first | refine chkN_den ?_ | refine chkV_den ?_)
  refine ret_denO ⟨⟨xo, x1, x2, x3, x4, x5, x6, x7, x8, xs, xq, xa, xb⟩, rfl, Oo, A0, B0, C0, D0, A1, B1, C1, D1, Os, Oq, Oa, Obk, ?_, ⟨po, p1, p2, p3, p4, p5, p6, p7, p8, ps, pq, pa, pb⟩⟩
  refine perm_count fun a _ _ => ?_
  simp only [List.count_append, List.count_nil]
  omega
end Go.Proofs.YtjaegdkkiefchaaGreatDoor
