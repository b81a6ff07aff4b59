/- Own memory is changed: stain, whole. -/
import Derived.Test.YtjaegdkkiefchaaGreatDoorC22
namespace Go.Proofs.YtjaegdkkiefchaaGreatDoor
open Go Go.Sx
set_option maxRecDepth 100000
set_option maxHeartbeats 1000000

theorem ownB_ones {w : BV12} {b : Bd} {O : Own} (H : Heap) (h : OwnB tys w b O) : Ones (boardC w b) := boardC_ones (h.r (fun _ h => h) H)
theorem c_stain {H : Heap} {w : BV12} {b : Bd} {O : Own} (h : OwnB tys w b O) : Triple PP F_zeitnotlaw15_stain [.agg (boardC w b).toArray] H O fun r _ _ => r = .tuple #[] := by
  refine run_zeitnotlaw15_stain (vs := boardC w b) (by kernel_rfl) (ownB_ones H h) ?_
  simp only [T_zeitnotlaw15_stain]
  obtain ⟨Oo, A0, B0, C0, D0, A1, B1, C1, D1, Os, Oq, Oa, Obk, hp, h⟩ := h
  refine newbox_den fun r0 => ?_
  have hB := h.objs.lenB
  rw [List.length_map] at hB
  refine count_den b.objs.length (fun i H' O' => Heap.le H H' ∧ ∃ (l' : List Ob) (A' : Own), l'.length = b.objs.length ∧ O'.Perm (A' ++ (A0 ++ (B0 ++ (C0 ++ (D0 ++ (A1 ++ (B1 ++ (C1 ++ (D1 ++ (Os ++ (Oq ++ (Oa ++ Obk)))))))))))) ∧ OSl Ty_api_Object 12 w.o (l'.map Ob.row) A') ⟨Heap.le_refl _, b.objs, Oo, rfl, hp, h.objs⟩ ?_
  rintro i H' O' hi - ⟨hle, l', A', hl', hp', hA⟩
  have hlen := hA.len
  rw [List.length_map, hl'] at hlen
  refine chkN_den (pure_den _ hlen (pure_den _ (lss_eq _ _) (br_den (fun hb => ?_) (fun _ => ?_))))
  · have hlt : i < b.objs.length := by simpa using hb
    have hr : (l'.map Ob.row)[i]? = some (Ob.row l'[i]) := by simp [hl', hlt]
    obtain ⟨a, k1, _, _, k3⟩ := hA.idx (fun p h => hp'.mem_iff.2 (List.mem_append_left _ h)) H' (k := .i64) hr
    have hr5 := k3 5 1 (by omega)
    obtain ⟨a2, j1, j2⟩ := hA.store hp' (k := .i64) hr
    obtain ⟨A2, hst, hA2⟩ := j2 5 [iV (IntKind.i64.wrap (l'[i].dmg + 1))] (by simp) ⟨rfl, trivial⟩
    refine chkN_den (pure_den _ k1 (chkP_den rfl (load_denR hr5 rfl ⟨rfl, trivial⟩ (pure_den _ (inc_eq _) (pure_den _ j1 (chkP_den rfl (chkP_den rfl ⟨_, hst, ?_⟩)))))))
    refine pure_den _ (add_one (by omega)) (count_cont (by simp [Eqs]) hlt ⟨hle, l'.set i { l'[i] with dmg := IntKind.i64.wrap (l'[i].dmg + 1) }, A2, by simp [hl'], List.Perm.refl _, ?_⟩)
    have e : (l'.map Ob.row).set i (splice (Ob.row l'[i]) 5 [iV (IntKind.i64.wrap (l'[i].dmg + 1))]) = (l'.set i { l'[i] with dmg := IntKind.i64.wrap (l'[i].dmg + 1) }).map Ob.row := by rw [List.map_set]; rfl
    rwa [e] at hA2
  clear hle hlen hi hA
  have mv : ∀ {O X Y Z : Own}, O.Perm (X ++ (Y ++ Z)) → O.Perm (Y ++ (X ++ Z)) := fun h => h.trans (List.perm_append_comm_assoc _ _ _)
  have asc : ∀ {O X Y Z : Own}, O.Perm (X ++ (Y ++ Z)) → O.Perm ((X ++ Y) ++ Z) := fun h => h.trans (List.Perm.of_eq (List.append_assoc _ _ _).symm)
  have ea : ∀ {s : St} {v1 v2 v3 v4 : Value} {X1 X2 X3 X4 : Own}, OSl Ty_int 1 v1 (ints s.lib) X1 → OSl Ty_int 1 v2 (ints s.hand) X2 → OSl Ty_int 1 v3 (ints s.field) X3 → OSl Ty_int 1 v4 (ints s.grave) X4 → v1.oneCell' = true ∧ v2.oneCell' = true ∧ v3.oneCell' = true ∧ v4.oneCell' = true := fun a b c d => ⟨a.one, b.one, c.one, d.one⟩
  obtain ⟨z1, z2, z3, z4⟩ := ea (s := b.s0) h.l0 h.h0 h.f0 h.g0
  refine chkN_den (call_retO (r_Zones b.s0 z1 z2 z3 z4 _ _) rfl ⟨z1, z2, z3, z4, trivial⟩ fun HZ _ => ?_)
  refine stain_ints h.l0 (mv hp') (by simp [Eqs]) fun H1 O1 X1 _ p1 => ?_
  replace p1 := asc p1
  refine stain_ints h.h0 (mv p1) (by simp [Eqs]) fun H2 O2 X2 _ p2 => ?_
  replace p2 := asc p2
  refine stain_ints h.f0 (mv p2) (by simp [Eqs]) fun H3 O3 X3 _ p3 => ?_
  replace p3 := asc p3
  refine stain_ints h.g0 (mv p3) (by simp [Eqs]) fun H4 O4 X4 _ p4 => ?_
  replace p4 := asc p4
  obtain ⟨z1, z2, z3, z4⟩ := ea (s := b.s1) h.l1 h.h1 h.f1 h.g1
  refine chkN_den (call_retO (r_Zones b.s1 z1 z2 z3 z4 _ _) rfl ⟨z1, z2, z3, z4, trivial⟩ fun HZ _ => ?_)
  refine stain_ints h.l1 (mv p4) (by simp [Eqs]) fun H5 O5 X5 _ p5 => ?_
  replace p5 := asc p5
  refine stain_ints h.h1 (mv p5) (by simp [Eqs]) fun H6 O6 X6 _ p6 => ?_
  replace p6 := asc p6
  refine stain_ints h.f1 (mv p6) (by simp [Eqs]) fun H7 O7 X7 _ p7 => ?_
  replace p7 := asc p7
  refine stain_ints h.g1 (mv p7) (by simp [Eqs]) fun H8 O8 X8 _ p8 => ?_
  replace p8 := asc p8
  repeat (first | refine chkN_den ?_ | refine chkV_den ?_)
  refine newbox_den fun r1 => ?_
  repeat (first | refine chkN_den ?_ | refine chkV_den ?_)
  refine stain_items h.stack (mv p8) (by simp [Eqs]) (by intro x; simp [Eqs]) fun H9 O9 X9 _ p9 => ?_
  replace p9 := asc p9
  repeat (first | refine chkN_den ?_ | refine chkV_den ?_)
  refine stain_items h.queue (mv p9) (by simp [Eqs]) (by intro x; simp [Eqs]) fun H10 O10 X10 _ p10 => ?_
  replace p10 := asc p10
  have hq := mv p10
  have hBa := h.att.lenB
  simp only [ints, List.length_map] at hBa
  generalize hR : (_ ++ Obk : Own) = R at hq
  refine count_den b.att.length (fun i H' O' => ∃ (l' : List Int) (A' : Own), l'.length = b.att.length ∧ O'.Perm (A' ++ R) ∧ OSl Ty_int 1 w.a (ints l') A') ⟨b.att, Oa, rfl, hq, h.att⟩ ?_
  rintro i H' O' hi - ⟨l', A', hl', hp', hA⟩
  have hlen := hA.len
  rw [ints, List.length_map, hl'] at hlen
  refine chkN_den (pure_den _ hlen (pure_den _ (lss_eq _ _) (br_den (fun hb => ?_) (fun _ => ?_))))
  · have hlt : i < b.att.length := by simpa using hb
    have hr : (ints l')[i]? = some [iV l'[i]] := by simp [ints, hl', hlt]
    obtain ⟨a, k1, _, k2, _⟩ := hA.idx (fun p h => hp'.mem_iff.2 (List.mem_append_left _ h)) H' (k := .i64) hr
    obtain ⟨a2, j1, j2⟩ := hA.store hp' (k := .i64) hr
    obtain ⟨A2, hst, hA2⟩ := j2 0 [iV (IntKind.i64.wrap (l'[i] + 1))] (by simp) ⟨rfl, trivial⟩
    rw [ptr0] at hst
    refine chkN_den (pure_den _ k1 (load_denR k2 rfl ⟨rfl, trivial⟩ (pure_den _ (inc_eq _) (pure_den _ j1 (chkP_den rfl ⟨_, hst, ?_⟩)))))
    refine pure_den _ (add_one (by omega)) (count_cont (by simp [Eqs]) hlt ⟨l'.set i (IntKind.i64.wrap (l'[i] + 1)), A2, by simp [hl'], List.Perm.refl _, ?_⟩)
    have e : (ints l').set i (splice [iV l'[i]] 0 [iV (IntKind.i64.wrap (l'[i] + 1))]) = ints (l'.set i (IntKind.i64.wrap (l'[i] + 1))) := by simp [ints, splice, List.map_set]
    rwa [e] at hA2
  subst hR
  have hq := asc hp'
  have hq := hq.trans List.perm_append_comm
  have hBb := h.blocks.lenB
  rw [List.length_map] at hBb
  generalize hR : (A' ++ _ : Own) = R at hq
  refine count_den b.blocks.length (fun i H' O' => ∃ (l' : List Bl) (A' : Own), l'.length = b.blocks.length ∧ O'.Perm (A' ++ R) ∧ OSl Ty_api_Block 2 w.b (l'.map Bl.row) A') ⟨b.blocks, Obk, rfl, hq, h.blocks⟩ ?_
  rintro i H2' O2' hi - ⟨l2, B2, hl2, hp2, hB2⟩
  have hlen := hB2.len
  rw [List.length_map, hl2] at hlen
  refine chkN_den (pure_den _ hlen (pure_den _ (lss_eq _ _) (br_den (fun hb => ?_) (fun _ => ?_))))
  · have hlt : i < b.blocks.length := by simpa using hb
    have hr : (l2.map Bl.row)[i]? = some (Bl.row l2[i]) := by simp [hl2, hlt]
    obtain ⟨a, k1, _, _, k3⟩ := hB2.idx (fun p h => hp2.mem_iff.2 (List.mem_append_left _ h)) H2' (k := .i64) hr
    have hr0 := k3 0 1 (by omega)
    rw [ptr0] at hr0
    obtain ⟨a2, j1, j2⟩ := hB2.store hp2 (k := .i64) hr
    obtain ⟨A2, hst, hA2⟩ := j2 0 [iV (IntKind.i64.wrap (l2[i].blocker + 1))] (by simp) ⟨rfl, trivial⟩
    rw [ptr0] at hst
    refine chkN_den (pure_den _ k1 (chkP_den rfl (load_denR hr0 rfl ⟨rfl, trivial⟩ (pure_den _ (inc_eq _) (pure_den _ j1 (chkP_den rfl (chkP_den rfl ⟨_, hst, ?_⟩)))))))
    refine pure_den _ (add_one (by omega)) (count_cont (by simp [Eqs]) hlt ⟨l2.set i { l2[i] with blocker := IntKind.i64.wrap (l2[i].blocker + 1) }, A2, by simp [hl2], List.Perm.refl _, ?_⟩)
    have e : (l2.map Bl.row).set i (splice (Bl.row l2[i]) 0 [iV (IntKind.i64.wrap (l2[i].blocker + 1))]) = (l2.set i { l2[i] with blocker := IntKind.i64.wrap (l2[i].blocker + 1) }).map Bl.row := by rw [List.map_set]; rfl
    rwa [e] at hA2
  exact ret_denO rfl
end Go.Proofs.YtjaegdkkiefchaaGreatDoor
