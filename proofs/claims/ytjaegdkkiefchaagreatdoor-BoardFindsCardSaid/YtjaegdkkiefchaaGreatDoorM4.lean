/- Owned boards are frozen. Generic. -/
import Derived.Test.YtjaegdkkiefchaaGreatDoorM3
namespace Go.Sx
open Go

theorem Cons.ghost {H H' : Heap} {O O' : Own} (h : Cons H O) (g : Ghost H O H' O') : Cons H' O' := by
  obtain ⟨w, F, hm⟩ := h
  exact ⟨w, F, (g w F hm).1⟩
theorem Cons.perm {H : Heap} {O O' : Own} (h : Cons H O) (hp : O.Perm O') : Cons H O' := h.ghost (Ghost.perm hp)
theorem Triple.ghost {P : Program} {f : FuncId} {args : List Value} {H : Heap} {O : Own} {Q Q' : Value → Heap → Own → Prop} (h : Triple P f args H O Q)
    (hq : ∀ v H' O', Heap.le H H' → Cons H' O' → Q v H' O' → ∃ H'' O'', Ghost H' O' H'' O'' ∧ Q' v H'' O'') : Triple P f args H O Q' :=
  fun w F hm => (h w F hm).mono fun _ w' ⟨v, H', O', he, q, hle, hm'⟩ =>
    let ⟨H'', O'', g, q'⟩ := hq v H' O' hle ⟨w', F, hm'⟩ q
    ⟨v, H'', O'', he, q', Heap.le_trans hle (g _ _ hm').2, (g _ _ hm').1⟩
theorem its_freeze {te : TypeId} : ∀ (l : List It) (rows : List (List Value)) (Ts : List Own) (H : Heap) (X : Own), rows.length = l.length → Ts.length = l.length →
    (∀ (i : Nat) (r : List Value) (x : It) (T : Own), rows[i]? = some r → l[i]? = some x → Ts[i]? = some T → ∃ s, r = [iV x.player, iV x.id, iV x.card, iV x.trig, s] ∧ OSl te 2 s (x.tgs.map Tg.row) T) →
    Cons H (List.flatten Ts ++ X) → ∃ H', Ghost H (List.flatten Ts ++ X) H' X ∧ Heap.le H H' ∧
      ∀ (i : Nat) (r : List Value) (x : It), rows[i]? = some r → l[i]? = some x → ∃ s, r = [iV x.player, iV x.id, iV x.card, iV x.trig, s] ∧ Sl H' 2 s (x.tgs.map Tg.row)
  | [], [], [], H, X, _, _, _, _ => ⟨H, Ghost.refl _ _, Heap.le_refl _, fun i r x h => by simp at h⟩
  | x :: l, r :: rows, T :: Ts, H, X, h1, h2, hs, hc => by
    obtain ⟨s, e, hT⟩ := hs 0 r x T rfl rfl rfl
    rw [List.flatten_cons, List.append_assoc] at hc
    obtain ⟨H1, g1, k1, l1⟩ := hT.freeze hc
    obtain ⟨H2, g2, l2, k2⟩ := its_freeze l rows Ts H1 X (by simpa using h1) (by simpa using h2) (fun i r x T a b c => hs (i + 1) r x T (by simpa using a) (by simpa using b) (by simpa using c)) (hc.ghost g1)
    refine ⟨H2, ?_, Heap.le_trans l1 l2, fun i r' x' a b => ?_⟩
    · rw [List.flatten_cons, List.append_assoc]; exact g1.trans g2
    · cases i with
      | zero => simp at a b; subst a; subst b; exact ⟨s, e, k1.le l2⟩
      | succ i => exact k2 i r' x' (by simpa using a) (by simpa using b)
  | [], _ :: _, _, _, _, h, _, _, _ => by simp at h
  | _ :: _, [], _, _, _, h, _, _, _ => by simp at h
  | [], [], _ :: _, _, _, _, h, _, _ => by simp at h
  | _ :: _, _ :: _, [], _, _, _, h, _, _ => by simp at h
theorem OIts.freeze {te ti : TypeId} {v : Value} {l : List It} {O1 X : Own} {H : Heap} (h : OIts te ti v l O1) (hc : Cons H (O1 ++ X)) : ∃ H', Ghost H (O1 ++ X) H' X ∧ ItsS H' v l ∧ Heap.le H H' := by
  obtain ⟨rows, A, Ts, hp, h1, h2, h3, h4⟩ := h
  have hp' : (O1 ++ X).Perm (A ++ (List.flatten Ts ++ X)) := (hp.append_right X).trans (List.Perm.of_eq (List.append_assoc _ _ _))
  obtain ⟨H1, g1, k1, l1⟩ := h1.freeze (hc.perm hp')
  obtain ⟨H2, g2, l2, k2⟩ := its_freeze l rows Ts H1 X h2 h3 h4 ((hc.perm hp').ghost g1)
  exact ⟨H2, (Ghost.perm hp').trans (g1.trans g2), ⟨rows, k1.le l2, h2, k2⟩, Heap.le_trans l1 l2⟩
theorem OwnB.freeze {t : Tys} {w : BV12} {b : Bd} {O X : Own} {H : Heap} (h : OwnB t w b O) (hc : Cons H (O ++ X)) : ∃ H', Ghost H (O ++ X) H' X ∧ BdS H' w b ∧ Heap.le H H' := by
  obtain ⟨Oo, A0, B0, C0, D0, A1, B1, C1, D1, Os, Oq, Oa, Obk, hp, h⟩ := h
  have hp' : (O ++ X).Perm (Oo ++ (A0 ++ (B0 ++ (C0 ++ (D0 ++ (A1 ++ (B1 ++ (C1 ++ (D1 ++ (Os ++ (Oq ++ (Oa ++ (Obk ++ X))))))))))))) := by
    refine (hp.append_right X).trans (List.Perm.of_eq ?_)
    simp only [List.append_assoc]
  replace hc := hc.perm hp'
  obtain ⟨H1, g1, k1, l1⟩ := h.objs.freeze hc
  replace hc := hc.ghost g1
  obtain ⟨H2, g2, k2, l2⟩ := h.l0.freeze hc
  replace hc := hc.ghost g2
  obtain ⟨H3, g3, k3, l3⟩ := h.h0.freeze hc
  replace hc := hc.ghost g3
  obtain ⟨H4, g4, k4, l4⟩ := h.f0.freeze hc
  replace hc := hc.ghost g4
  obtain ⟨H5, g5, k5, l5⟩ := h.g0.freeze hc
  replace hc := hc.ghost g5
  obtain ⟨H6, g6, k6, l6⟩ := h.l1.freeze hc
  replace hc := hc.ghost g6
  obtain ⟨H7, g7, k7, l7⟩ := h.h1.freeze hc
  replace hc := hc.ghost g7
  obtain ⟨H8, g8, k8, l8⟩ := h.f1.freeze hc
  replace hc := hc.ghost g8
  obtain ⟨H9, g9, k9, l9⟩ := h.g1.freeze hc
  replace hc := hc.ghost g9
  obtain ⟨H10, g10, k10, l10⟩ := h.stack.freeze hc
  replace hc := hc.ghost g10
  obtain ⟨H11, g11, k11, l11⟩ := h.queue.freeze hc
  replace hc := hc.ghost g11
  obtain ⟨H12, g12, k12, l12⟩ := h.att.freeze hc
  replace hc := hc.ghost g12
  obtain ⟨H13, g13, k13, l13⟩ := h.blocks.freeze hc
  have m12 := l13
  have m11 := Heap.le_trans l12 m12
  have m10 := Heap.le_trans l11 m11
  have m9 := Heap.le_trans l10 m10
  have m8 := Heap.le_trans l9 m9
  have m7 := Heap.le_trans l8 m8
  have m6 := Heap.le_trans l7 m7
  have m5 := Heap.le_trans l6 m6
  have m4 := Heap.le_trans l5 m5
  have m3 := Heap.le_trans l4 m4
  have m2 := Heap.le_trans l3 m3
  have m1 := Heap.le_trans l2 m2
  exact ⟨H13, (Ghost.perm hp').trans (g1.trans (g2.trans (g3.trans (g4.trans (g5.trans (g6.trans (g7.trans (g8.trans (g9.trans (g10.trans (g11.trans (g12.trans g13)))))))))))),
    ⟨k1.le m1, ⟨k2.le m2, k3.le m3, k4.le m4, k5.le m5⟩, ⟨k6.le m6, k7.le m7, k8.le m8, k9.le m9⟩, k10.le m10, k11.le m11, k12.le m12, k13⟩, Heap.le_trans l1 m1⟩
/-- What is handed back is frozen at once. -/
theorem Triple.frozen {P : Program} {f : FuncId} {args : List Value} {H : Heap} {t : Tys} {b : Bd} (h : Triple P f args H [] fun r _ O' => ∃ w, r = .agg (boardC w b).toArray ∧ OwnB t w b O') :
    Triple P f args H [] fun r H' O' => (∃ w, r = .agg (boardC w b).toArray ∧ BdS H' w b) ∧ O' = [] := by
  refine h.ghost ?_
  rintro v H' O' _ hc ⟨w, rfl, ho⟩
  obtain ⟨H'', g, k, _⟩ := ho.freeze (X := []) (by simpa using hc)
  exact ⟨H'', [], by simpa using g, ⟨w, rfl, k⟩, rfl⟩
end Go.Sx
