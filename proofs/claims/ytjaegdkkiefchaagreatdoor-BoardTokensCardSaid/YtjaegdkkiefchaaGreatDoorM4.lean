/- Owned boards are frozen. Generic. -/
import Derived.Test.YtjaegdkkiefchaaGreatDoorC18
import Derived.Test.YtjaegdkkiefchaaGreatDoorFw3
import Derived.Test.YtjaegdkkiefchaaGreatDoorFw3
import Derived.Test.YtjaegdkkiefchaaGreatDoorC8
import Derived.Test.YtjaegdkkiefchaaGreatDoorBW
import Derived.Test.YtjaegdkkiefchaaGreatDoorKN
namespace Go.Sx
open Go
theorem Cons.ghost {H H' : Heap} {O O' : Own} (h : Cons H O) (g : Ghost H O H' O') : Cons H' O' := by
 obtain ⟨w, F, hm⟩ := h
 exact ⟨w, F, (g w F hm).1⟩
theorem Cons.perm {H : Heap} {O O' : Own} (h : Cons H O) (hp : O.Perm O') : Cons H O' := h.ghost (Ghost.perm hp)
theorem Triple.ghost {P : Program} {f : FuncId} {args : List Value} {H : Heap} {O : Own} {Q Q' : Value → Heap → Own → Prop} (h : Triple P f args H O Q)
  (hq : ∀ v H' O', Heap.le H H' → Cons H' O' → Q v H' O' → ∃ H'' O'', Ghost H' O' H'' O'' ∧ Q' v H'' O'') : Triple P f args H O Q' :=
 fun w F hm => (h w F hm).mono fun _ w' ⟨v, H', O', he, q, hle, hm'⟩ =>
  let ⟨H'', O'', g, q'⟩ := hq v H' O' hle ⟨w', F, hm'⟩ q
  ⟨v, H'', O'', he, q', Heap.le_trans hle (g _ _ hm').2, (g _ _ hm').1⟩
theorem its_freeze {te : TypeId} : ∀ (l : List It) (rows : List (List Value)) (Ts : List Own) (H : Heap) (X : Own), rows.length = l.length → Ts.length = l.length →
  (∀ (i : Nat) (r : List Value) (x : It) (T : Own), rows[i]? = some r → l[i]? = some x → Ts[i]? = some T → ∃ s, r = [iV x.player, iV x.id, iV x.card, iV x.trig, s] ∧ OSl te 2 s (x.tgs.map Tg.row) T) →
  Cons H (List.flatten Ts ++ X) → ∃ H', Ghost H (List.flatten Ts ++ X) H' X ∧ Heap.le H H' ∧
   ∀ (i : Nat) (r : List Value) (x : It), rows[i]? = some r → l[i]? = some x → ∃ s, r = [iV x.player, iV x.id, iV x.card, iV x.trig, s] ∧ Sl H' 2 s (x.tgs.map Tg.row)
 | [], [], [], H, X, _, _, _, _ => ⟨H, Ghost.refl _ _, Heap.le_refl _, fun i r x h => by simp at h⟩
 | x :: l, r :: rows, T :: Ts, H, X, h1, h2, hs, hc => by
  obtain ⟨s, e, hT⟩ := hs 0 r x T rfl rfl rfl
  rw [List.flatten_cons, List.append_assoc] at hc
  obtain ⟨H1, g1, k1, l1⟩ := hT.freeze hc
  obtain ⟨H2, g2, l2, k2⟩ := its_freeze l rows Ts H1 X (by simpa using h1) (by simpa using h2) (fun i r x T a b c => hs (i + 1) r x T (by simpa using a) (by simpa using b) (by simpa using c)) (hc.ghost g1)
  refine ⟨H2, ?_, Heap.le_trans l1 l2, fun i r' x' a b => ?_⟩
  ·rw [List.flatten_cons, List.append_assoc]; exact g1.trans g2
  ·cases i with
   | zero => simp at a b; subst a; subst b; exact ⟨s, e, k1.le l2⟩
   | succ i => exact k2 i r' x' (by simpa using a) (by simpa using b)
 | [], _ :: _, _, _, _, h, _, _, _ => by simp at h
 | _ :: _, [], _, _, _, h, _, _, _ => by simp at h
 | [], [], _ :: _, _, _, _, h, _, _ => by simp at h
 | _ :: _, _ :: _, [], _, _, _, h, _, _ => by simp at h
theorem OIts.freeze {te ti : TypeId} {v : Value} {l : List It} {O1 X : Own} {H : Heap} (h : OIts te ti v l O1) (hc : Cons H (O1 ++ X)) : ∃ H', Ghost H (O1 ++ X) H' X ∧ ItsS H' v l ∧ Heap.le H H' := by
 obtain ⟨rows, A, Ts, hp, h1, h2, h3, h4⟩ := h
 have hp' : (O1 ++ X).Perm (A ++ (List.flatten Ts ++ X)) := (hp.append_right X).trans (List.Perm.of_eq (List.append_assoc _ _ _))
 obtain ⟨H1, g1, k1, l1⟩ := h1.freeze (hc.perm hp')
 obtain ⟨H2, g2, l2, k2⟩ := its_freeze l rows Ts H1 X h2 h3 h4 ((hc.perm hp').ghost g1)
 exact ⟨H2, (Ghost.perm hp').trans (g1.trans g2), ⟨rows, k1.le l2, h2, k2⟩, Heap.le_trans l1 l2⟩
theorem OwnB.freeze {t : Tys} {w : BV12} {b : Bd} {O X : Own} {H : Heap} (h : OwnB t w b O) (hc : Cons H (O ++ X)) : ∃ H', Ghost H (O ++ X) H' X ∧ BdS H' w b ∧ Heap.le H H' := by
 obtain ⟨Oo, A0, B0, C0, D0, A1, B1, C1, D1, Os, Oq, Oa, Obk, hp, h⟩ := h
 have hp' : (O ++ X).Perm (Oo ++ (A0 ++ (B0 ++ (C0 ++ (D0 ++ (A1 ++ (B1 ++ (C1 ++ (D1 ++ (Os ++ (Oq ++ (Oa ++ (Obk ++ X))))))))))))) := by
  refine (hp.append_right X).trans (List.Perm.of_eq ?_)
  simp only [List.append_assoc]
 replace hc := hc.perm hp'
 obtain ⟨H1, g1, k1, l1⟩ := h.objs.freeze hc
 replace hc := hc.ghost g1
 obtain ⟨H2, g2, k2, l2⟩ := h.l0.freeze hc
 replace hc := hc.ghost g2
 obtain ⟨H3, g3, k3, l3⟩ := h.h0.freeze hc
 replace hc := hc.ghost g3
 obtain ⟨H4, g4, k4, l4⟩ := h.f0.freeze hc
 replace hc := hc.ghost g4
 obtain ⟨H5, g5, k5, l5⟩ := h.g0.freeze hc
 replace hc := hc.ghost g5
 obtain ⟨H6, g6, k6, l6⟩ := h.l1.freeze hc
 replace hc := hc.ghost g6
 obtain ⟨H7, g7, k7, l7⟩ := h.h1.freeze hc
 replace hc := hc.ghost g7
 obtain ⟨H8, g8, k8, l8⟩ := h.f1.freeze hc
 replace hc := hc.ghost g8
 obtain ⟨H9, g9, k9, l9⟩ := h.g1.freeze hc
 replace hc := hc.ghost g9
 obtain ⟨H10, g10, k10, l10⟩ := h.stack.freeze hc
 replace hc := hc.ghost g10
 obtain ⟨H11, g11, k11, l11⟩ := h.queue.freeze hc
 replace hc := hc.ghost g11
 obtain ⟨H12, g12, k12, l12⟩ := h.att.freeze hc
 replace hc := hc.ghost g12
 obtain ⟨H13, g13, k13, l13⟩ := h.blocks.freeze hc
 have m12 := l13
 have m11 := Heap.le_trans l12 m12
 have m10 := Heap.le_trans l11 m11
 have m9 := Heap.le_trans l10 m10
 have m8 := Heap.le_trans l9 m9
 have m7 := Heap.le_trans l8 m8
 have m6 := Heap.le_trans l7 m7
 have m5 := Heap.le_trans l6 m6
 have m4 := Heap.le_trans l5 m5
 have m3 := Heap.le_trans l4 m4
 have m2 := Heap.le_trans l3 m3
 have m1 := Heap.le_trans l2 m2
 exact ⟨H13, (Ghost.perm hp').trans (g1.trans (g2.trans (g3.trans (g4.trans (g5.trans (g6.trans (g7.trans (g8.trans (g9.trans (g10.trans (g11.trans (g12.trans g13)))))))))))),
  ⟨k1.le m1, ⟨k2.le m2, k3.le m3, k4.le m4, k5.le m5⟩, ⟨k6.le m6, k7.le m7, k8.le m8, k9.le m9⟩, k10.le m10, k11.le m11, k12.le m12, k13⟩, Heap.le_trans l1 m1⟩
/-- What is handed back is frozen at once. -/
theorem Triple.frozen {P : Program} {f : FuncId} {args : List Value} {H : Heap} {t : Tys} {b : Bd} (h : Triple P f args H [] fun r _ O' => ∃ w, r = .agg (boardC w b).toArray ∧ OwnB t w b O') :
  Triple P f args H [] fun r H' O' => (∃ w, r = .agg (boardC w b).toArray ∧ BdS H' w b) ∧ O' = [] := by
 refine h.ghost ?_
 rintro v H' O' _ hc ⟨w, rfl, ho⟩
 obtain ⟨H'', g, k, _⟩ := ho.freeze (X := []) (by simpa using hc)
 exact ⟨H'', [], by simpa using g, ⟨w, rfl, k⟩, rfl⟩
end Go.Sx
namespace Go.Sx
open Go
theorem RetO.frame {P : Program} {f : FuncId} {args : List Value} {H : Heap} {O : Own} {r : Value} (h : RetO P f args H O r) (X : Own) : RetO P f args H (O ++ X) r :=
 (Triple.frame h X).mono fun _ _ _ _ ⟨O'', e, e1, e2⟩ => ⟨e1, by rw [e, e2]⟩
theorem RetO.perm {P : Program} {f : FuncId} {args : List Value} {H : Heap} {O O' : Own} {r : Value} (h : RetO P f args H O r) (hp : O.Perm O') : RetO P f args H O' r :=
 fun w F hm => (h w F (hm.perm (hp.symm.append_right F))).mono fun _ _ ⟨v, H', O1, he, ⟨q1, q2⟩, hle, hm'⟩ => ⟨v, H', O', he, ⟨q1, rfl⟩, hle, hm'.perm (by rw [q2]; exact hp.append_right F)⟩
theorem row_eq {r : List Value} {n : Nat} (h : r.length = n) : (List.range n).map (g r) = r := by
 subst h
 refine List.ext_getElem (by simp) fun i h1 h2 => ?_
 simp [g, h2]
theorem zero_ones {z : Array Value} {n : Nat} (h : ∀ v ∈ z.toList, v.oneCell' = true) : ∀ v ∈ (Builtin.zeroCells z n).toList, v.oneCell' = true := by
 intro v hv
 simp only [Builtin.zeroCells, Array.toList_map, List.mem_map, Array.toList_range, List.mem_range] at hv
 obtain ⟨i, hi, rfl⟩ := hv
 have hpos : 0 < z.size := by
  rcases Nat.eq_zero_or_pos z.size with e | e
  ·rw [e] at hi; omega
  ·exact e
 have hlt := Nat.mod_lt i hpos
 rw [getElem!_pos z (i % z.size) hlt]
 exact h _ (by simp)
/-- v[:i] -/
theorem OSl.upto {e : TypeId} {size : Nat} {v : Value} {rows : List (List Value)} {O : Own} (h : OSl e size v rows O) {i : Nat} (hi : i ≤ rows.length) :
  ∃ u, evalPure (.slc size false true false) [v, .int .i64 i] = some u ∧ OSl e size u (rows.take i) O := by
 rcases h with ⟨⟨a, rfl⟩, rfl, rfl⟩ | ⟨r, cs, cap, rfl, rfl, hcl, hlc, hcap, hl, ho, ht⟩
 ·have h0 : i = 0 := by simpa using hi
  subst h0
  refine ⟨.slice a 0 0, ?_, .inl ⟨⟨a, rfl⟩, rfl, rfl⟩⟩
  simp [evalPure, takeArgs, evalSlc, slcBounds, boundOr, boundHi, boundI, asI]
 ·have hb : slcBounds rows.length cap none (some (.int .i64 (i : Int))) none = some (0, i, cap) := by
   have : i ≤ cap := by omega
   simp [slcBounds, boundOr, boundHi, boundI, asI, this]
  refine ⟨.slice (some ⟨r, 0, none⟩) i cap, ?_, .inr ⟨r, cs, cap, ?_, rfl, hcl, ?_, hcap, fun x hx => hl x (List.mem_of_mem_take hx), fun x hx => ho x (List.mem_of_mem_take hx), ?_⟩⟩
  ·simp only [evalPure, takeArgs, evalSlc, hb, Option.map_some]
   simp [Addr.add]
  ·simp [Nat.min_eq_left hi]
  ·rw [List.length_take]; omega
  ·have h1 : (rows.take i).length = i := by rw [List.length_take]; omega
   have h2 := congrArg (fun l => l.take (i * size)) ht
   simp only [List.take_take] at h2
   have h3 : i * size ≤ rows.length * size := Nat.mul_le_mul_right _ hi
   rw [Nat.min_eq_left h3] at h2
   rw [h1, h2]
   have h4 : rows.flatten = (rows.take i).flatten ++ (rows.drop i).flatten := by rw [← List.flatten_append, List.take_append_drop]
   have h5 := flatten_len (rows := rows.take i) (size := size) fun x hx => hl x (List.mem_of_mem_take hx)
   rw [h1] at h5
   rw [h4, ← h5, List.take_left]
/-- A call that is handed an own part. -/
theorem call_part {P : Program} {f : FuncId} {args : List Value} {H : Heap} {O O1 O2 : Own} {shp : Shp} {K : List Value → List (List Value) → Heap → Own → Prop} {R : Value → Heap → Own → Prop}
  (hO : O.Perm (O1 ++ O2)) (h : Triple P f args H O1 R) (hk : ∀ v H' O3, R v H' O3 → Heap.le H H' → ∃ vs, shp.open v = some vs ∧ Ones vs ∧ K vs [] H' (O3 ++ O2)) :
  CallD (fun H1 O1 R => Triple P f args H1 O1 R) false [] [] shp K H O := by
 intro _
 refine ⟨H, O1, O2, R, Ghost.perm hO, by simpa using h, ?_⟩
 intro v H' O' hr hle
 obtain ⟨vs, h1, h2, h3⟩ := hk v H' O' hr hle
 exact ⟨vs, [], O', h1, h2, trivial, rfl, h3⟩
end Go.Sx
namespace Go.Sx
open Go
theorem call_row {P : Program} {op : PrimOp} {args : List Value} {H : Heap} {O O2 : Own} {r : Nat} {cs cs' : List Value} {e : TypeId} {v : Value} {shp : Shp} {K : List Value → List (List Value) → Heap → Own → Prop} {vs : List Value}
  (hO : O.Perm ([(r, .cells cs.toArray e (0, 0))] ++ O2)) (hrun : ∀ w F, Models w H ([(r, .cells cs.toArray e (0, 0))] ++ F) → (op.sem args).run P w = .ok (.value v) (w.setRow r cs'.toArray)) (ho : shp.open v = some vs) (h1 : Ones vs)
  (hk : K vs [] H ([(r, .cells cs'.toArray e (0, 0))] ++ O2)) : CallD (fun H1 O1 R => OpTriple P (op.sem args) H1 O1 R) false [] [] shp K H O := by
 intro _
 refine ⟨H, [(r, .cells cs.toArray e (0, 0))], O2, fun v' H' O' => v' = v ∧ H' = H ∧ O' = [(r, .cells cs'.toArray e (0, 0))], Ghost.perm hO, fun w F hm => ⟨v, w.setRow r cs'.toArray, H, _, hrun w F (by simpa using hm), ⟨rfl, rfl, rfl⟩, Heap.le_refl H, ?_⟩, ?_⟩
 ·exact models_row (vs := cs) (by simpa using hm)
 ·rintro v' H' O' ⟨rfl, rfl, rfl⟩ _
  exact ⟨vs, [], _, ho, h1, trivial, rfl, hk⟩
theorem rows_flat {size : Nat} {rows : List (List Value)} {cs : List Value} (hl : ∀ row ∈ rows, row.length = size) (ht : cs.take (rows.length * size) = rows.flatten) {i : Nat} (hi : i ≤ rows.length) :
  (rows.take i).flatten = cs.take (i * size) ∧ (rows.drop i).flatten = (cs.drop (i * size)).take ((rows.length - i) * size) := by
 have h5 := flatten_len (rows := rows.take i) (size := size) fun x hx => hl x (List.mem_of_mem_take hx)
 have h1 : (rows.take i).length = i := by rw [List.length_take]; omega
 rw [h1] at h5
 have h4 : rows.flatten = (rows.take i).flatten ++ (rows.drop i).flatten := by rw [← List.flatten_append, List.take_append_drop]
 have hmul : i * size ≤ rows.length * size := Nat.mul_le_mul_right _ hi
 have hsub : (rows.length - i) * size = rows.length * size - i * size := Nat.sub_mul _ _ _
 constructor
 ·have h2 := congrArg (fun l => l.take (i * size)) ht
  simp only [List.take_take] at h2
  rw [Nat.min_eq_left hmul, h4, ← h5, List.take_left] at h2
  rw [← h5]; exact h2.symm
 ·have h2 := congrArg (fun l => l.drop (i * size)) ht
  simp only [List.drop_take] at h2
  rw [h4, ← h5, List.drop_left, h5] at h2
  rw [hsub]; exact h2.symm
theorem appOk_info {P : Program} {t e : TypeId} {size bytes : Nat} (h : appOk P t e size bytes = true) : P.underlying t = some (.slice e) ∧ ∃ i, P.info? e = some i ∧ i.size = size := by
 unfold appOk at h
 split at h
 ·rename_i e' i hu hi
  simp only [Bool.and_eq_true, beq_iff_eq] at h
  obtain ⟨⟨⟨⟨rfl, hsz⟩, _⟩, _⟩, _⟩ := h
  exact ⟨hu, i, hi, hsz⟩
 ·cases h
theorem own_cell {w : World} {H : Heap} {r : Nat} {cs : List Value} {e : TypeId} {F : Own} (hm : Models w H ([(r, .cells cs.toArray e (0, 0))] ++ F)) {j : Nat} {u : Value} (h : cs[j]? = some u) : w.cell? ⟨r, j, none⟩ = some u := by
 have hr := (hm.own (r, .cells cs.toArray e (0, 0)) (by simp)).1
 simp only [] at hr
 simp [World.cell?, hr, h]
theorem Sl.upto {H : Heap} {size : Nat} {v : Value} {rows : List (List Value)} (h : Sl H size v rows) {i : Nat} (hi : i ≤ rows.length) : ∃ u, evalPure (.slc size false true false) [v, .int .i64 i] = some u ∧ Sl H size u (rows.take i) := by
 obtain ⟨a, cap, rfl, h1, h2, h3⟩ := h
 have hb : slcBounds rows.length cap none (some (.int .i64 (i : Int))) none = some (0, i, cap) := by
  have : i ≤ cap := by omega
  simp [slcBounds, boundOr, boundHi, boundI, asI, this]
 have hm : (rows.take i).length = i := by rw [List.length_take]; omega
 refine ⟨.slice a i cap, ?_, a, cap, by rw [hm], by rw [hm]; omega, h2, fun hne => ?_⟩
 ·simp only [evalPure, takeArgs, evalSlc, hb, Option.map_some]
  cases a <;> simp [Addr.add]
 ·have hne2 : rows ≠ [] := by rintro rfl; simp at hne
  obtain ⟨ad, e, hA⟩ := h3 hne2
  refine ⟨ad, e, fun j r hr => hA j r ?_⟩
  rw [List.getElem?_take] at hr
  split at hr
  ·exact hr
  ·cases hr
theorem Sl.from {H : Heap} {size : Nat} {v : Value} {rows : List (List Value)} (h : Sl H size v rows) {i : Nat} (hi : i ≤ rows.length) : ∃ u, evalPure (.slc size true false false) [v, .int .i64 i] = some u ∧ Sl H size u (rows.drop i) := by
 obtain ⟨a, cap, rfl, h1, h2, h3⟩ := h
 have hb : slcBounds rows.length cap (some (.int .i64 (i : Int))) none none = some (i, rows.length, cap) := by
  simp [slcBounds, boundOr, boundHi, boundI, asI, hi]
 have hm : (rows.drop i).length = rows.length - i := List.length_drop
 refine ⟨.slice (if cap = i then a else a.map (·.add (i * size))) (rows.length - i) (cap - i), ?_, _, cap - i, by rw [hm], by rw [hm]; omega, by omega, fun hne => ?_⟩
 ·simp only [evalPure, takeArgs, evalSlc, hb, Option.map_some]
 ·have hne2 : rows ≠ [] := by rintro rfl; simp at hne
  have hlt : i < rows.length := by
   rcases Nat.lt_or_ge i rows.length with h | h
   ·exact h
   ·rw [List.drop_of_length_le h] at hne; exact absurd rfl hne
  obtain ⟨ad, rfl, hA⟩ := h3 hne2
  refine ⟨ad.add (i * size), ?_, fun j r hr => ?_⟩
  ·rw [if_neg (by omega)]; rfl
  ·rw [List.getElem?_drop] at hr
   have := hA (i + j) r hr
   rw [add_add, ← Nat.add_mul]; exact this
end Go.Sx
namespace Go.Sx
open Go
/-- The kinds of frozen cards. -/
def KindS (H : Heap) (v : Value) (ks : List Int) : Prop := ∃ rows, Sl H 14 v rows ∧ rows.length = ks.length ∧ ∀ (i : Nat) (r : List Value) (k : Int), rows[i]? = some r → ks[i]? = some k → g r 1 = iV k
theorem KindS.le {H H' : Heap} {v : Value} {ks : List Int} (h : KindS H v ks) (hl : Heap.le H H') : KindS H' v ks := let ⟨rows, h1, h2, h3⟩ := h; ⟨rows, h1.le hl, h2, h3⟩
theorem KindS.one {H : Heap} {v : Value} {ks : List Int} (h : KindS H v ks) : v.oneCell' = true := let ⟨_, h1, _⟩ := h; h1.one
def kindAt (ks : List Int) (c : Int) : Int := if c < 0 ∨ c ≥ (ks.length : Int) then 0 else ks.getD c.toNat 0
def creatB (ks : List Int) (o : Ob) : Bool := o.card == -1 || kindAt ks o.card == 2
theorem reads_frozen {H : Heap} {O : Own} {p : Value} {m : Nat} {vs : List Value} (h : H.read p m = some vs) : Reads H O p m vs := .inl h
end Go.Sx
namespace Go.Proofs.YtjaegdkkiefchaaGreatDoor
open Go Go.Sx
set_option maxRecDepth 100000
set_option maxHeartbeats 1000000
def seatOf (b : Bd) (p : Int) : St := if p = 0 then b.s0 else b.s1
def withSeat (b : Bd) (p : Int) (s : St) : Bd := if p = 0 then { b with s0 := s } else { b with s1 := s }
def putZ (s : St) (z id : Int) : St :=
 if z = 0 then { s with lib := s.lib ++ [id] } else if z = 1 then { s with hand := s.hand ++ [id] } else if z = 2 then { s with field := s.field ++ [id] } else if z = 3 then { s with grave := s.grave ++ [id] } else s
def putB (b : Bd) (p z id : Int) : Bd := withSeat b p (putZ (seatOf b p) z id)
def idsS (s : St) : List Int := s.lib ++ (s.hand ++ (s.field ++ s.grave))
def idsB (b : Bd) : List Int := idsS b.s0 ++ (idsS b.s1 ++ (cardsOn b.stack).map (·.id))
theorem ids_pairs (b : Bd) : (pairsB b).map (·.1) = idsB b := by
 simp [pairsB, pairsS, idsB, idsS, owned, Function.comp_def]
theorem placed_nodup {b : Bd} {val : Ob → Bool} (h : placedB val b = true) : (idsB b).Nodup := by
 simp only [placedB, Bool.and_eq_true, decide_eq_true_eq] at h
 rw [← ids_pairs]; exact h.1
/-- The parts of a board that is valid. -/
theorem valid_parts {b : Bd} (h : validBd b = true) : placedB validO b = true ∧ fightsBd b = true ∧ (b.active = 0 ∨ b.active = 1) ∧ b.stack.all (fun x => fineB x false) = true := by
 simp only [validBd, Bool.and_eq_true, withinB, decide_eq_true_eq, Bool.not_eq_true', List.any_eq_false] at h
 refine ⟨h.2.2.2.2.2.2.2.2.2.1, h.2.2.2.2.2.2.2.2.2.2, by have := h.1; omega, ?_⟩
 rw [List.all_eq_true]
 intro x hx
 have := h.2.2.2.2.2.2.2.1 x hx
 simpa using this
theorem placed_objs {b : Bd} (h : placedB validO b = true) : ordP none b.objs = true ∧ b.objs.all (ok1 (pairsB b) (carded b.stack)) = true ∧ (pairsB b).length = b.objs.length := by
 simp only [placedB, Bool.and_eq_true, decide_eq_true_eq, objsGo_eq] at h
 exact ⟨h.2.1.1, h.2.1.2, h.2.2⟩
theorem idxP_at {α : Type} {p : α → Bool} : ∀ {l : List α} {k : Nat} {x : α} (i : Int), l[k]? = some x → p x = true → (∀ (j : Nat) (y : α), j < k → l[j]? = some y → p y = false) → idxP p l i = i + k
 | [], k, x, i, h, _, _ => by simp at h
 | a :: l, 0, x, i, h, hp, _ => by
  simp at h; subst h
  simp [idxP, hp]
 | a :: l, k + 1, x, i, h, hp, hb => by
  have h0 := hb 0 a (by omega) rfl
  have := idxP_at (i + 1) (l := l) (k := k) (by simpa using h) hp fun j y hj e => hb (j + 1) y (by omega) (by simpa using e)
  simp only [idxP, h0, Bool.false_eq_true, if_false, this]
  omega
theorem idxO_at {b : Bd} (hn : (b.objs.map (·.id)).Nodup) {k : Nat} {o : Ob} (h : b.objs[k]? = some o) : idxO b o.id = k := by
 have := idxP_at (p := fun x : Ob => x.id == o.id) (l := b.objs) 0 h (by simp) fun j y hj e => by
  have hlt := (List.getElem?_eq_some_iff.1 h).1
  have h1 : (b.objs.map (·.id))[j]? = some y.id := by rw [List.getElem?_map, e]; rfl
  have h2 : (b.objs.map (·.id))[k]? = some o.id := by rw [List.getElem?_map, h]; rfl
  have hne : y.id ≠ o.id := by
   intro e2
   rw [e2] at h1
   have := (List.getElem?_inj (by simpa using (by omega : j < b.objs.length)) hn).1 (h1.trans h2.symm)
   omega
  simpa using hne
 rw [idxO, this]; omega
/-- What is known of an object of a valid board. -/
theorem obj_known {b : Bd} (h : placedB validO b = true) {k : Nat} {o : Ob} (hk : b.objs[k]? = some o) : validO o = true ∧ (o.id, o.owner) ∈ pairsB b ∧ idxO b o.id = k ∧ (o.owner = 0 ∨ o.owner = 1) := by
 obtain ⟨h1, h2, _⟩ := placed_objs h
 have hm := List.mem_of_getElem? hk
 have ho := List.all_eq_true.1 h2 o hm
 simp only [ok1, Bool.and_eq_true, beq_iff_eq] at ho
 obtain ⟨v, hl, hown, _⟩ := ho
 have hn := placed_nodup h
 rw [← ids_pairs] at hn
 refine ⟨v, ?_, idxO_at (ordP_spec h1).2 hk, validO_owner v⟩
 cases e : lookI (pairsB b) o.id with
 | none => rw [e] at hl; cases hl
 | some w =>
  rw [e] at hown
  have : w = o.owner := hown
  rw [this] at e
  exact (lookI_some hn).1 e
/-- An id that is somewhere has its object. -/
theorem id_obj {b : Bd} (h : placedB validO b = true) {id p : Int} (hm : (id, p) ∈ pairsB b) : ∃ (k : Nat) (o : Ob), b.objs[k]? = some o ∧ o.id = id ∧ o.owner = p := by
 obtain ⟨o, ho, e, _⟩ := placed_ids h id (List.mem_map_of_mem (f := Prod.fst) hm)
 obtain ⟨k, hk⟩ := List.mem_iff_getElem?.1 ho
 refine ⟨k, o, hk, e, ?_⟩
 obtain ⟨_, h2, _⟩ := obj_known h hk
 have hn := placed_nodup h
 rw [← ids_pairs] at hn
 rw [e] at h2
 have a := (lookI_some hn).2 h2
 have c := (lookI_some hn).2 hm
 rw [a] at c
 exact Option.some.inj c
end Go.Proofs.YtjaegdkkiefchaaGreatDoor
namespace Go.Proofs.YtjaegdkkiefchaaGreatDoor
open Go Go.Sx
set_option maxRecDepth 100000
set_option maxHeartbeats 1000000
/-- A call that leaves what is owned as it is, and hands back a value of which S holds. -/
theorem call_givesO {P : Program} {f : FuncId} {args : List Value} {H : Heap} {O : Own} {S : Value → Heap → Prop} {d : Bool} {shp : Shp} {K : List Value → List (List Value) → Heap → Own → Prop}
  (h : Triple P f args H O fun v H' O' => S v H' ∧ O' = O) (hk : ∀ v H', S v H' → Heap.le H H' → ∃ vs, shp.open v = some vs ∧ Ones vs ∧ K vs [] H' O) :
  CallD (fun H1 O1 R => Triple P f args H1 O1 R) d [] [] shp K H O := by
 intro _
 refine ⟨H, O, [], fun v H' O' => S v H' ∧ O' = O, ?_, h, ?_⟩
 ·cases d
  ·show Ghost H O H (O ++ [])
   rw [List.append_nil]; exact Ghost.refl _ _
  ·exact ⟨rfl, .inr ⟨rfl, rfl, rfl, fun v H' O' h => h.2⟩⟩
 ·rintro v H' O' ⟨hs, rfl⟩ hle
  obtain ⟨vs, h1, h2, h3⟩ := hk v H' hs hle
  exact ⟨vs, [], O', h1, h2, trivial, rfl, by rw [List.append_nil]; exact h3⟩
abbrev i64 (n : Int) : Prop := -9223372036854775808 ≤ n ∧ n ≤ 9223372036854775807
theorem ob_ones (o : Ob) : Ones o.row := ⟨rfl, rfl, rfl, rfl, rfl, rfl, rfl, rfl, rfl, rfl, rfl, rfl, trivial⟩
theorem valid_ids {b : Bd} (h : validBd b = true) : (∀ o ∈ b.objs, 1 ≤ o.id ∧ o.id ≤ 500) ∧ ordP none b.objs = true := by
 obtain ⟨p1, p2, _⟩ := placed_objs (valid_parts h).1
 refine ⟨fun o ho => ?_, p1⟩
 have := List.all_eq_true.1 p2 o ho
 simp only [ok1, Bool.and_eq_true] at this
 exact validO_id this.1
theorem valid_len {b : Bd} (h : validBd b = true) : b.objs.length ≤ 1000000 := by
 simp only [validBd, midBad, Bool.and_eq_true, Bool.not_eq_true', Bool.or_eq_false_iff, decide_eq_false_iff_not] at h
 have := h.2.2.2.2.1.1.1.2
 omega
theorem idxO_some {b : Bd} {id : Int} (h : ¬ idxO b id < 0) : ∃ (k : Nat) (o : Ob), b.objs[k]? = some o ∧ o.id = id ∧ idxO b id = k := by
 rcases idxP_spec (fun o : Ob => o.id == id) b.objs 0 (by omega) with ⟨e, _⟩ | ⟨k, o, e1, e2, e3⟩
 ·exact absurd (show idxO b id < 0 by rw [idxO, e]; omega) h
 ·exact ⟨k, o, e1, by simpa using e2, by rw [idxO, e3]; omega⟩
end Go.Proofs.YtjaegdkkiefchaaGreatDoor
namespace Go.Proofs.YtjaegdkkiefchaaGreatDoor
open Go Go.Sx Go.ChangeShapes Go.WideShapes Go.ChangeAt Go.RowKit
set_option maxRecDepth 100000
set_option maxHeartbeats 1000000
theorem slice_leaf {T : Type} {enc : TypeId × Value → T} {P : Program} {w : World} {base : Nat} {sp : Nat → Bool} {held : Bool} {t e : TypeId} {r : Reach} {v : Value} {d : DataW T} {p : List MemPlace} (hu : P.underlying t = some (.slice e)) (hsk : structsOk P = true) (htl : Nat.blt t P.types.size = true)
  (hv : Value.okWide P w r base t v) (h : DataW.Trod enc P w 0 sp held t v d p) : Leaf P (heapOf w) t v := by
 obtain ⟨a, len, cap, rfl⟩ := okWide_slice hu hv
 obtain ⟨fuel, hf⟩ := h
 exact ⟨fuel, wf_of_trod hsk (Nat.le_of_ble_eq_true htl) hf⟩
theorem read_intsL {H : Heap} {v : Value} (h : Leaf PP H 25 v) : ∃ l, Sl H 1 v (ints l) ∧ ∀ x ∈ l, i64 x := by
 obtain ⟨rows, hs, n, hw⟩ := h.slice Tryz.underlying25
 have hc : PP.cellsOf 3 = 1 := by kernel_rfl
 rw [hc] at hs
 obtain ⟨l, rfl⟩ := wf_ints Tryz.underlying3 hw
 refine ⟨l, hs, fun x hx => ?_⟩
 obtain ⟨y, e, b⟩ := Leaf.int (P := PP) (H := H) (c := iV x) Tryz.underlying3 ⟨n, hw _ (List.mem_map_of_mem hx)⟩
 obtain rfl : x = y := by simpa using e
 exact b
theorem card_kind : (leaves PP 8 147).bind (fun ls => ls[1]?) = some 139 := by kernel_rfl
theorem read_cards {H : Heap} {v : Value} (h : Leaf PP H 57 v) : ∃ ks, KindS H v ks := by
 obtain ⟨rows, hs, n, hw⟩ := h.slice Tryz.underlying57
 have hc : PP.cellsOf 147 = 14 := by kernel_rfl
 rw [hc] at hs
 obtain ⟨ls, hls, h1⟩ := Option.bind_eq_some_iff.1 card_kind
 have key : ∀ r ∈ rows, ∃ k : Int, g r 1 = iV k := fun r hr => by
  obtain ⟨x, e, _⟩ := (leaf_at hls (hw r hr) 1 _ h1).int Tryz.underlying139
  exact ⟨x, e⟩
 have : ∃ ks : List Int, rows.length = ks.length ∧ ∀ (i : Nat) (r : List Value) (k : Int), rows[i]? = some r → ks[i]? = some k → g r 1 = iV k := by
  clear hs hw
  induction rows with
  | nil => exact ⟨[], rfl, fun i r k h => by simp at h⟩
  | cons r rs ih =>
   obtain ⟨ks, e1, e2⟩ := ih fun x hx => key x (by simp [hx])
   obtain ⟨k, e3⟩ := key r (by simp)
   refine ⟨k :: ks, by simp [e1], fun i r' k' f1 f2 => ?_⟩
   cases i with
   | zero => simp at f1 f2; subst f1; subst f2; exact e3
   | succ i => exact e2 i r' k' (by simpa using f1) (by simpa using f2)
 obtain ⟨ks, e1, e2⟩ := this
 exact ⟨ks, rows, hs, e1, e2⟩
end Go.Proofs.YtjaegdkkiefchaaGreatDoor
namespace Go.Proofs.YtjaegdkkiefchaaGreatDoor
open Go Go.Sx
set_option maxRecDepth 100000
set_option maxHeartbeats 1000000
def zO : Ob := ⟨0, 0, 0, 0, 0, 0, 0, 0, 0, false, false, false⟩
theorem OwnB.perm {t : Tys} {w : BV12} {b : Bd} {O O' : Own} (h : OwnB t w b O) (hp : O'.Perm O) : OwnB t w b O' :=
 let ⟨Oo, A0, B0, C0, D0, A1, B1, C1, D1, Os, Oq, Oa, Obk, hq, h⟩ := h
 ⟨Oo, A0, B0, C0, D0, A1, B1, C1, D1, Os, Oq, Oa, Obk, hp.trans hq, h⟩
theorem OwnB.zero (t : Tys) : OwnB t nilV zBd [] :=
 ⟨[], [], [], [], [], [], [], [], [], [], [], [], [], List.Perm.refl _, OSl.nil _ _, OSl.nil _ _, OSl.nil _ _, OSl.nil _ _, OSl.nil _ _, OSl.nil _ _, OSl.nil _ _, OSl.nil _ _, OSl.nil _ _,
  ⟨[], [], [], List.Perm.refl _, OSl.nil _ _, rfl, rfl, fun i r x T h => by simp at h⟩, ⟨[], [], [], List.Perm.refl _, OSl.nil _ _, rfl, rfl, fun i r x T h => by simp at h⟩, OSl.nil _ _, OSl.nil _ _⟩
end Go.Proofs.YtjaegdkkiefchaaGreatDoor
namespace Go.Proofs.YtjaegdkkiefchaaGreatDoor
open Go Go.Sx
set_option maxRecDepth 100000
set_option maxHeartbeats 1000000
theorem OwnB.pick_f0 {t : Tys} {w : BV12} {b : Bd} {O : Own} (h : OwnB t w b O) : ∃ A R, O.Perm (A ++ R) ∧ OSl t.int 1 w.f0 (ints b.s0.field) A ∧ ∀ v' l' A', OSl t.int 1 v' (ints l') A' → OwnB t { w with f0 := v' } { b with s0 := { b.s0 with field := l' } } (A' ++ R) := by
 obtain ⟨Oo, A0, B0, C0, D0, A1, B1, C1, D1, Os, Oq, Oa, Obk, hp, h⟩ := h
 refine ⟨C0, Oo ++ (A0 ++ (B0 ++ (D0 ++ (A1 ++ (B1 ++ (C1 ++ (D1 ++ (Os ++ (Oq ++ (Oa ++ (Obk))))))))))), hp.trans (perm_count fun a _ _ => by simp only [List.count_append] <;> omega), h.f0, fun v' l' A' h' => ⟨Oo, A0, B0, A', D0, A1, B1, C1, D1, Os, Oq, Oa, Obk, perm_count fun a _ _ => by simp only [List.count_append] <;> omega, ⟨h.objs, h.l0, h.h0, h', h.g0, h.l1, h.h1, h.f1, h.g1, h.stack, h.queue, h.att, h.blocks⟩⟩⟩
theorem OwnB.pick_f1 {t : Tys} {w : BV12} {b : Bd} {O : Own} (h : OwnB t w b O) : ∃ A R, O.Perm (A ++ R) ∧ OSl t.int 1 w.f1 (ints b.s1.field) A ∧ ∀ v' l' A', OSl t.int 1 v' (ints l') A' → OwnB t { w with f1 := v' } { b with s1 := { b.s1 with field := l' } } (A' ++ R) := by
 obtain ⟨Oo, A0, B0, C0, D0, A1, B1, C1, D1, Os, Oq, Oa, Obk, hp, h⟩ := h
 refine ⟨C1, Oo ++ (A0 ++ (B0 ++ (C0 ++ (D0 ++ (A1 ++ (B1 ++ (D1 ++ (Os ++ (Oq ++ (Oa ++ (Obk))))))))))), hp.trans (perm_count fun a _ _ => by simp only [List.count_append] <;> omega), h.f1, fun v' l' A' h' => ⟨Oo, A0, B0, C0, D0, A1, B1, A', D1, Os, Oq, Oa, Obk, perm_count fun a _ _ => by simp only [List.count_append] <;> omega, ⟨h.objs, h.l0, h.h0, h.f0, h.g0, h.l1, h.h1, h', h.g1, h.stack, h.queue, h.att, h.blocks⟩⟩⟩
theorem OwnB.pick_objs {t : Tys} {w : BV12} {b : Bd} {O : Own} (h : OwnB t w b O) : ∃ A R, O.Perm (A ++ R) ∧ OSl t.ob 12 w.o (b.objs.map Ob.row) A ∧ ∀ v' l' A', OSl t.ob 12 v' (List.map Ob.row l') A' → OwnB t { w with o := v' } { b with objs := l' } (A' ++ R) := by
 obtain ⟨Oo, A0, B0, C0, D0, A1, B1, C1, D1, Os, Oq, Oa, Obk, hp, h⟩ := h
 refine ⟨Oo, A0 ++ (B0 ++ (C0 ++ (D0 ++ (A1 ++ (B1 ++ (C1 ++ (D1 ++ (Os ++ (Oq ++ (Oa ++ (Obk))))))))))), hp.trans (perm_count fun a _ _ => by simp only [List.count_append] <;> omega), h.objs, fun v' l' A' h' => ⟨A', A0, B0, C0, D0, A1, B1, C1, D1, Os, Oq, Oa, Obk, perm_count fun a _ _ => by simp only [List.count_append] <;> omega, ⟨h', h.l0, h.h0, h.f0, h.g0, h.l1, h.h1, h.f1, h.g1, h.stack, h.queue, h.att, h.blocks⟩⟩⟩
end Go.Proofs.YtjaegdkkiefchaaGreatDoor
namespace Go.Proofs.YtjaegdkkiefchaaGreatDoor
open Go Go.Sx
set_option maxRecDepth 100000
set_option maxHeartbeats 1000000
end Go.Proofs.YtjaegdkkiefchaaGreatDoor
namespace Go.Proofs.YtjaegdkkiefchaaGreatDoor
open Go Go.Sx
set_option maxRecDepth 100000
set_option maxHeartbeats 1000000
end Go.Proofs.YtjaegdkkiefchaaGreatDoor
namespace Go.Proofs.YtjaegdkkiefchaaGreatDoor
open Go Go.Sx
set_option maxRecDepth 100000
set_option maxHeartbeats 1000000
end Go.Proofs.YtjaegdkkiefchaaGreatDoor
namespace Go.Proofs.YtjaegdkkiefchaaGreatDoor
open Go Go.Sx
set_option maxRecDepth 100000
set_option maxHeartbeats 1000000
theorem c_known {H : Heap} (hgl : GlobOk glob0 H) (O : Own) : RetO PP F_zeitnotlaw15_known [] H O (.bool true) :=
 run_trueS (c := cfg0) mixed (fun _ h => okFn_of okL_ok h) hgl (sum0_ok H) (by kernel_rfl) known_run O
end Go.Proofs.YtjaegdkkiefchaaGreatDoor
namespace Go.Proofs.YtjaegdkkiefchaaGreatDoor
open Go Go.Sx
set_option maxRecDepth 100000
set_option maxHeartbeats 1000000
theorem small_B {b : Bd} (h : smallBd b = true) : bdB b := by
 simp only [smallBd, stSmall, itsSmall, Bool.and_eq_true, Bool.not_eq_true', decide_eq_true_eq, decide_eq_false_iff_not, List.all_eq_true] at h
 obtain ⟨⟨a1, a2, a3, a4⟩, ⟨a5, a6, a7, a8⟩, ⟨a9, a10⟩, ⟨a11, a12⟩, ⟨a13, a14⟩, a15⟩ := h
 refine ⟨by omega, ⟨by omega, by omega, by omega, by omega⟩, ⟨by omega, by omega, by omega, by omega⟩, ⟨by omega, fun x hx => ?_⟩, ⟨by omega, fun x hx => ?_⟩, by omega, by omega⟩
 ·have := a10 x hx; omega
 ·have := a12 x hx; omega
/-- A call that is handed what is owned, and keeps it. -/
theorem call_drop {P : Program} {f : FuncId} {args : List Value} {H : Heap} {O O1 O2 : Own} {r : Value} {shp : Shp} {K : List Value → List (List Value) → Heap → Own → Prop} {vs : List Value}
  (hO : O.Perm (O1 ++ O2)) (h : Triple P f args H O1 fun v _ _ => v = r) (ho : shp.open r = some vs) (h1 : Ones vs) (hk : ∀ H' O3, Heap.le H H' → K vs [] H' (O3 ++ O2)) :
  CallD (fun H1 O1 R => Triple P f args H1 O1 R) false [] [] shp K H O := by
 intro _
 refine ⟨H, O1, O2, _, Ghost.perm hO, h, fun v H' O' hr hle => ?_⟩
 subst hr
 exact ⟨vs, [], O', ho, h1, trivial, rfl, hk H' O' hle⟩
end Go.Proofs.YtjaegdkkiefchaaGreatDoor
namespace Go.Proofs.YtjaegdkkiefchaaGreatDoor
open Go Go.Sx
set_option maxRecDepth 100000
set_option maxHeartbeats 1000000
theorem bdS_zero (H : Heap) : BdS H nilV zBd :=
 ⟨Sl.nil H 12, ⟨Sl.nil H 1, Sl.nil H 1, Sl.nil H 1, Sl.nil H 1⟩, ⟨Sl.nil H 1, Sl.nil H 1, Sl.nil H 1, Sl.nil H 1⟩, ⟨[], Sl.nil H 5, rfl, fun i r x h => by simp at h⟩, ⟨[], Sl.nil H 5, rfl, fun i r x h => by simp at h⟩, Sl.nil H 1, Sl.nil H 2⟩
theorem c_gives {H : Heap} {wx vw vf vs : BV12} {x want src was : Bd} {O1 : Own} (hx : OwnB tys wx x O1) (hw : BdS H vw want) (hf : BdS H vf src) (hs : BdS H vs was) (e no : Int) :
  Triple PP F_zeitnotlaw15_gives [.agg (boardC wx x).toArray, iV e, .agg (boardC vw want).toArray, iV no, .agg (boardC vf src).toArray, .agg (boardC vs was).toArray] H O1 fun r _ _ => r = .bool (((x == want) && (e == no)) && (src == was)) := by
 refine run_zeitnotlaw15_gives (vs := boardC wx x ++ ([iV e] ++ (boardC vw want ++ ([iV no] ++ (boardC vf src ++ boardC vs was))))) (by kernel_rfl)
  (ones_app (ownB_ones H hx) (ones_app ⟨rfl, trivial⟩ (ones_app (boardC_ones (hw.r [])) (ones_app ⟨rfl, trivial⟩ (ones_app (boardC_ones (hf.r [])) (boardC_ones (hs.r []))))))) ?_
 simp only [T_zeitnotlaw15_gives]
 refine newbox_den fun r0 => newbox_den fun r1 => newbox_den fun r2 => newbox_den fun r3 => ?_
 repeat (first | refine chkN_den ?_ | refine chkV_den ?_)
 refine call_retO (r_Same (hx.r (fun p hp => hp) H) (hw.r O1)) rfl ⟨rfl, trivial⟩ fun H1 l1 => ?_
 repeat (first | refine chkN_den ?_ | refine chkV_den ?_ | refine newbox_den fun _ => ?_ | refine pure_den _ (lss_eq _ _) ?_ | refine pure_den _ (gtr_eq _ _) ?_ | refine pure_den _ (leq_eq _ _) ?_ | refine pure_den _ (geq_eq _ _) ?_ | refine pure_den _ (eql_eq _ _) ?_ | refine pure_den _ (neq_eq _ _) ?_ | refine pure_den _ (pick_and _ _) ?_ | refine pure_den _ (pick_or _ _) ?_ | refine pure_den _ (not_eq' _) ?_ | refine pure_den _ (beql_eq _ _) ?_ | refine pure_den _ (bneq_eq _ _) ?_)
 refine br_den (fun hb => ?_) (fun hb => ?_)
 ·repeat (first | refine chkN_den ?_ | refine chkV_den ?_)
  refine call_retO (r_Same ((hf.le l1).r O1) ((hs.le l1).r O1)) rfl ⟨rfl, trivial⟩ fun H2 l2 => ?_
  repeat (first | refine chkN_den ?_ | refine chkV_den ?_)
  refine call_drop (O2 := []) (by simp) (c_stain hx) rfl trivial fun H3 O3 l3 => br_den (fun hc => ?_) (fun hc => ?_)
  ·have l := Heap.le_trans l1 (Heap.le_trans l2 l3)
   repeat (first | refine chkN_den ?_ | refine chkV_den ?_)
   refine call_retO (r_Same ((hf.le l).r _) ((hs.le l).r _)) rfl ⟨rfl, trivial⟩ fun H4 l4 => ret_denO ?_
   rw [show ((x == want) && (e == no)) = true from hb, Bool.true_and]; rfl
  ·refine ret_denO ?_
   rw [show (src == was) = false from hc, Bool.and_false]
 ·repeat (first | refine chkN_den ?_ | refine chkV_den ?_)
  refine call_drop (O2 := []) (by simp) (c_stain hx) rfl trivial fun H3 O3 l3 => ret_denO ?_
  rw [show ((x == want) && (e == no)) = false from hb, Bool.false_and]
end Go.Proofs.YtjaegdkkiefchaaGreatDoor
namespace Go.Proofs.YtjaegdkkiefchaaGreatDoor
open Go Go.Sx
set_option maxRecDepth 100000
set_option maxHeartbeats 1000000
theorem Triple.frozenS {P : Program} {f : FuncId} {args : List Value} {H : Heap} {e : TypeId} {size : Nat} {rows : List (List Value)} (h : Triple P f args H [] fun v _ O' => OSl e size v rows O') :
  Triple P f args H [] fun v H' O' => Sl H' size v rows ∧ O' = [] := by
 refine h.ghost ?_
 intro v H' O' _ hc ho
 obtain ⟨H'', g, k, _⟩ := ho.freeze (X := []) (by simpa using hc)
 exact ⟨H'', [], by simpa using g, k, rfl⟩
theorem filter_take {α : Type} {p : α → Bool} {l : List α} {i : Nat} (h : i < l.length) : (l.take (i + 1)).filter p = (l.take i).filter p ++ (if p l[i] then [l[i]] else []) := by
 rw [List.take_add_one, List.getElem?_eq_getElem h, List.filter_append]
 congr 1
 simp only [Option.toList_some, List.filter_cons, List.filter_nil]
theorem countY_denG {P : Program} {lab key : Nat} {x0 : Value} {body : (List Value → Heap → Own → Prop) → List Value → Tree} {H : Heap} {O : Own} {Q : Value → Heap → Own → Prop} (n : Nat) (R : Nat → Value → Heap → Own → Prop)
  (h0 : Cons H O → ∃ H1 O1, Ghost H O H1 O1 ∧ R 0 x0 H1 O1) (step : ∀ i x H' O', i ≤ n → Heap.le H H' → R i x H' O' → (body (Back (IY n R) (MY n) (n - i)) [x, iV i]).den P Q H' O') :
  (Tree.loop lab key [x0, iV 0] body).den P Q H O := by
 refine ⟨IY n R, MY n, fun hc => ?_, ?_⟩
 ·obtain ⟨H1, O1, g, r⟩ := h0 hc
  exact ⟨H1, O1, g, 0, x0, rfl, Nat.zero_le _, r⟩
 ·rintro vs H' O' _ _ hle ⟨i, x, rfl, hi, hr⟩
  exact step i x H' O' hi hle hr
theorem r_Put {H : Heap} {v : BV12} {b : Bd} (h : BdS H v b) (hB : bdB b) (o : Ob) (ho : o.owner = 0 ∨ o.owner = 1) (z : Int) : Triple PP F_zeitnotref15_Put [.agg (boardC v b).toArray, .agg o.row.toArray, iV z] H [] fun r H' O' => (∃ w, r = .agg (boardC w (putB b o.owner z o.id)).toArray ∧ BdS H' w (putB b o.owner z o.id)) ∧ O' = [] := by
 refine run_zeitnotref15_Put (vs := boardC v b ++ (o.row ++ [iV z])) (by kernel_rfl) (ones_app (boardC_ones (h.r [])) (ones_app (ob_ones o) ⟨rfl, trivial⟩)) ?_
 simp only [T_zeitnotref15_Put]
 obtain ⟨b1, ⟨b2, b3, b4, b5⟩, ⟨b6, b7, b8, b9⟩, _⟩ := hB
 refine newbox_den fun r0 => newbox_den fun r1 => newbox_den fun r2 => ?_
 repeat (first | refine chkN_den ?_ | refine chkV_den ?_)
 have el : g (boardC v b ++ (o.row ++ [iV z])) 40 = iV o.owner := rfl
 rw [el]
 rcases ho with ho | ho
 ·rw [ho]
  refine ⟨.i64, 0, rfl, fun _ => ?_, fun e => absurd rfl e⟩
  repeat (first | refine chkN_den ?_ | refine chkV_den ?_)
  refine pure_den _ (eql_eq _ _) (br_den (fun hb => ?_) (fun n0 => ?_))
  ·have hz : z = 0 := by simpa using hb
   subst hz
   repeat (first | refine chkN_den ?_ | refine chkV_den ?_)
   refine app_new (e := Ty_int) (size := 1) (bytes := 8) (by kernel_rfl) h.s0.lib (by simp [ints]; omega) (by simp [ints]; omega) fun xa Oa H1 lA pa => ?_
   refine newbox_den fun r3 => ?_
   repeat (first | refine chkN_den ?_ | refine chkV_den ?_)
   refine call_append (rows := ints b.s0.lib) (news := [[iV o.id]]) (O1 := Oa) (O2 := []) (e := Ty_int) (size := 1) (bytes := 8) (by kernel_rfl) (by simp) pa (fun Hf _ hf => Sl.block1 (hf _ List.mem_cons_self) rfl ⟨rfl, trivial⟩) (by simp [ints]; omega) (by simp [ints]; omega) ?_
   intro v' A' H6 l6 hA'
   have hA2 : OSl Ty_int 1 v' (ints (b.s0.lib ++ [o.id])) A' := by rw [ints, List.map_append]; exact hA'
   repeat (first | refine chkN_den ?_ | refine chkV_den ?_)
   intro hc
   obtain ⟨H9, g9, kz, l9⟩ := hA2.freeze (X := []) (hc.perm (by simp))
   have lz := Heap.le_trans lA (Heap.le_trans l6 l9)
   exact ⟨H9, [], (Ghost.perm (by simp)).trans g9, ⟨{ v with l0 := v' }, rfl, ⟨(h.le lz).objs, ⟨kz, (h.le lz).s0.hand, (h.le lz).s0.field, (h.le lz).s0.grave⟩, (h.le lz).s1, (h.le lz).stack, (h.le lz).queue, (h.le lz).att, (h.le lz).blocks⟩⟩, rfl⟩
  repeat (first | refine chkN_den ?_ | refine chkV_den ?_)
  refine pure_den _ (eql_eq _ _) (br_den (fun hb => ?_) (fun n1 => ?_))
  ·have hz : z = 1 := by simpa using hb
   subst hz
   repeat (first | refine chkN_den ?_ | refine chkV_den ?_)
   refine app_new (e := Ty_int) (size := 1) (bytes := 8) (by kernel_rfl) h.s0.hand (by simp [ints]; omega) (by simp [ints]; omega) fun xa Oa H1 lA pa => ?_
   refine newbox_den fun r3 => ?_
   repeat (first | refine chkN_den ?_ | refine chkV_den ?_)
   refine call_append (rows := ints b.s0.hand) (news := [[iV o.id]]) (O1 := Oa) (O2 := []) (e := Ty_int) (size := 1) (bytes := 8) (by kernel_rfl) (by simp) pa (fun Hf _ hf => Sl.block1 (hf _ List.mem_cons_self) rfl ⟨rfl, trivial⟩) (by simp [ints]; omega) (by simp [ints]; omega) ?_
   intro v' A' H6 l6 hA'
   have hA2 : OSl Ty_int 1 v' (ints (b.s0.hand ++ [o.id])) A' := by rw [ints, List.map_append]; exact hA'
   repeat (first | refine chkN_den ?_ | refine chkV_den ?_)
   intro hc
   obtain ⟨H9, g9, kz, l9⟩ := hA2.freeze (X := []) (hc.perm (by simp))
   have lz := Heap.le_trans lA (Heap.le_trans l6 l9)
   exact ⟨H9, [], (Ghost.perm (by simp)).trans g9, ⟨{ v with h0 := v' }, rfl, ⟨(h.le lz).objs, ⟨(h.le lz).s0.lib, kz, (h.le lz).s0.field, (h.le lz).s0.grave⟩, (h.le lz).s1, (h.le lz).stack, (h.le lz).queue, (h.le lz).att, (h.le lz).blocks⟩⟩, rfl⟩
  repeat (first | refine chkN_den ?_ | refine chkV_den ?_)
  refine pure_den _ (eql_eq _ _) (br_den (fun hb => ?_) (fun n2 => ?_))
  ·have hz : z = 2 := by simpa using hb
   subst hz
   repeat (first | refine chkN_den ?_ | refine chkV_den ?_)
   refine app_new (e := Ty_int) (size := 1) (bytes := 8) (by kernel_rfl) h.s0.field (by simp [ints]; omega) (by simp [ints]; omega) fun xa Oa H1 lA pa => ?_
   refine newbox_den fun r3 => ?_
   repeat (first | refine chkN_den ?_ | refine chkV_den ?_)
   refine call_append (rows := ints b.s0.field) (news := [[iV o.id]]) (O1 := Oa) (O2 := []) (e := Ty_int) (size := 1) (bytes := 8) (by kernel_rfl) (by simp) pa (fun Hf _ hf => Sl.block1 (hf _ List.mem_cons_self) rfl ⟨rfl, trivial⟩) (by simp [ints]; omega) (by simp [ints]; omega) ?_
   intro v' A' H6 l6 hA'
   have hA2 : OSl Ty_int 1 v' (ints (b.s0.field ++ [o.id])) A' := by rw [ints, List.map_append]; exact hA'
   repeat (first | refine chkN_den ?_ | refine chkV_den ?_)
   intro hc
   obtain ⟨H9, g9, kz, l9⟩ := hA2.freeze (X := []) (hc.perm (by simp))
   have lz := Heap.le_trans lA (Heap.le_trans l6 l9)
   exact ⟨H9, [], (Ghost.perm (by simp)).trans g9, ⟨{ v with f0 := v' }, rfl, ⟨(h.le lz).objs, ⟨(h.le lz).s0.lib, (h.le lz).s0.hand, kz, (h.le lz).s0.grave⟩, (h.le lz).s1, (h.le lz).stack, (h.le lz).queue, (h.le lz).att, (h.le lz).blocks⟩⟩, rfl⟩
  repeat (first | refine chkN_den ?_ | refine chkV_den ?_)
  refine pure_den _ (eql_eq _ _) (br_den (fun hb => ?_) (fun n3 => ?_))
  ·have hz : z = 3 := by simpa using hb
   subst hz
   repeat (first | refine chkN_den ?_ | refine chkV_den ?_)
   refine app_new (e := Ty_int) (size := 1) (bytes := 8) (by kernel_rfl) h.s0.grave (by simp [ints]; omega) (by simp [ints]; omega) fun xa Oa H1 lA pa => ?_
   refine newbox_den fun r3 => ?_
   repeat (first | refine chkN_den ?_ | refine chkV_den ?_)
   refine call_append (rows := ints b.s0.grave) (news := [[iV o.id]]) (O1 := Oa) (O2 := []) (e := Ty_int) (size := 1) (bytes := 8) (by kernel_rfl) (by simp) pa (fun Hf _ hf => Sl.block1 (hf _ List.mem_cons_self) rfl ⟨rfl, trivial⟩) (by simp [ints]; omega) (by simp [ints]; omega) ?_
   intro v' A' H6 l6 hA'
   have hA2 : OSl Ty_int 1 v' (ints (b.s0.grave ++ [o.id])) A' := by rw [ints, List.map_append]; exact hA'
   repeat (first | refine chkN_den ?_ | refine chkV_den ?_)
   intro hc
   obtain ⟨H9, g9, kz, l9⟩ := hA2.freeze (X := []) (hc.perm (by simp))
   have lz := Heap.le_trans lA (Heap.le_trans l6 l9)
   exact ⟨H9, [], (Ghost.perm (by simp)).trans g9, ⟨{ v with g0 := v' }, rfl, ⟨(h.le lz).objs, ⟨(h.le lz).s0.lib, (h.le lz).s0.hand, (h.le lz).s0.field, kz⟩, (h.le lz).s1, (h.le lz).stack, (h.le lz).queue, (h.le lz).att, (h.le lz).blocks⟩⟩, rfl⟩
  repeat (first | refine chkN_den ?_ | refine chkV_den ?_)
  have e : putB b 0 z o.id = b := by
   have n0 : ¬ z = 0 := by simpa using n0
   have n1 : ¬ z = 1 := by simpa using n1
   have n2 : ¬ z = 2 := by simpa using n2
   have n3 : ¬ z = 3 := by simpa using n3
   simp only [putB, putZ, n0, n1, n2, n3, if_false]
   rfl
  rw [e]
  exact ret_denO ⟨⟨v, rfl, h⟩, rfl⟩
 ·rw [ho]
  refine ⟨.i64, 1, rfl, fun e => absurd e (by omega), fun _ => ⟨.i64, 1, rfl, fun _ => ?_, fun e => absurd rfl e⟩⟩
  repeat (first | refine chkN_den ?_ | refine chkV_den ?_)
  refine pure_den _ (eql_eq _ _) (br_den (fun hb => ?_) (fun n0 => ?_))
  ·have hz : z = 0 := by simpa using hb
   subst hz
   repeat (first | refine chkN_den ?_ | refine chkV_den ?_)
   refine app_new (e := Ty_int) (size := 1) (bytes := 8) (by kernel_rfl) h.s1.lib (by simp [ints]; omega) (by simp [ints]; omega) fun xa Oa H1 lA pa => ?_
   refine newbox_den fun r3 => ?_
   repeat (first | refine chkN_den ?_ | refine chkV_den ?_)
   refine call_append (rows := ints b.s1.lib) (news := [[iV o.id]]) (O1 := Oa) (O2 := []) (e := Ty_int) (size := 1) (bytes := 8) (by kernel_rfl) (by simp) pa (fun Hf _ hf => Sl.block1 (hf _ List.mem_cons_self) rfl ⟨rfl, trivial⟩) (by simp [ints]; omega) (by simp [ints]; omega) ?_
   intro v' A' H6 l6 hA'
   have hA2 : OSl Ty_int 1 v' (ints (b.s1.lib ++ [o.id])) A' := by rw [ints, List.map_append]; exact hA'
   repeat (first | refine chkN_den ?_ | refine chkV_den ?_)
   intro hc
   obtain ⟨H9, g9, kz, l9⟩ := hA2.freeze (X := []) (hc.perm (by simp))
   have lz := Heap.le_trans lA (Heap.le_trans l6 l9)
   exact ⟨H9, [], (Ghost.perm (by simp)).trans g9, ⟨{ v with l1 := v' }, rfl, ⟨(h.le lz).objs, (h.le lz).s0, ⟨kz, (h.le lz).s1.hand, (h.le lz).s1.field, (h.le lz).s1.grave⟩, (h.le lz).stack, (h.le lz).queue, (h.le lz).att, (h.le lz).blocks⟩⟩, rfl⟩
  repeat (first | refine chkN_den ?_ | refine chkV_den ?_)
  refine pure_den _ (eql_eq _ _) (br_den (fun hb => ?_) (fun n1 => ?_))
  ·have hz : z = 1 := by simpa using hb
   subst hz
   repeat (first | refine chkN_den ?_ | refine chkV_den ?_)
   refine app_new (e := Ty_int) (size := 1) (bytes := 8) (by kernel_rfl) h.s1.hand (by simp [ints]; omega) (by simp [ints]; omega) fun xa Oa H1 lA pa => ?_
   refine newbox_den fun r3 => ?_
   repeat (first | refine chkN_den ?_ | refine chkV_den ?_)
   refine call_append (rows := ints b.s1.hand) (news := [[iV o.id]]) (O1 := Oa) (O2 := []) (e := Ty_int) (size := 1) (bytes := 8) (by kernel_rfl) (by simp) pa (fun Hf _ hf => Sl.block1 (hf _ List.mem_cons_self) rfl ⟨rfl, trivial⟩) (by simp [ints]; omega) (by simp [ints]; omega) ?_
   intro v' A' H6 l6 hA'
   have hA2 : OSl Ty_int 1 v' (ints (b.s1.hand ++ [o.id])) A' := by rw [ints, List.map_append]; exact hA'
   repeat (first | refine chkN_den ?_ | refine chkV_den ?_)
   intro hc
   obtain ⟨H9, g9, kz, l9⟩ := hA2.freeze (X := []) (hc.perm (by simp))
   have lz := Heap.le_trans lA (Heap.le_trans l6 l9)
   exact ⟨H9, [], (Ghost.perm (by simp)).trans g9, ⟨{ v with h1 := v' }, rfl, ⟨(h.le lz).objs, (h.le lz).s0, ⟨(h.le lz).s1.lib, kz, (h.le lz).s1.field, (h.le lz).s1.grave⟩, (h.le lz).stack, (h.le lz).queue, (h.le lz).att, (h.le lz).blocks⟩⟩, rfl⟩
  repeat (first | refine chkN_den ?_ | refine chkV_den ?_)
  refine pure_den _ (eql_eq _ _) (br_den (fun hb => ?_) (fun n2 => ?_))
  ·have hz : z = 2 := by simpa using hb
   subst hz
   repeat (first | refine chkN_den ?_ | refine chkV_den ?_)
   refine app_new (e := Ty_int) (size := 1) (bytes := 8) (by kernel_rfl) h.s1.field (by simp [ints]; omega) (by simp [ints]; omega) fun xa Oa H1 lA pa => ?_
   refine newbox_den fun r3 => ?_
   repeat (first | refine chkN_den ?_ | refine chkV_den ?_)
   refine call_append (rows := ints b.s1.field) (news := [[iV o.id]]) (O1 := Oa) (O2 := []) (e := Ty_int) (size := 1) (bytes := 8) (by kernel_rfl) (by simp) pa (fun Hf _ hf => Sl.block1 (hf _ List.mem_cons_self) rfl ⟨rfl, trivial⟩) (by simp [ints]; omega) (by simp [ints]; omega) ?_
   intro v' A' H6 l6 hA'
   have hA2 : OSl Ty_int 1 v' (ints (b.s1.field ++ [o.id])) A' := by rw [ints, List.map_append]; exact hA'
   repeat (first | refine chkN_den ?_ | refine chkV_den ?_)
   intro hc
   obtain ⟨H9, g9, kz, l9⟩ := hA2.freeze (X := []) (hc.perm (by simp))
   have lz := Heap.le_trans lA (Heap.le_trans l6 l9)
   exact ⟨H9, [], (Ghost.perm (by simp)).trans g9, ⟨{ v with f1 := v' }, rfl, ⟨(h.le lz).objs, (h.le lz).s0, ⟨(h.le lz).s1.lib, (h.le lz).s1.hand, kz, (h.le lz).s1.grave⟩, (h.le lz).stack, (h.le lz).queue, (h.le lz).att, (h.le lz).blocks⟩⟩, rfl⟩
  repeat (first | refine chkN_den ?_ | refine chkV_den ?_)
  refine pure_den _ (eql_eq _ _) (br_den (fun hb => ?_) (fun n3 => ?_))
  ·have hz : z = 3 := by simpa using hb
   subst hz
   repeat (first | refine chkN_den ?_ | refine chkV_den ?_)
   refine app_new (e := Ty_int) (size := 1) (bytes := 8) (by kernel_rfl) h.s1.grave (by simp [ints]; omega) (by simp [ints]; omega) fun xa Oa H1 lA pa => ?_
   refine newbox_den fun r3 => ?_
   repeat (first | refine chkN_den ?_ | refine chkV_den ?_)
   refine call_append (rows := ints b.s1.grave) (news := [[iV o.id]]) (O1 := Oa) (O2 := []) (e := Ty_int) (size := 1) (bytes := 8) (by kernel_rfl) (by simp) pa (fun Hf _ hf => Sl.block1 (hf _ List.mem_cons_self) rfl ⟨rfl, trivial⟩) (by simp [ints]; omega) (by simp [ints]; omega) ?_
   intro v' A' H6 l6 hA'
   have hA2 : OSl Ty_int 1 v' (ints (b.s1.grave ++ [o.id])) A' := by rw [ints, List.map_append]; exact hA'
   repeat (first | refine chkN_den ?_ | refine chkV_den ?_)
   intro hc
   obtain ⟨H9, g9, kz, l9⟩ := hA2.freeze (X := []) (hc.perm (by simp))
   have lz := Heap.le_trans lA (Heap.le_trans l6 l9)
   exact ⟨H9, [], (Ghost.perm (by simp)).trans g9, ⟨{ v with g1 := v' }, rfl, ⟨(h.le lz).objs, (h.le lz).s0, ⟨(h.le lz).s1.lib, (h.le lz).s1.hand, (h.le lz).s1.field, kz⟩, (h.le lz).stack, (h.le lz).queue, (h.le lz).att, (h.le lz).blocks⟩⟩, rfl⟩
  repeat (first | refine chkN_den ?_ | refine chkV_den ?_)
  have e : putB b 1 z o.id = b := by
   have n0 : ¬ z = 0 := by simpa using n0
   have n1 : ¬ z = 1 := by simpa using n1
   have n2 : ¬ z = 2 := by simpa using n2
   have n3 : ¬ z = 3 := by simpa using n3
   simp only [putB, putZ, n0, n1, n2, n3, if_false]
   rfl
  rw [e]
  exact ret_denO ⟨⟨v, rfl, h⟩, rfl⟩
end Go.Proofs.YtjaegdkkiefchaaGreatDoor
namespace Go.Proofs.YtjaegdkkiefchaaGreatDoor
open Go Go.Sx
set_option maxRecDepth 100000
set_option maxHeartbeats 1000000
end Go.Proofs.YtjaegdkkiefchaaGreatDoor
namespace Go.Proofs.YtjaegdkkiefchaaGreatDoor
open Go Go.Sx
set_option maxRecDepth 100000
set_option maxHeartbeats 1000000
end Go.Proofs.YtjaegdkkiefchaaGreatDoor
namespace Go.Proofs.YtjaegdkkiefchaaGreatDoor
open Go Go.Sx
set_option maxRecDepth 100000
set_option maxHeartbeats 1000000
theorem look_den {H : Heap} {O : Own} {v : Value} {ks : List Int} (h : KindS H v ks) (c : Int) :
  (∃ x : Bool, (x = true ↔ (c < 0 ∨ c ≥ (ks.length : Int))) ∧ evalPure .len [v] = some (iV ks.length) ∧ x = (decide (c < 0) || decide (c ≥ (ks.length : Int)))) ∧
  (¬ (c < 0 ∨ c ≥ (ks.length : Int)) → ∃ a r, evalPure (.idx 14) [v, iV c] = some (.pointer (some a)) ∧ H.read (.pointer (some a)) 14 = some r ∧ r.length = 14 ∧ Ones r ∧ g r 1 = iV (kindAt ks c)) := by
 obtain ⟨rows, h1, h2, h3⟩ := h
 refine ⟨⟨_, ?_, ?_, rfl⟩, fun hn => ?_⟩
 ·simp
 ·have := h1.len; rw [this, h2]
 ·have hlt : c.toNat < rows.length := by omega
  obtain ⟨a, k1, k2, k3, k4⟩ := h1.idx (k := .i64) (i := c.toNat) (List.getElem?_eq_getElem hlt)
  have hk : ks[c.toNat]? = some (ks.getD c.toNat 0) := by
   rw [List.getD_eq_getElem?_getD, List.getElem?_eq_getElem (by omega)]; rfl
  have e := h3 c.toNat _ _ (List.getElem?_eq_getElem hlt) hk
  refine ⟨a, _, ?_, k2, k3, k4, ?_⟩
  ·rw [show iV c = iV (c.toNat : Int) by rw [Int.toNat_of_nonneg (by omega)]]; exact k1
  ·rw [e, kindAt, if_neg hn]
theorem row14 {r : List Value} (h : r.length = 14) : ([g r 0, g r 1, g r 2, g r 3, g r 4, g r 5, g r 6, g r 7, g r 8, g r 9, g r 10, g r 11, g r 12, g r 13] : List Value) = r := row_eq h
abbrev zCard : List Value := [.string ⟨#[]⟩, iV 0, iV 0, iV 0, iV 0, iV 0, iV 0, iV 0, iV 0, iV 0, iV 0, .slice none 0 0, .slice none 0 0, iV 0]
def LookR (ks : List Int) (c : Int) (r : Value) (_ : Heap) : Prop := ∃ cells : List Value, r = .agg cells.toArray ∧ cells.length = 14 ∧ Ones cells ∧ g cells 1 = iV (kindAt ks c)
theorem c_look {H : Heap} {O : Own} {v : Value} {ks : List Int} (h : KindS H v ks) (o : Ob) : Triple PP F_object_look [v, .agg o.row.toArray] H O fun r H' O' => LookR ks o.card r H' ∧ O' = O := by
 refine run_object_look (vs := v :: o.row) (by kernel_rfl) ⟨h.one, ob_ones o⟩ ?_
 simp only [T_object_look]
 obtain ⟨⟨x, hx, hlen, ex⟩, hlook⟩ := look_den (O := O) h o.card
 refine newbox_den fun r0 => newbox_den fun r1 => ?_
 repeat (first | refine chkN_den ?_ | refine chkV_den ?_)
 refine pure_den _ (lss_eq _ _) ?_
 repeat (first | refine chkN_den ?_ | refine chkV_den ?_)
 refine pure_den _ hlen ?_
 repeat (first | refine chkN_den ?_ | refine chkV_den ?_ | refine newbox_den fun _ => ?_ | refine pure_den _ (lss_eq _ _) ?_ | refine pure_den _ (gtr_eq _ _) ?_ | refine pure_den _ (leq_eq _ _) ?_ | refine pure_den _ (geq_eq _ _) ?_ | refine pure_den _ (eql_eq _ _) ?_ | refine pure_den _ (neq_eq _ _) ?_ | refine pure_den _ (pick_and _ _) ?_ | refine pure_den _ (pick_or _ _) ?_ | refine pure_den _ (not_eq' _) ?_ | refine pure_den _ (beql_eq _ _) ?_ | refine pure_den _ (bneq_eq _ _) ?_)
 refine br_den (fun hb => ?_) (fun hb => ?_)
 ·have hb : (decide (o.card < 0) || decide (o.card ≥ (ks.length : Int))) = true := hb
  rw [← ex] at hb
  repeat (first | refine chkN_den ?_ | refine chkV_den ?_)
  refine ret_denO ⟨⟨zCard, rfl, rfl, ⟨rfl, rfl, rfl, rfl, rfl, rfl, rfl, rfl, rfl, rfl, rfl, rfl, rfl, rfl, trivial⟩, ?_⟩, rfl⟩
  rw [kindAt, if_pos (hx.1 hb)]; rfl
 ·have hb : (decide (o.card < 0) || decide (o.card ≥ (ks.length : Int))) = false := hb
  rw [← ex] at hb
  obtain ⟨a, r, k1, k2, k3, k4, k5⟩ := hlook (fun e => by rw [hx.2 e] at hb; cases hb)
  repeat (first | refine chkN_den ?_ | refine chkV_den ?_)
  refine pure_den _ k1 (load_denR (reads_frozen k2) k3 k4 ?_)
  repeat (first | refine chkN_den ?_ | refine chkV_den ?_)
  exact ret_denO ⟨⟨r, by rw [← row14 k3]; rfl, k3, k4, k5⟩, rfl⟩
theorem r_Card {H : Heap} {O : Own} {v : Value} {ks : List Int} (h : KindS H v ks) (o : Ob) : Triple PP F_zeitnotref14_Card [v, .agg o.row.toArray] H O fun r H' O' => LookR ks o.card r H' ∧ O' = O := by
 refine run_zeitnotref14_Card (vs := v :: o.row) (by kernel_rfl) ⟨h.one, ob_ones o⟩ ?_
 simp only [T_zeitnotref14_Card]
 obtain ⟨⟨x, hx, hlen, ex⟩, hlook⟩ := look_den (O := O) h o.card
 refine newbox_den fun r0 => newbox_den fun r1 => ?_
 repeat (first | refine chkN_den ?_ | refine chkV_den ?_)
 refine pure_den _ (lss_eq _ _) ?_
 repeat (first | refine chkN_den ?_ | refine chkV_den ?_)
 refine pure_den _ hlen ?_
 repeat (first | refine chkN_den ?_ | refine chkV_den ?_ | refine newbox_den fun _ => ?_ | refine pure_den _ (lss_eq _ _) ?_ | refine pure_den _ (gtr_eq _ _) ?_ | refine pure_den _ (leq_eq _ _) ?_ | refine pure_den _ (geq_eq _ _) ?_ | refine pure_den _ (eql_eq _ _) ?_ | refine pure_den _ (neq_eq _ _) ?_ | refine pure_den _ (pick_and _ _) ?_ | refine pure_den _ (pick_or _ _) ?_ | refine pure_den _ (not_eq' _) ?_ | refine pure_den _ (beql_eq _ _) ?_ | refine pure_den _ (bneq_eq _ _) ?_)
 refine br_den (fun hb => ?_) (fun hb => ?_)
 ·have hb : (decide (o.card < 0) || decide (o.card ≥ (ks.length : Int))) = true := hb
  rw [← ex] at hb
  repeat (first | refine chkN_den ?_ | refine chkV_den ?_)
  refine ret_denO ⟨⟨zCard, rfl, rfl, ⟨rfl, rfl, rfl, rfl, rfl, rfl, rfl, rfl, rfl, rfl, rfl, rfl, rfl, rfl, trivial⟩, ?_⟩, rfl⟩
  rw [kindAt, if_pos (hx.1 hb)]; rfl
 ·have hb : (decide (o.card < 0) || decide (o.card ≥ (ks.length : Int))) = false := hb
  rw [← ex] at hb
  obtain ⟨a, r, k1, k2, k3, k4, k5⟩ := hlook (fun e => by rw [hx.2 e] at hb; cases hb)
  repeat (first | refine chkN_den ?_ | refine chkV_den ?_)
  refine pure_den _ k1 (load_denR (reads_frozen k2) k3 k4 ?_)
  repeat (first | refine chkN_den ?_ | refine chkV_den ?_)
  exact ret_denO ⟨⟨r, by rw [← row14 k3]; rfl, k3, k4, k5⟩, rfl⟩
theorem c_Creature {H : Heap} {O : Own} {v : Value} {ks : List Int} (h : KindS H v ks) (o : Ob) : RetO PP F_object_Creature [v, .agg o.row.toArray] H O (.bool (creatB ks o)) := by
 refine run_object_Creature (vs := v :: o.row) (by kernel_rfl) ⟨h.one, ob_ones o⟩ ?_
 simp only [T_object_Creature]
 refine newbox_den fun r0 => ?_
 repeat (first | refine chkN_den ?_ | refine chkV_den ?_)
 refine pure_den _ (eql_eq _ _) (br_den (fun hb => ret_denO ⟨?_, rfl⟩) (fun hb => ?_))
 ·have hb : (o.card == -1) = true := hb
  rw [creatB, hb]; rfl
 ·have hb : (o.card == -1) = false := hb
  repeat (first | refine chkN_den ?_ | refine chkV_den ?_)
  refine call_givesO (c_look h o) ?_
  rintro _ H1 ⟨cells, rfl, k1, k2, k3⟩ l1
  refine ⟨cells, by simp [Shp.open, k1], k2, ?_⟩
  dsimp only
  rw [k3]
  repeat (first | refine chkN_den ?_ | refine chkV_den ?_ | refine newbox_den fun _ => ?_ | refine pure_den _ (lss_eq _ _) ?_ | refine pure_den _ (gtr_eq _ _) ?_ | refine pure_den _ (leq_eq _ _) ?_ | refine pure_den _ (geq_eq _ _) ?_ | refine pure_den _ (eql_eq _ _) ?_ | refine pure_den _ (neq_eq _ _) ?_ | refine pure_den _ (pick_and _ _) ?_ | refine pure_den _ (pick_or _ _) ?_ | refine pure_den _ (not_eq' _) ?_ | refine pure_den _ (beql_eq _ _) ?_ | refine pure_den _ (bneq_eq _ _) ?_)
  refine ret_denO ⟨?_, rfl⟩
  rw [creatB, hb]; rfl
theorem r_Creature {H : Heap} {O : Own} {v : Value} {ks : List Int} (h : KindS H v ks) (o : Ob) : RetO PP F_zeitnotref14_Creature [v, .agg o.row.toArray] H O (.bool (creatB ks o)) := by
 refine run_zeitnotref14_Creature (vs := v :: o.row) (by kernel_rfl) ⟨h.one, ob_ones o⟩ ?_
 simp only [T_zeitnotref14_Creature]
 refine newbox_den fun r0 => ?_
 repeat (first | refine chkN_den ?_ | refine chkV_den ?_)
 refine pure_den _ (eql_eq _ _) (br_den (fun hb => ret_denO ⟨?_, rfl⟩) (fun hb => ?_))
 ·have hb : (o.card == -1) = true := hb
  rw [creatB, hb]; rfl
 ·have hb : (o.card == -1) = false := hb
  repeat (first | refine chkN_den ?_ | refine chkV_den ?_)
  refine call_givesO (r_Card h o) ?_
  rintro _ H1 ⟨cells, rfl, k1, k2, k3⟩ l1
  refine ⟨cells, by simp [Shp.open, k1], k2, ?_⟩
  dsimp only
  rw [k3]
  repeat (first | refine chkN_den ?_ | refine chkV_den ?_ | refine newbox_den fun _ => ?_ | refine pure_den _ (lss_eq _ _) ?_ | refine pure_den _ (gtr_eq _ _) ?_ | refine pure_den _ (leq_eq _ _) ?_ | refine pure_den _ (geq_eq _ _) ?_ | refine pure_den _ (eql_eq _ _) ?_ | refine pure_den _ (neq_eq _ _) ?_ | refine pure_den _ (pick_and _ _) ?_ | refine pure_den _ (pick_or _ _) ?_ | refine pure_den _ (not_eq' _) ?_ | refine pure_den _ (beql_eq _ _) ?_ | refine pure_den _ (bneq_eq _ _) ?_)
  refine ret_denO ⟨?_, rfl⟩
  rw [creatB, hb]; rfl
def isCr (ks : List Int) (b : Bd) (p : Int) (o : Ob) : Bool := o.owner == p && (creatB ks o && (seatOf b p).field.contains o.id)
/-- The creatures of a player, as the program says. -/
def creatP (ks : List Int) (b : Bd) (p : Int) : List Int := if (withinB p 0 1 && validBd b) = true then (b.objs.filter (isCr ks b p)).map (·.id) else []
theorem c_CreaturesO {H : Heap} {cv : Value} {ks : List Int} (hk : KindS H cv ks) {v : BV12} {b : Bd} (h : BdS H v b) (p : Int) :
  Triple PP F_board_Creatures [cv, .agg (boardC v b).toArray, iV p] H [] fun r _ O' => OSl Ty_int 1 r (ints (creatP ks b p)) O' := by
 refine run_board_Creatures (vs := cv :: (boardC v b ++ [iV p])) (by kernel_rfl) ⟨hk.one, ones_app (boardC_ones (h.r [])) ⟨rfl, trivial⟩⟩ ?_
 simp only [T_board_Creatures]
 refine newbox_den fun r0 => ?_
 repeat (first | refine chkN_den ?_ | refine chkV_den ?_)
 refine call_retO (c_within p 0 1 H []) rfl ⟨rfl, trivial⟩ fun H1 l1 => pure_den _ (not_eq' _) (br_den (fun hb => ?_) (fun hb => ?_))
 ·have e : creatP ks b p = [] := by rw [creatP, if_neg]; rw [show withinB p 0 1 = false from notT hb]; simp
  rw [e]
  repeat (first | refine chkN_den ?_ | refine chkV_den ?_)
  exact ret_denO (OSl.nil _ _)
 have hw : withinB p 0 1 = true := notF hb
 replace h := h.le l1
 replace hk := hk.le l1
 repeat (first | refine chkN_den ?_ | refine chkV_den ?_)
 refine call_retO (c_board_Valid (h.r [])) rfl ⟨rfl, trivial⟩ fun H2 l2 => pure_den _ (not_eq' _) (br_den (fun hb => ?_) (fun hb => ?_))
 ·have e : creatP ks b p = [] := by rw [creatP, if_neg]; rw [show validBd b = false from notT hb]; simp
  rw [e]
  repeat (first | refine chkN_den ?_ | refine chkV_den ?_)
  exact ret_denO (OSl.nil _ _)
 have hv : validBd b = true := notF hb
 have hobl := valid_len hv
 have e : creatP ks b p = (b.objs.filter (isCr ks b p)).map (·.id) := by rw [creatP, if_pos (by rw [hw, hv]; rfl)]
 rw [e]
 clear hb e
 replace h := h.le l2
 replace hk := hk.le l2
 have lo := h.objs.len
 rw [List.length_map] at lo
 have hp : p = 0 ∨ p = 1 := by simp only [withinB, decide_eq_true_eq] at hw; omega
 repeat (first | refine chkN_den ?_ | refine chkV_den ?_)
 refine pure_den _ lo ?_
 repeat (first | refine chkN_den ?_ | refine chkV_den ?_)
 refine countY_den b.objs.length (fun i x H' O' => Heap.le H2 H' ∧ OSl Ty_int 1 x (ints (((b.objs.take i).filter (isCr ks b p)).map (·.id))) O') ⟨Heap.le_refl _, OSl.nil _ _⟩ ?_
 rintro i x H' O' hi - ⟨hle, hx⟩
 refine pure_den _ (lss_eq _ _) (br_den (fun hb => ?_) (fun hb => ?_))
 ·have hlt : i < b.objs.length := by simpa using hb
  obtain ⟨a, i1, i2, i3, i4⟩ := (h.objs.le hle).idx (k := .i64) (i := i) (r := Ob.row b.objs[i]) (by simp [hlt])
  have hft := filter_take (p := isCr ks b p) hlt
  have hnot : isCr ks b p b.objs[i] = false → ∀ H3, Heap.le H' H3 → (Heap.le H2 H3 ∧ OSl Ty_int 1 x (ints (((b.objs.take (i + 1)).filter (isCr ks b p)).map (·.id))) O') := fun hn H3 l3 => by
   rw [hft, if_neg (by rw [hn]; simp), List.append_nil]; exact ⟨Heap.le_trans hle l3, hx⟩
  repeat (first | refine chkN_den ?_ | refine chkV_den ?_)
  refine pure_den _ i1 (load_den i2 i3 i4 (newbox_den fun r1 => ?_))
  repeat (first | refine chkN_den ?_ | refine chkV_den ?_)
  refine pure_den _ (eql_eq _ _) ?_
  refine br_den (fun h1 => ?_) (fun h1 => ?_)
  ·have h1 : (b.objs[i].owner == p) = true := h1
   repeat (first | refine chkN_den ?_ | refine chkV_den ?_)
   refine call_retO (c_Creature (hk.le hle) b.objs[i]) rfl ⟨rfl, trivial⟩ fun H3 l3 => br_den (fun h2 => ?_) (fun h2 => ?_)
   ·have lz := Heap.le_trans hle l3
    repeat (first | refine chkN_den ?_ | refine chkV_den ?_)
    rcases hp with rfl | rfl
    ·refine ⟨.i64, 0, rfl, fun _ => ?_, fun e => absurd rfl e⟩
     repeat (first | refine chkN_den ?_ | refine chkV_den ?_)
     refine call_retO (c_Contains_int (((h.s0.field).le lz).rsl O') b.objs[i].id) rfl ⟨rfl, trivial⟩ fun H4 l4 => br_den (fun h3 => ?_) (fun h3 => ?_)
     ·have hcr : isCr ks b 0 b.objs[i] = true := by rw [isCr, h1, h2]; exact h3
      have hlen : ((b.objs.take i).filter (isCr ks b 0)).length ≤ 1000000 := Nat.le_trans (List.length_filter_le _ _) (by rw [List.length_take]; omega)
      repeat (first | refine chkN_den ?_ | refine chkV_den ?_)
      refine newbox_den fun r2 => ?_
      repeat (first | refine chkN_den ?_ | refine chkV_den ?_)
      refine call_append (rows := ints (((b.objs.take i).filter (isCr ks b 0)).map fun o : Ob => o.id)) (news := [[iV b.objs[i].id]]) (O1 := O') (O2 := []) (e := Ty_int) (size := 1) (bytes := 8) (by kernel_rfl) (by simp) hx (fun Hf _ hf => Sl.block1 (hf _ List.mem_cons_self) rfl ⟨rfl, trivial⟩) (by simp [ints]; omega) (by simp [ints]; omega) ?_
      intro v' A' H6 l6 hA'
      refine pure_den _ (add_one (by omega)) (countY_cont (by simp [Eqs]) hlt ⟨Heap.le_trans lz (Heap.le_trans l4 l6), ?_⟩)
      rw [List.append_nil, hft, if_pos hcr, List.map_append, ints, List.map_append]; exact hA'
     ·have hcr : isCr ks b 0 b.objs[i] = false := by rw [isCr, h1, h2]; exact h3
      repeat (first | refine chkN_den ?_ | refine chkV_den ?_)
      exact pure_den _ (add_one (by omega)) (countY_cont (by simp [Eqs]) hlt (hnot hcr _ (Heap.le_trans l3 l4)))
    ·refine ⟨.i64, 1, rfl, fun e => absurd e (by omega), fun _ => ⟨.i64, 1, rfl, fun _ => ?_, fun e => absurd rfl e⟩⟩
     repeat (first | refine chkN_den ?_ | refine chkV_den ?_)
     refine call_retO (c_Contains_int (((h.s1.field).le lz).rsl O') b.objs[i].id) rfl ⟨rfl, trivial⟩ fun H4 l4 => br_den (fun h3 => ?_) (fun h3 => ?_)
     ·have hcr : isCr ks b 1 b.objs[i] = true := by rw [isCr, h1, h2]; exact h3
      have hlen : ((b.objs.take i).filter (isCr ks b 1)).length ≤ 1000000 := Nat.le_trans (List.length_filter_le _ _) (by rw [List.length_take]; omega)
      repeat (first | refine chkN_den ?_ | refine chkV_den ?_)
      refine newbox_den fun r2 => ?_
      repeat (first | refine chkN_den ?_ | refine chkV_den ?_)
      refine call_append (rows := ints (((b.objs.take i).filter (isCr ks b 1)).map fun o : Ob => o.id)) (news := [[iV b.objs[i].id]]) (O1 := O') (O2 := []) (e := Ty_int) (size := 1) (bytes := 8) (by kernel_rfl) (by simp) hx (fun Hf _ hf => Sl.block1 (hf _ List.mem_cons_self) rfl ⟨rfl, trivial⟩) (by simp [ints]; omega) (by simp [ints]; omega) ?_
      intro v' A' H6 l6 hA'
      refine pure_den _ (add_one (by omega)) (countY_cont (by simp [Eqs]) hlt ⟨Heap.le_trans lz (Heap.le_trans l4 l6), ?_⟩)
      rw [List.append_nil, hft, if_pos hcr, List.map_append, ints, List.map_append]; exact hA'
     ·have hcr : isCr ks b 1 b.objs[i] = false := by rw [isCr, h1, h2]; exact h3
      repeat (first | refine chkN_den ?_ | refine chkV_den ?_)
      exact pure_den _ (add_one (by omega)) (countY_cont (by simp [Eqs]) hlt (hnot hcr _ (Heap.le_trans l3 l4)))
   ·have hcr : isCr ks b p b.objs[i] = false := by rw [isCr, h1, h2]; rfl
    repeat (first | refine chkN_den ?_ | refine chkV_den ?_)
    exact pure_den _ (add_one (by omega)) (countY_cont (by simp [Eqs]) hlt (hnot hcr _ l3))
  ·have h1 : (b.objs[i].owner == p) = false := h1
   have hcr : isCr ks b p b.objs[i] = false := by rw [isCr, h1]; rfl
   repeat (first | refine chkN_den ?_ | refine chkV_den ?_)
   exact pure_den _ (add_one (by omega)) (countY_cont (by simp [Eqs]) hlt (hnot hcr _ (Heap.le_refl _)))
 ·have hge : b.objs.length ≤ i := by simpa using hb
  rw [List.take_of_length_le hge] at hx
  exact ret_denO hx
theorem c_Creatures {H : Heap} {cv : Value} {ks : List Int} (hk : KindS H cv ks) {v : BV12} {b : Bd} (h : BdS H v b) (p : Int) :
  Triple PP F_board_Creatures [cv, .agg (boardC v b).toArray, iV p] H [] fun r H' O' => Sl H' 1 r (ints (creatP ks b p)) ∧ O' = [] := Triple.frozenS (c_CreaturesO hk h p)
end Go.Proofs.YtjaegdkkiefchaaGreatDoor
namespace Go.Sx
open Go
theorem sl_src {P : Program} {t e : TypeId} (hu : P.underlying t = some (.slice e)) {size : Nat} (h0 : 0 < size) {H : Heap} {x : Value} {news : List (List Value)} (hs : Sl H size x news) {w : World} {O : Own} (hm : Models w H O) :
  Src P size t x news.length news.flatten w ∧ news.flatten.length = news.length * size ∧ (∀ row ∈ news, row.length = size) ∧ ∀ row ∈ news, Ones row := by
 obtain ⟨xa, cap, rfl, h1, h2, h3⟩ := hs
 by_cases hne : news = []
 ·subst hne
  refine ⟨?_, by simp, by simp, by simp⟩
  cases xa with
  | none => exact Src.ofNil w hu cap
  | some ad => exact Src.ofSlice w hu ad 0 cap [] (by simp) (fun j u h => by simp at h) (by simp)
 ·obtain ⟨a, rfl, hA⟩ := h3 hne
  obtain ⟨hnl, hcells⟩ := src_cells (H := H) h0 (fun _ => hA) hm
  have hfl := flatten_len fun r hr => (hnl r hr).1
  refine ⟨Src.ofSlice w hu a _ cap _ hfl hcells fun u hu' => ?_, hfl, fun r hr => (hnl r hr).1, fun r hr => (hnl r hr).2⟩
  obtain ⟨r, hr, hur⟩ := List.mem_flatten.1 hu'
  exact ones_mem (hnl r hr).2 u hur
theorem grow_run2 {P : Program} {t tx ty e : TypeId} {i : TypeInfo} {z : Value} {size : Nat} (ht : P.underlying t = some (.slice e)) (hi : P.info? e = some i) (hz : i.zero = some z) (hsz : i.size = size) (hzs : z.cells.size = size) (hby : bytesOf P e = i.bytes) {w : World}
  {base : Option Addr} {len cap m : Nat} {olds news : List Value} {x : Value} (hold : (Builtin.firstCells i.size len (.slice base len cap)).run P w.drew = .ok olds.toArray w.drew) (hs : Src P size tx x m news w)
  (hg : cap < len + m) (hb : (len + m) * bytesOf P e ≤ 140737488355328) (h63 : len + m < 2 ^ 63) :
  ∃ zs cc, zs.length = cc * size ∧ cc + (len + m) < 2 ^ 63 ∧ (Builtin.append_ #[t, tx] ty #[.slice base len cap, x]).run P w = .ok (.slice (some ⟨w.heap.size, 0, none⟩) (len + m) (cc + (len + m))) (w.drew.alloc (.cells (olds ++ news ++ zs).toArray e)) := by
 subst hsz
 have hge := grownCap_ge w (len + m) cap e
 have hle := grownCap_le_maxLen w (len + m) cap e (by unfold maxLen; omega)
 unfold maxLen at hle
 refine ⟨(Builtin.zeroCells z.cells (grownCap w (len + m) cap e - (len + m))).toList, grownCap w (len + m) cap e - (len + m), ?_, by omega, ?_⟩
 ·rw [Array.length_toList, size_zeroCells, hzs]
 ·rw [run_append_grow_src (P := P) w t tx ty e i z ht hi hz base len cap olds hold x m news hs hg (by omega) (growslice_fits hg (by rw [← hby]; exact hb))]
  have e1 : grownCap w (len + m) cap e - (len + m) + (len + m) = grownCap w (len + m) cap e := by omega
  rw [e1]
  congr 3
  apply Array.ext'
  simp
/-- append to a frozen slice that is full. -/
theorem append_frz {P : Program} {t ty e : TypeId} {size : Nat} (ha : appOk' P t e size = true) {ad : Addr} {rows news : List (List Value)} {x : Value} {H : Heap} (hr : Sl H size (.slice (some ad) rows.length rows.length) rows) (hx : Sl H size x news)
  (hb : (rows.length + news.length) * bytesOf P e ≤ 140737488355328) (h63 : rows.length + news.length < 2 ^ 63) :
  OpTriple P ((PrimOp.bi .append #[t, t] ty).sem [.slice (some ad) rows.length rows.length, x]) H [] fun v' H' O' => O' = [] ∧ Heap.le H H' ∧ Sl H' size v' (rows ++ news) := by
 obtain ⟨hu, i, z, hi, hsz, hz, hzs, h0, hby⟩ := appOk_spec ha
 intro w F hm
 simp only [List.nil_append] at hm
 obtain ⟨src, s1, s2, s3⟩ := sl_src hu h0 hx hm
 by_cases hne : news = []
 ·subst hne
  have hs' : Src P i.size t x 0 [] w := by rw [hsz]; exact src
  have hrun := run_append_no (ty := ty) hu hi (base := some ad) (cap := rows.length) hs' (Nat.le_refl _)
  refine ⟨_, w, H, [], ?_, ⟨rfl, Heap.le_refl H, by rw [List.append_nil]; exact hr⟩, Heap.le_refl H, by simpa using hm⟩
  simp only [PrimOp.sem, builtin, Sem.run_bind]
  rw [hrun]; rfl
 ·have hpos : 0 < news.length := List.length_pos_iff.2 hne
  obtain ⟨osrc, o1, o2, o3⟩ := sl_src hu h0 hr hm
  obtain ⟨zs, cc, z1, zc, hrun⟩ := grow_run2 (ty := ty) hu hi hz hsz hzs hby (w := w) (base := some ad) (len := rows.length) (cap := rows.length) (m := news.length) (olds := rows.flatten) (news := news.flatten) (x := x)
   (by rw [hsz]; exact osrc.cellsD) src (by omega) hb h63
  have hm2 := models_alloc hm (rows.flatten ++ news.flatten ++ zs).toArray e
  have ho : OSl e size (.slice (some ⟨w.heap.size, 0, none⟩) (rows.length + news.length) (cc + (rows.length + news.length))) (rows ++ news) [(w.heap.size, .cells (rows.flatten ++ news.flatten ++ zs).toArray e (0, 0))] := by
   refine .inr ⟨w.heap.size, rows.flatten ++ news.flatten ++ zs, cc + (rows.length + news.length), by rw [List.length_append], rfl, ?_, ?_, ?_, ?_, ?_, ?_⟩
   ·rw [List.length_append, List.length_append, o1, s1, z1, ← Nat.add_mul, ← Nat.add_mul]; congr 1; omega
   ·rw [List.length_append]; omega
   ·exact zc
   ·intro r hr'
    rcases List.mem_append.1 hr' with h | h
    ·exact o2 r h
    ·exact s2 r h
   ·intro r hr'
    rcases List.mem_append.1 hr' with h | h
    ·exact o3 r h
    ·exact s3 r h
   ·rw [List.flatten_append, List.length_append, Nat.add_mul, ← o1, ← s1, ← List.length_append, List.take_left]
  obtain ⟨H', g, k1, k2⟩ := ho.freeze (X := []) ⟨w.drew.alloc (.cells (rows.flatten ++ news.flatten ++ zs).toArray e), F, hm2⟩
  refine ⟨_, w.drew.alloc (.cells (rows.flatten ++ news.flatten ++ zs).toArray e), H', [], ?_, ⟨rfl, k2, k1⟩, k2, (g _ F hm2).1⟩
  simp only [PrimOp.sem, builtin, Sem.run_bind]
  rw [hrun]; rfl
theorem call_append_frz {P : Program} {t ty e : TypeId} {size : Nat} (ha : appOk' P t e size = true) {ad : Addr} {rows news : List (List Value)} {x : Value} {H : Heap} {O : Own} {frz : List BV} {K : List Value → List (List Value) → Heap → Own → Prop}
  (hr : ∀ Hf, Heap.le H Hf → (∀ b ∈ frz, Hf b.r = some b.obj.2) → Sl Hf size (.slice (some ad) rows.length rows.length) rows) (hx : Sl H size x news)
  (hb : (rows.length + news.length) * bytesOf P e ≤ 140737488355328) (h63 : rows.length + news.length < 2 ^ 63) (hk : ∀ v' H', Heap.le H H' → Sl H' size v' (rows ++ news) → K [v'] [] H' O) :
  CallD (fun H1 O1 R => OpTriple P ((PrimOp.bi .append #[t, t] ty).sem [.slice (some ad) rows.length rows.length, x]) H1 O1 R) false frz [] .one K H O := by
 intro hc
 have hf := insAll_get hc
 have hl := Heap.le_insAll frz H
 refine ⟨H.insAll frz, [], O, _, Ghost.refl _ _, by simpa using append_frz (ty := ty) ha (hr _ hl hf) (hx.le hl) hb h63, ?_⟩
 rintro v' H' O' ⟨rfl, hle, hs⟩ _
 exact ⟨[v'], [], [], rfl, ⟨hs.one, trivial⟩, trivial, rfl, hk v' H' (Heap.le_trans hl hle) hs⟩
/-! Sorting by insertion -/
def insI (x : Int) (l : List Int) : List Int := l.takeWhile (fun y => decide (y < x)) ++ x :: l.dropWhile (fun y => decide (y < x))
def sortI (l : List Int) : List Int := l.foldl (fun out x => insI x out) []
theorem while_at {α : Type} {p : α → Bool} : ∀ {l : List α} {k : Nat}, k ≤ l.length → (∀ (j : Nat) (y : α), j < k → l[j]? = some y → p y = true) → (∀ y, l[k]? = some y → p y = false) → l.takeWhile p = l.take k ∧ l.dropWhile p = l.drop k
 | [], k, h, _, _ => by
  have : k = 0 := by simpa using h
  subst this; exact ⟨rfl, rfl⟩
 | a :: l, 0, _, _, h2 => by
  have := h2 a rfl
  simp [List.takeWhile_cons, List.dropWhile_cons, this]
 | a :: l, k + 1, h, h1, h2 => by
  have h0 := h1 0 a (by omega) rfl
  obtain ⟨e1, e2⟩ := while_at (l := l) (k := k) (by simpa using h) (fun j y hj e => h1 (j + 1) y (by omega) (by simpa using e)) fun y e => h2 y (by simpa using e)
  simp [List.takeWhile_cons, List.dropWhile_cons, h0, e1, e2]
theorem insI_perm (x : Int) (l : List Int) : (insI x l).Perm (x :: l) := by
 rw [insI]
 refine List.perm_middle.trans (List.Perm.cons x ?_)
 rw [List.takeWhile_append_dropWhile]
theorem sortI_perm_go : ∀ (l out : List Int), (l.foldl (fun out x => insI x out) out).Perm (l ++ out)
 | [], out => List.Perm.refl _
 | x :: l, out => by
  rw [List.foldl_cons]
  refine (sortI_perm_go l _).trans ?_
  exact ((insI_perm x out).append_left l).trans List.perm_middle
theorem sortI_perm (l : List Int) : (sortI l).Perm l := by have := sortI_perm_go l []; rw [List.append_nil] at this; exact this
theorem sortI_len (l : List Int) : (sortI l).length = l.length := (sortI_perm l).length_eq
theorem insI_sorted {x : Int} : ∀ {l : List Int}, l.Pairwise (· < ·) → x ∉ l → (insI x l).Pairwise (· < ·)
 | [], _, _ => by simp [insI]
 | a :: l, h, hx => by
  rw [List.pairwise_cons] at h
  simp only [List.mem_cons, not_or] at hx
  have ih := insI_sorted h.2 hx.2
  by_cases hax : a < x
  ·have e : insI x (a :: l) = a :: insI x l := by simp [insI, List.takeWhile_cons, List.dropWhile_cons, hax]
   rw [e, List.pairwise_cons]
   refine ⟨fun y hy => ?_, ih⟩
   rcases List.mem_cons.1 ((insI_perm x l).mem_iff.1 hy) with rfl | hy
   ·exact hax
   ·exact h.1 y hy
  ·have e : insI x (a :: l) = x :: a :: l := by simp [insI, List.takeWhile_cons, List.dropWhile_cons, hax]
   rw [e, List.pairwise_cons, List.pairwise_cons]
   refine ⟨fun y hy => ?_, h.1, h.2⟩
   rcases List.mem_cons.1 hy with rfl | hy
   ·omega
   ·have := h.1 y hy; omega
theorem sortI_sorted_go : ∀ {l out : List Int}, out.Pairwise (· < ·) → (l ++ out).Nodup → (l.foldl (fun out x => insI x out) out).Pairwise (· < ·)
 | [], _, h, _ => h
 | x :: l, out, h, hn => by
  rw [List.foldl_cons]
  have hn2 : (l ++ x :: out).Nodup := List.perm_middle.nodup_iff.2 (by simpa using hn)
  have hx : x ∉ out := by
   rw [List.nodup_append] at hn2
   exact (List.nodup_cons.1 hn2.2.1).1
  exact sortI_sorted_go (insI_sorted h hx) (((insI_perm x out).symm.append_left l).nodup_iff.1 hn2)
theorem sortI_sorted {l : List Int} (h : l.Nodup) : (sortI l).Pairwise (· < ·) := sortI_sorted_go (out := []) List.Pairwise.nil (by simpa using h)
/-- Two increasing lists of the same numbers are one. -/
theorem strict_ext : ∀ {l r : List Int}, l.Pairwise (· < ·) → r.Pairwise (· < ·) → (∀ x, x ∈ l ↔ x ∈ r) → l = r
 | [], [], _, _, _ => rfl
 | [], b :: r, _, _, h => by have := (h b).2 (by simp); cases this
 | a :: l, [], _, _, h => by have := (h a).1 (by simp); cases this
 | a :: l, b :: r, hl, hr, h => by
  rw [List.pairwise_cons] at hl hr
  have e : a = b := by
   have h1 := (h a).1 (by simp)
   have h2 := (h b).2 (by simp)
   rcases List.mem_cons.1 h1 with e | h1
   ·exact e
   rcases List.mem_cons.1 h2 with e | h2
   ·exact e.symm
   have := hl.1 b h2
   have := hr.1 a h1
   omega
  subst e
  congr 1
  refine strict_ext hl.2 hr.2 fun x => ⟨fun hx => ?_, fun hx => ?_⟩
  ·rcases List.mem_cons.1 ((h x).1 (by simp [hx])) with e | h'
   ·have := hl.1 x hx; omega
   ·exact h'
  ·rcases List.mem_cons.1 ((h x).2 (by simp [hx])) with e | h'
   ·have := hr.1 x hx; omega
   ·exact h'
end Go.Sx
namespace Go.Proofs.YtjaegdkkiefchaaGreatDoor
open Go Go.Sx
set_option maxRecDepth 100000
set_option maxHeartbeats 1000000
theorem countY_contG {P : Program} {lab n i : Nat} {R : Nat → Value → Heap → Own → Prop} {x : Value} {eqs : List (List Value × List Value)} {H : Heap} {O : Own} {Q : Value → Heap → Own → Prop} (he : Eqs eqs) (hi : i < n) (hr : Cons H O → ∃ H3 O3, Ghost H O H3 O3 ∧ R (i + 1) x H3 O3) :
  (Tree.cont lab (Back (IY n R) (MY n) (n - i)) [x, iV ((i + 1 : Nat) : Int)] eqs).den P Q H O := by
 refine ⟨he, fun hc => ?_⟩
 obtain ⟨H3, O3, g, r⟩ := hr hc
 refine ⟨H3, O3, g, ⟨i + 1, x, rfl, hi, r⟩, ?_⟩
 show n - ((i + 1 : Nat) : Int).toNat < n - i
 simp; omega
theorem sort_take {l : List Int} {i : Nat} (h : i < l.length) : sortI (l.take (i + 1)) = insI l[i] (sortI (l.take i)) := by
 rw [List.take_add_one, List.getElem?_eq_getElem h, sortI, Option.toList_some, List.foldl_append]; rfl
theorem r_Sorted {H : Heap} {v : Value} {l : List Int} (h : Sl H 1 v (ints l)) (hl : l.length ≤ 1000000) : Triple PP F_zeitnotref15_Sorted [v] H [] fun r H' O' => Sl H' 1 r (ints (sortI l)) ∧ O' = [] := by
 refine run_zeitnotref15_Sorted (vs := [v]) (by kernel_rfl) ⟨h.one, trivial⟩ ?_
 simp only [T_zeitnotref15_Sorted]
 have hlen : evalPure .len [v] = some (iV l.length) := by have := h.len; rwa [ints, List.length_map] at this
 refine countY_den l.length (fun i x H' O' => O' = [] ∧ Heap.le H H' ∧ Sl H' 1 x (ints (sortI (l.take i)))) ⟨rfl, Heap.le_refl _, Sl.nil H 1⟩ ?_
 rintro i x H' O' hi - ⟨rfl, hle, hx⟩
 repeat (first | refine chkN_den ?_ | refine chkV_den ?_)
 refine pure_den _ hlen (pure_den _ (lss_eq _ _) (br_den (fun hb => ?_) (fun hb => ?_)))
 ·have hlt : i < l.length := by simpa using hb
  generalize hout : sortI (l.take i) = out at hx
  have hol : out.length ≤ 1000000 := by rw [← hout, sortI_len, List.length_take]; omega
  have xlen : evalPure .len [x] = some (iV out.length) := by have := hx.len; rwa [ints, List.length_map] at this
  obtain ⟨a, h1, h2, h3, h4⟩ := (h.le hle).idx (k := .i64) (i := i) (r := [iV l[i]]) (by simp [ints, hlt])
  repeat (first | refine chkN_den ?_ | refine chkV_den ?_)
  refine count_den out.length (fun k H2 O2 => O2 = [] ∧ Heap.le H' H2 ∧ ∀ (j : Nat) (y : Int), j < k → out[j]? = some y → decide (y < l[i]) = true) ⟨rfl, Heap.le_refl _, fun j y hj => absurd hj (Nat.not_lt_zero j)⟩ ?_
  rintro k H2 O2 hk - ⟨rfl, hle2, hall⟩
  repeat (first | refine chkN_den ?_ | refine chkV_den ?_)
  refine pure_den _ xlen (pure_den _ (lss_eq _ _) ?_)
  repeat (first | refine chkN_den ?_ | refine chkV_den ?_)
  -- the step when a place is found
  have hfin : (∀ y, out[k]? = some y → decide (y < l[i]) = false) → insI l[i] out = out.take k ++ (l[i] :: out.drop k) := fun hno => by
   obtain ⟨w1, w2⟩ := while_at hk hall hno
   rw [insI, w1, w2]
  rcases Nat.lt_or_ge k out.length with hkl | hkl
  ·obtain ⟨a2, k1, k2, k3, k4⟩ := (hx.le hle2).idx (k := .i64) (i := k) (r := [iV out[k]]) (by simp [ints, hkl])
   refine ⟨.pointer (some a2), fun _ => k1, .inr rfl, ?_⟩
   repeat (first | refine chkN_den ?_ | refine chkV_den ?_)
   refine ⟨[iV out[k]], rfl, ⟨rfl, trivial⟩, fun _ => .inl k2, ?_⟩
   repeat (first | refine chkN_den ?_ | refine chkV_den ?_)
   refine ⟨.pointer (some a), fun _ => h1, .inr rfl, ?_⟩
   repeat (first | refine chkN_den ?_ | refine chkV_den ?_)
   refine ⟨[iV l[i]], rfl, ⟨rfl, trivial⟩, fun _ => .inl (hle2.read h2), ?_⟩
   repeat (first | refine chkN_den ?_ | refine chkV_den ?_)
   refine pure_den _ (lss_eq _ _) ?_
   repeat (first | refine chkN_den ?_ | refine chkV_den ?_)
   refine pure_den _ (pick_and _ _) ?_
   have hkd : decide ((k : Int) < (out.length : Int)) = true := by simp [hkl]
   rw [hkd, Bool.true_and]
   refine br_den (fun hc => ?_) (fun hc => ?_)
   ·repeat (first | refine chkN_den ?_ | refine chkV_den ?_)
    refine pure_den _ (add_one (by omega)) (count_cont (by simp [Eqs]) hkl ⟨rfl, hle2, fun j y hj e => ?_⟩)
    rcases Nat.lt_or_ge j k with hjk | hjk
    ·exact hall j y hjk e
    ·have : j = k := by omega
     subst this
     rw [List.getElem?_eq_getElem hkl] at e
     obtain rfl := Option.some.inj e
     exact hc
   ·have hins := hfin fun y e => by
     rw [List.getElem?_eq_getElem hkl] at e
     obtain rfl := Option.some.inj e
     exact hc
    repeat (first | refine chkN_den ?_ | refine chkV_den ?_)
    refine pure_den _ h1 (load_den (hle2.read h2) h3 h4 ?_)
    repeat (first | refine chkN_den ?_ | refine chkV_den ?_)
    obtain ⟨u1, e1, s1⟩ := (hx.le hle2).from (i := k) (by simp [ints]; omega)
    obtain ⟨u2, e2, s2⟩ := (hx.le hle2).upto (i := k) (by simp [ints]; omega)
    refine pure_den _ e1 (newbox_den fun r0 => ?_)
    repeat (first | refine chkN_den ?_ | refine chkV_den ?_)
    refine call_append_frz (ad := ⟨r0, 0, none⟩) (rows := [[iV l[i]]]) (news := (ints out).drop k) (size := 1) (e := Ty_int) (by kernel_rfl) (fun Hf _ hf => Sl.block1 (hf _ List.mem_cons_self) rfl ⟨rfl, trivial⟩) s1 (by rw [show bytesOf PP Ty_int = 8 by kernel_rfl]; simp [ints]; omega) (by simp [ints]; omega) fun v1 H3 l3 hv1 => ?_
    repeat (first | refine chkN_den ?_ | refine chkV_den ?_)
    refine pure_den _ e2 ?_
    repeat (first | refine chkN_den ?_ | refine chkV_den ?_)
    refine app_new (e := Ty_int) (size := 1) (bytes := 8) (by kernel_rfl) (s2.le l3) (by simp [ints]; omega) (by simp [ints]; omega) fun xa Oa H4 lA pa => ?_
    repeat (first | refine chkN_den ?_ | refine chkV_den ?_)
    refine call_append (rows := (ints out).take k) (news := [[iV l[i]]] ++ (ints out).drop k) (O1 := Oa) (O2 := []) (e := Ty_int) (size := 1) (bytes := 8) (by kernel_rfl) (by simp) pa (fun Hf lf _ => (hv1.le lA).le lf) (by simp [ints]; omega) (by simp [ints]; omega) ?_
    intro v' A' H6 l6 hA'
    repeat (first | refine chkN_den ?_ | refine chkV_den ?_)
    refine pure_den _ (add_one (by omega)) (countY_contG (by simp [Eqs]) hlt fun hc => ?_)
    obtain ⟨H9, g9, kz, l9⟩ := hA'.freeze (X := []) (hc.perm (by simp))
    refine ⟨H9, [], (Ghost.perm (by simp)).trans g9, rfl, Heap.le_trans hle (Heap.le_trans hle2 (Heap.le_trans l3 (Heap.le_trans lA (Heap.le_trans l6 l9)))), ?_⟩
    have hrows : ints (sortI (l.take (i + 1))) = (ints out).take k ++ ([[iV l[i]]] ++ (ints out).drop k) := by
     rw [sort_take hlt, hout, hins, ints, ints, List.map_append, List.map_cons, List.map_take, List.map_drop]; rfl
    rw [hrows]; exact kz
  ·have hkd : decide ((k : Int) < (out.length : Int)) = false := by simp; omega
   have hoff : ∀ {P : Prop}, On [(Value.bool (decide ((k : Int) < (out.length : Int))), true)] → P := fun ho => by
    have := ho.1
    rw [hkd] at this
    cases this
   refine ⟨.pointer (some a), fun ho => hoff ho, .inr rfl, ?_⟩
   repeat (first | refine chkN_den ?_ | refine chkV_den ?_)
   refine ⟨[iV 0], rfl, ⟨rfl, trivial⟩, fun ho => hoff ho, ?_⟩
   repeat (first | refine chkN_den ?_ | refine chkV_den ?_)
   refine ⟨.pointer (some a), fun _ => h1, .inr rfl, ?_⟩
   repeat (first | refine chkN_den ?_ | refine chkV_den ?_)
   refine ⟨[iV l[i]], rfl, ⟨rfl, trivial⟩, fun _ => .inl (hle2.read h2), ?_⟩
   repeat (first | refine chkN_den ?_ | refine chkV_den ?_)
   refine pure_den _ (lss_eq _ _) ?_
   repeat (first | refine chkN_den ?_ | refine chkV_den ?_)
   refine pure_den _ (pick_and _ _) ?_
   rw [hkd, Bool.false_and]
   refine br_den (fun hc => by cases hc) (fun hc => ?_)
   have hins := hfin fun y e => by
    have := (List.getElem?_eq_some_iff.1 e).1
    omega
   repeat (first | refine chkN_den ?_ | refine chkV_den ?_)
   refine pure_den _ h1 (load_den (hle2.read h2) h3 h4 ?_)
   repeat (first | refine chkN_den ?_ | refine chkV_den ?_)
   obtain ⟨u1, e1, s1⟩ := (hx.le hle2).from (i := k) (by simp [ints]; omega)
   obtain ⟨u2, e2, s2⟩ := (hx.le hle2).upto (i := k) (by simp [ints]; omega)
   refine pure_den _ e1 (newbox_den fun r0 => ?_)
   repeat (first | refine chkN_den ?_ | refine chkV_den ?_)
   refine call_append_frz (ad := ⟨r0, 0, none⟩) (rows := [[iV l[i]]]) (news := (ints out).drop k) (size := 1) (e := Ty_int) (by kernel_rfl) (fun Hf _ hf => Sl.block1 (hf _ List.mem_cons_self) rfl ⟨rfl, trivial⟩) s1 (by rw [show bytesOf PP Ty_int = 8 by kernel_rfl]; simp [ints]; omega) (by simp [ints]; omega) fun v1 H3 l3 hv1 => ?_
   repeat (first | refine chkN_den ?_ | refine chkV_den ?_)
   refine pure_den _ e2 ?_
   repeat (first | refine chkN_den ?_ | refine chkV_den ?_)
   refine app_new (e := Ty_int) (size := 1) (bytes := 8) (by kernel_rfl) (s2.le l3) (by simp [ints]; omega) (by simp [ints]; omega) fun xa Oa H4 lA pa => ?_
   repeat (first | refine chkN_den ?_ | refine chkV_den ?_)
   refine call_append (rows := (ints out).take k) (news := [[iV l[i]]] ++ (ints out).drop k) (O1 := Oa) (O2 := []) (e := Ty_int) (size := 1) (bytes := 8) (by kernel_rfl) (by simp) pa (fun Hf lf _ => (hv1.le lA).le lf) (by simp [ints]; omega) (by simp [ints]; omega) ?_
   intro v' A' H6 l6 hA'
   repeat (first | refine chkN_den ?_ | refine chkV_den ?_)
   refine pure_den _ (add_one (by omega)) (countY_contG (by simp [Eqs]) hlt fun hc => ?_)
   obtain ⟨H9, g9, kz, l9⟩ := hA'.freeze (X := []) (hc.perm (by simp))
   refine ⟨H9, [], (Ghost.perm (by simp)).trans g9, rfl, Heap.le_trans hle (Heap.le_trans hle2 (Heap.le_trans l3 (Heap.le_trans lA (Heap.le_trans l6 l9)))), ?_⟩
   have hrows : ints (sortI (l.take (i + 1))) = (ints out).take k ++ ([[iV l[i]]] ++ (ints out).drop k) := by
    rw [sort_take hlt, hout, hins, ints, ints, List.map_append, List.map_cons, List.map_take, List.map_drop]; rfl
   rw [hrows]; exact kz
 ·have hge : l.length ≤ i := by simpa using hb
  rw [List.take_of_length_le hge] at hx
  exact ret_denO ⟨hx, rfl⟩
/-- The creatures of a player, as the reference says. -/
def creatR (ks : List Int) (b : Bd) (p : Int) : List Int := sortI ((seatOf b p).field.filter fun id => creatB ks (b.objs.getD (idxO b id).toNat zO))
/-- A call that is handed what is owned, frozen. -/
theorem call_frozen {P : Program} {f : FuncId} {args : List Value} {H : Heap} {O : Own} {e : TypeId} {size : Nat} {x : Value} {rows : List (List Value)} {R : Value → Heap → Own → Prop} {shp : Shp} {K : List Value → List (List Value) → Heap → Own → Prop}
  (hx : OSl e size x rows O) (h : ∀ Hf, Sl Hf size x rows → Triple P f args Hf [] R) (hk : ∀ v H' , R v H' [] → Heap.le H H' → ∃ vs, shp.open v = some vs ∧ Ones vs ∧ K vs [] H' []) (hR : ∀ v H' O', R v H' O' → O' = [] := by rintro _ _ _ ⟨_, rfl⟩; rfl) :
  CallD (fun H1 O1 R => Triple P f args H1 O1 R) false [] [] shp K H O := by
 intro hc
 obtain ⟨Hf, g, hs, hl⟩ := hx.freeze (X := []) (by simpa using hc)
 refine ⟨Hf, [], [], R, (by rw [List.append_nil] at g; exact g : Ghost H O Hf []), h Hf hs, fun v H' O' hr hle => ?_⟩
 obtain rfl := hR v H' O' hr
 obtain ⟨vs, h1, h2, h3⟩ := hk v H' hr (Heap.le_trans hl hle)
 exact ⟨vs, [], [], h1, h2, trivial, rfl, h3⟩
theorem r_Creatures {H : Heap} {cv : Value} {ks : List Int} (hk : KindS H cv ks) {v : BV12} {b : Bd} (h : BdS H v b) (hB : bdB b) (p : Int) (hp : p = 0 ∨ p = 1) (hthere : ∀ q, p = q → ∀ id ∈ (seatOf b q).field, ¬ idxO b id < 0) :
  Triple PP F_zeitnotref15_Creatures [cv, .agg (boardC v b).toArray, iV p] H [] fun r H' O' => Sl H' 1 r (ints (creatR ks b p)) ∧ O' = [] := by
 refine run_zeitnotref15_Creatures (vs := cv :: (boardC v b ++ [iV p])) (by kernel_rfl) ⟨hk.one, ones_app (boardC_ones (h.r [])) ⟨rfl, trivial⟩⟩ ?_
 simp only [T_zeitnotref15_Creatures]
 refine newbox_den fun r0 => ?_
 repeat (first | refine chkN_den ?_ | refine chkV_den ?_)
 rcases hp with rfl | rfl
 ·refine ⟨.i64, 0, rfl, fun _ => ?_, fun e => absurd rfl e⟩
  have hfl : evalPure .len [v.f0] = some (iV b.s0.field.length) := by have := h.s0.field.len; rwa [ints, List.length_map] at this
  have hbl : b.s0.field.length ≤ 1000000 := by obtain ⟨_, ⟨_, _, x1, _⟩, ⟨_, _, x2, _⟩, _⟩ := hB; omega
  repeat (first | refine chkN_den ?_ | refine chkV_den ?_)
  refine pure_den _ hfl ?_
  repeat (first | refine chkN_den ?_ | refine chkV_den ?_)
  refine countY_denG b.s0.field.length (fun i x H' O' => Heap.le H H' ∧ OSl Ty_int 1 x (ints ((b.s0.field.take i).filter fun id => creatB ks (b.objs.getD (idxO b id).toNat zO))) O') (fun _ => ⟨H, [], Ghost.refl _ _, Heap.le_refl _, OSl.nil _ _⟩) ?_
  rintro i x H' O' hi - ⟨hle, hx⟩
  refine pure_den _ (lss_eq _ _) (br_den (fun hb => ?_) (fun hb => ?_))
  ·have hlt : i < b.s0.field.length := by simpa using hb
   obtain ⟨a, i1, i2, i3, i4⟩ := (h.s0.field.le hle).idx (k := .i64) (i := i) (r := [iV b.s0.field[i]]) (by simp [ints, hlt])
   have hft := filter_take (p := fun id => creatB ks (b.objs.getD (idxO b id).toNat zO)) hlt
   obtain ⟨k, ob, e1, e2, e3⟩ := idxO_some (hthere 0 rfl b.s0.field[i] (List.getElem_mem hlt))
   have hob : b.objs.getD (idxO b b.s0.field[i]).toNat zO = ob := by rw [e3, Int.toNat_natCast, List.getD_eq_getElem?_getD, e1]; rfl
   rw [hob] at hft
   repeat (first | refine chkN_den ?_ | refine chkV_den ?_)
   refine pure_den _ i1 (load_den i2 i3 i4 ?_)
   repeat (first | refine chkN_den ?_ | refine chkV_den ?_)
   refine call_retO (r_Index ((h.le hle).r O') b.s0.field[i]) rfl ⟨rfl, trivial⟩ fun H2 l2 => ?_
   rw [e3]
   have lz := Heap.le_trans hle l2
   obtain ⟨a2, k1, k2, k3, k4⟩ := (h.objs.le lz).idx (k := .i64) (i := k) (r := Ob.row ob) (by rw [List.getElem?_map, e1]; rfl)
   repeat (first | refine chkN_den ?_ | refine chkV_den ?_)
   refine pure_den _ k1 (load_den k2 k3 k4 ?_)
   repeat (first | refine chkN_den ?_ | refine chkV_den ?_)
   refine call_retO (r_Creature (hk.le lz) ob) rfl ⟨rfl, trivial⟩ fun H3 l3 => br_den (fun hc => ?_) (fun hc => ?_)
   ·have hc : creatB ks ob = true := hc
    have hlen : ((b.s0.field.take i).filter fun id => creatB ks (b.objs.getD (idxO b id).toNat zO)).length ≤ 1000000 := Nat.le_trans (List.length_filter_le _ _) (by rw [List.length_take]; omega)
    repeat (first | refine chkN_den ?_ | refine chkV_den ?_)
    refine newbox_den fun r2 => ?_
    repeat (first | refine chkN_den ?_ | refine chkV_den ?_)
    refine call_append (rows := ints ((b.s0.field.take i).filter fun id => creatB ks (b.objs.getD (idxO b id).toNat zO))) (news := [[iV b.s0.field[i]]]) (O1 := O') (O2 := []) (e := Ty_int) (size := 1) (bytes := 8) (by kernel_rfl) (by simp) hx (fun Hf _ hf => Sl.block1 (hf _ List.mem_cons_self) rfl ⟨rfl, trivial⟩) (by rw [ints, List.length_map, List.length_singleton]; omega) (by rw [ints, List.length_map, List.length_singleton]; omega) ?_
    intro v' A' H6 l6 hA'
    refine pure_den _ (add_one (by omega)) (countY_cont (by simp [Eqs]) hlt ⟨Heap.le_trans lz (Heap.le_trans l3 l6), ?_⟩)
    rw [List.append_nil, hft, if_pos hc, ints, List.map_append]; exact hA'
   ·have hc : creatB ks ob = false := hc
    repeat (first | refine chkN_den ?_ | refine chkV_den ?_)
    refine pure_den _ (add_one (by omega)) (countY_cont (by simp [Eqs]) hlt ⟨Heap.le_trans lz l3, ?_⟩)
    rw [hft, if_neg (by rw [hc]; simp), List.append_nil]; exact hx
  ·have hge : b.s0.field.length ≤ i := by simpa using hb
   rw [List.take_of_length_le hge] at hx
   have hlen : (b.s0.field.filter fun id => creatB ks (b.objs.getD (idxO b id).toNat zO)).length ≤ 1000000 := Nat.le_trans (List.length_filter_le _ _) hbl
   repeat (first | refine chkN_den ?_ | refine chkV_den ?_)
   refine call_frozen hx (fun Hf hs => r_Sorted hs hlen) ?_
   rintro r H2 ⟨hr, -⟩ l2
   refine ⟨[r], rfl, ⟨hr.one, trivial⟩, ?_⟩
   exact ret_denO ⟨hr, rfl⟩
 ·refine ⟨.i64, 1, rfl, fun e => absurd e (by omega), fun _ => ⟨.i64, 1, rfl, fun _ => ?_, fun e => absurd rfl e⟩⟩
  have hfl : evalPure .len [v.f1] = some (iV b.s1.field.length) := by have := h.s1.field.len; rwa [ints, List.length_map] at this
  have hbl : b.s1.field.length ≤ 1000000 := by obtain ⟨_, ⟨_, _, x1, _⟩, ⟨_, _, x2, _⟩, _⟩ := hB; omega
  repeat (first | refine chkN_den ?_ | refine chkV_den ?_)
  refine pure_den _ hfl ?_
  repeat (first | refine chkN_den ?_ | refine chkV_den ?_)
  refine countY_denG b.s1.field.length (fun i x H' O' => Heap.le H H' ∧ OSl Ty_int 1 x (ints ((b.s1.field.take i).filter fun id => creatB ks (b.objs.getD (idxO b id).toNat zO))) O') (fun _ => ⟨H, [], Ghost.refl _ _, Heap.le_refl _, OSl.nil _ _⟩) ?_
  rintro i x H' O' hi - ⟨hle, hx⟩
  refine pure_den _ (lss_eq _ _) (br_den (fun hb => ?_) (fun hb => ?_))
  ·have hlt : i < b.s1.field.length := by simpa using hb
   obtain ⟨a, i1, i2, i3, i4⟩ := (h.s1.field.le hle).idx (k := .i64) (i := i) (r := [iV b.s1.field[i]]) (by simp [ints, hlt])
   have hft := filter_take (p := fun id => creatB ks (b.objs.getD (idxO b id).toNat zO)) hlt
   obtain ⟨k, ob, e1, e2, e3⟩ := idxO_some (hthere 1 rfl b.s1.field[i] (List.getElem_mem hlt))
   have hob : b.objs.getD (idxO b b.s1.field[i]).toNat zO = ob := by rw [e3, Int.toNat_natCast, List.getD_eq_getElem?_getD, e1]; rfl
   rw [hob] at hft
   repeat (first | refine chkN_den ?_ | refine chkV_den ?_)
   refine pure_den _ i1 (load_den i2 i3 i4 ?_)
   repeat (first | refine chkN_den ?_ | refine chkV_den ?_)
   refine call_retO (r_Index ((h.le hle).r O') b.s1.field[i]) rfl ⟨rfl, trivial⟩ fun H2 l2 => ?_
   rw [e3]
   have lz := Heap.le_trans hle l2
   obtain ⟨a2, k1, k2, k3, k4⟩ := (h.objs.le lz).idx (k := .i64) (i := k) (r := Ob.row ob) (by rw [List.getElem?_map, e1]; rfl)
   repeat (first | refine chkN_den ?_ | refine chkV_den ?_)
   refine pure_den _ k1 (load_den k2 k3 k4 ?_)
   repeat (first | refine chkN_den ?_ | refine chkV_den ?_)
   refine call_retO (r_Creature (hk.le lz) ob) rfl ⟨rfl, trivial⟩ fun H3 l3 => br_den (fun hc => ?_) (fun hc => ?_)
   ·have hc : creatB ks ob = true := hc
    have hlen : ((b.s1.field.take i).filter fun id => creatB ks (b.objs.getD (idxO b id).toNat zO)).length ≤ 1000000 := Nat.le_trans (List.length_filter_le _ _) (by rw [List.length_take]; omega)
    repeat (first | refine chkN_den ?_ | refine chkV_den ?_)
    refine newbox_den fun r2 => ?_
    repeat (first | refine chkN_den ?_ | refine chkV_den ?_)
    refine call_append (rows := ints ((b.s1.field.take i).filter fun id => creatB ks (b.objs.getD (idxO b id).toNat zO))) (news := [[iV b.s1.field[i]]]) (O1 := O') (O2 := []) (e := Ty_int) (size := 1) (bytes := 8) (by kernel_rfl) (by simp) hx (fun Hf _ hf => Sl.block1 (hf _ List.mem_cons_self) rfl ⟨rfl, trivial⟩) (by rw [ints, List.length_map, List.length_singleton]; omega) (by rw [ints, List.length_map, List.length_singleton]; omega) ?_
    intro v' A' H6 l6 hA'
    refine pure_den _ (add_one (by omega)) (countY_cont (by simp [Eqs]) hlt ⟨Heap.le_trans lz (Heap.le_trans l3 l6), ?_⟩)
    rw [List.append_nil, hft, if_pos hc, ints, List.map_append]; exact hA'
   ·have hc : creatB ks ob = false := hc
    repeat (first | refine chkN_den ?_ | refine chkV_den ?_)
    refine pure_den _ (add_one (by omega)) (countY_cont (by simp [Eqs]) hlt ⟨Heap.le_trans lz l3, ?_⟩)
    rw [hft, if_neg (by rw [hc]; simp), List.append_nil]; exact hx
  ·have hge : b.s1.field.length ≤ i := by simpa using hb
   rw [List.take_of_length_le hge] at hx
   have hlen : (b.s1.field.filter fun id => creatB ks (b.objs.getD (idxO b id).toNat zO)).length ≤ 1000000 := Nat.le_trans (List.length_filter_le _ _) hbl
   repeat (first | refine chkN_den ?_ | refine chkV_den ?_)
   refine call_frozen hx (fun Hf hs => r_Sorted hs hlen) ?_
   rintro r H2 ⟨hr, -⟩ l2
   refine ⟨[r], rfl, ⟨hr.one, trivial⟩, ?_⟩
   exact ret_denO ⟨hr, rfl⟩
theorem field_there {b : Bd} (h : validBd b = true) {p : Int} (hp : p = 0 ∨ p = 1) {id : Int} (hid : id ∈ (seatOf b p).field) : ∃ (k : Nat) (o : Ob), b.objs[k]? = some o ∧ o.id = id ∧ o.owner = p ∧ idxO b id = k := by
 have hpl := (valid_parts h).1
 have hm : (id, p) ∈ pairsB b := by
  rcases hp with rfl | rfl
  ·have hid : id ∈ b.s0.field := hid
   simp [pairsB, pairsS, hid]
  ·have hid : id ∈ b.s1.field := hid
   simp [pairsB, pairsS, hid]
 obtain ⟨k, o, e1, e2, e3⟩ := id_obj hpl hm
 obtain ⟨_, _, v3, _⟩ := obj_known hpl e1
 exact ⟨k, o, e1, e2, e3, by rw [← e2]; exact v3⟩
theorem ord_pairwise : ∀ {l : List Ob} {prev : Option Int}, ordP prev l = true → (l.map (·.id)).Pairwise (· < ·)
 | [], _, _ => List.Pairwise.nil
 | a :: l, prev, h => by
  simp only [ordP, Bool.and_eq_true] at h
  rw [List.map_cons, List.pairwise_cons]
  refine ⟨fun x hx => ?_, ord_pairwise h.2⟩
  obtain ⟨o, ho, rfl⟩ := List.mem_map.1 hx
  exact (ordP_spec h.2).1 o ho _ rfl
/-- Both are the same. -/
theorem creat_eq (ks : List Int) {b : Bd} (h : validBd b = true) {p : Int} (hp : p = 0 ∨ p = 1) : creatR ks b p = creatP ks b p := by
 have hw : withinB p 0 1 = true := by simp only [withinB, decide_eq_true_eq]; omega
 rw [creatP, if_pos (by rw [hw, h]; rfl), creatR]
 obtain ⟨p1, _, _⟩ := placed_objs (valid_parts h).1
 have hfn : (seatOf b p).field.Nodup := by
  obtain ⟨a, c⟩ := placed_field (valid_parts h).1
  rcases hp with rfl | rfl
  ·exact a
  ·exact c
 refine strict_ext (sortI_sorted (hfn.filter _)) ?_ fun x => ?_
 ·exact (ord_pairwise p1).sublist ((List.filter_sublist (l := b.objs)).map _)
 ·rw [(sortI_perm _).mem_iff, List.mem_filter, List.mem_map]
  constructor
  ·rintro ⟨hx, hc⟩
   obtain ⟨k, o, e1, e2, e3, e4⟩ := field_there h hp hx
   have hob : b.objs.getD (idxO b x).toNat zO = o := by rw [e4, Int.toNat_natCast, List.getD_eq_getElem?_getD, e1]; rfl
   rw [hob] at hc
   refine ⟨o, List.mem_filter.2 ⟨List.mem_of_getElem? e1, ?_⟩, e2⟩
   rw [isCr, e3, hc, e2]
   simpa using hx
  ·rintro ⟨o, ho, rfl⟩
   obtain ⟨ho, hc⟩ := List.mem_filter.1 ho
   simp only [isCr, Bool.and_eq_true, beq_iff_eq, List.contains_iff_mem] at hc
   obtain ⟨h1, h2, h3⟩ := hc
   obtain ⟨k, hk⟩ := List.mem_iff_getElem?.1 ho
   obtain ⟨_, _, v3, _⟩ := obj_known (valid_parts h).1 hk
   refine ⟨h3, ?_⟩
   rw [v3, Int.toNat_natCast, List.getD_eq_getElem?_getD, hk]
   exact h2
end Go.Proofs.YtjaegdkkiefchaaGreatDoor
