/- Plain laws for StackHolds: sizes of boards; what is in a hand; targets that may be aimed at. -/
import Derived.Test.YtieaihgbjikggaaGreatC51
namespace Go.Proofs.YtieaihgbjikggaaGreat
open Go Go.Sx
set_option maxRecDepth 100000
set_option maxHeartbeats 1000000
def szS (n : Nat) (s : St) : Prop := s.lib.length ≤ n ∧ s.hand.length ≤ n ∧ s.field.length ≤ n ∧ s.grave.length ≤ n
def szI (n : Nat) (l : List It) : Prop := l.length ≤ n ∧ ∀ x ∈ l, x.tgs.length ≤ n
def szB (n : Nat) (b : Bd) : Prop := b.objs.length ≤ n ∧ szS n b.s0 ∧ szS n b.s1 ∧ szI n b.stack ∧ szI n b.queue ∧ b.att.length ≤ n ∧ b.blocks.length ≤ n
theorem szS.le {n m : Nat} {s : St} (h : szS n s) (hm : n ≤ m) : szS m s := ⟨Nat.le_trans h.1 hm, Nat.le_trans h.2.1 hm, Nat.le_trans h.2.2.1 hm, Nat.le_trans h.2.2.2 hm⟩
theorem szI.le {n m : Nat} {l : List It} (h : szI n l) (hm : n ≤ m) : szI m l := ⟨Nat.le_trans h.1 hm, fun x hx => Nat.le_trans (h.2 x hx) hm⟩
theorem szB.le {n m : Nat} {b : Bd} (h : szB n b) (hm : n ≤ m) : szB m b :=
 ⟨Nat.le_trans h.1 hm, szS.le h.2.1 hm, szS.le h.2.2.1 hm, szI.le h.2.2.2.1 hm, szI.le h.2.2.2.2.1 hm, Nat.le_trans h.2.2.2.2.2.1 hm, Nat.le_trans h.2.2.2.2.2.2 hm⟩
theorem Hy {n : Nat} {b : Bd} (h : szB n b) (hn : n ≤ 100000) : bdB b := by
 obtain ⟨a1, a2, a3, a4, a5, a6, a7⟩ := szB.le h (show n ≤ 1000000 by omega)
 exact ⟨a1, a2, a3, a4, a5, a6, a7⟩
theorem mN {n : Nat} {b : Bd} (h : szB n b) (hn : n ≤ 100000) : FB b := by
 obtain ⟨_, a2, a3, a4, _⟩ := szB.le h hn
 exact ⟨a2, a3, a4.1⟩
theorem Ao {b : Bd} (h : ei b = true) : szB 40 b := by
 simp only [ei, gh, lQ, Bool.and_eq_true, Bool.not_eq_true', decide_eq_false_iff_not, decide_eq_true_eq, List.all_eq_true] at h
 obtain ⟨⟨a1, a2, a3, a4⟩, ⟨b1, b2, b3, b4⟩, ⟨c1, c2⟩, ⟨d1, d2⟩, ⟨e1, e2⟩, e3⟩ := h
 refine ⟨by omega, ⟨by omega, by omega, by omega, by omega⟩, ⟨by omega, by omega, by omega, by omega⟩, ⟨by omega, fun x hx => ?_⟩, ⟨by omega, fun x hx => ?_⟩, by omega, by omega⟩
 ·have := c2 x hx; omega
 ·have := d2 x hx; omega
theorem Ai {n m : Nat} {b : Bd} {l : List It} (h : szB n b) (hm : n ≤ m) (hl : szI m l) : szB m { b with stack := l } := by
 obtain ⟨a1, a2, a3, _, a5, a6, a7⟩ := szB.le h hm
 exact ⟨a1, a2, a3, hl, a5, a6, a7⟩
theorem szI.app {n : Nat} {l : List It} (h : szI n l) {x : It} (hx : x.tgs.length ≤ n + 1) : szI (n + 1) (l ++ [x]) := by
 refine ⟨by have := h.1; simp; omega, fun y hy => ?_⟩
 rcases List.mem_append.1 hy with hy | hy
 ·have := h.2 y hy; omega
 ·rw [List.mem_singleton.1 hy]; exact hx
theorem Jn {n : Nat} {b : Bd} (h : szB n b) (k j : Nat) (o : Ob) : szB (n + 1) (iF b k j o) := by
 obtain ⟨a1, a2, a3, a4, a5, a6, a7⟩ := h
 have ho : (iF b k j o).objs.length ≤ n + 1 := by
  have : (iF b k j o).objs = b.objs.set k (bD o 4) := by simp only [iF, eL, cZ]; split <;> rfl
  rw [this, List.length_set]; omega
 have he : ∀ s, szS n s → szS (n + 1) { s with hand := s.hand.eraseIdx j } := fun s hs => ⟨by have := hs.1; show s.lib.length ≤ n + 1; omega, by have := hs.2.1; have := List.length_eraseIdx_le s.hand j; show (s.hand.eraseIdx j).length ≤ n + 1; omega, by have := hs.2.2.1; show s.field.length ≤ n + 1; omega, by have := hs.2.2.2; show s.grave.length ≤ n + 1; omega⟩
 have hs0 : szS (n + 1) (iF b k j o).s0 := by
  simp only [iF, eL, cZ, dt]
  split
  ·exact he _ a2
  ·exact szS.le a2 (by omega)
 have hs1 : szS (n + 1) (iF b k j o).s1 := by
  simp only [iF, eL, cZ, dt]
  split
  ·exact szS.le a3 (by omega)
  ·exact he _ a3
 have hq : (iF b k j o).queue = b.queue ∧ (iF b k j o).att = b.att ∧ (iF b k j o).blocks = b.blocks := by
  simp only [iF, eL, cZ]
  split <;> exact ⟨rfl, rfl, rfl⟩
 refine ⟨ho, hs0, hs1, szI.app a4 (Nat.zero_le _), ?_, ?_, ?_⟩
 ·rw [hq.1]; exact szI.le a5 (by omega)
 ·rw [hq.2.1]; omega
 ·rw [hq.2.2]; omega
theorem Kn {n : Nat} {b : Bd} (h : szB n b) (id : Int) : szB n (o5 b id) := by
 obtain ⟨a1, a2, a3, a4, a5, a6, a7⟩ := h
 have hw : ∀ {l : List Int}, l.length ≤ n → (gN l id).length ≤ n := fun h => Nat.le_trans (List.length_filter_le _ _) h
 exact ⟨a1, ⟨hw a2.1, hw a2.2.1, hw a2.2.2.1, hw a2.2.2.2⟩, ⟨hw a3.1, hw a3.2.1, hw a3.2.2.1, hw a3.2.2.2⟩, ⟨Nat.le_trans (List.length_filter_le _ _) a4.1, fun x hx => a4.2 x (List.mem_filter.1 hx).1⟩, a5, hw a6, Nat.le_trans (List.length_filter_le _ _) a7⟩
theorem IK {n : Nat} {s : St} (h : szS n s) (z id : Int) : szS (n + 1) (Eh s z id) := by
 obtain ⟨h1, h2, h3, h4⟩ := h
 simp only [Eh]
 split
 ·exact ⟨by simp; omega, by show s.hand.length ≤ n + 1; omega, by show s.field.length ≤ n + 1; omega, by show s.grave.length ≤ n + 1; omega⟩
 split
 ·exact ⟨by show s.lib.length ≤ n + 1; omega, by simp; omega, by show s.field.length ≤ n + 1; omega, by show s.grave.length ≤ n + 1; omega⟩
 split
 ·exact ⟨by show s.lib.length ≤ n + 1; omega, by show s.hand.length ≤ n + 1; omega, by simp; omega, by show s.grave.length ≤ n + 1; omega⟩
 split
 ·exact ⟨by show s.lib.length ≤ n + 1; omega, by show s.hand.length ≤ n + 1; omega, by show s.field.length ≤ n + 1; omega, by simp; omega⟩
 ·exact ⟨by omega, by omega, by omega, by omega⟩
theorem FX {n : Nat} {b : Bd} (h : szB n b) (k : Nat) (o : Ob) (z : Int) : szB (n + 1) (d9 b k o z) := by
 obtain ⟨a1, a2, a3, a4, a5, a6, a7⟩ := Kn h o.id
 simp only [d9, sE, cZ, dt]
 split
 ·exact ⟨by simp only [eL, List.length_set]; omega, IK a2 _ _, szS.le a3 (by omega), szI.le a4 (by omega), szI.le a5 (by omega), Nat.le_trans a6 (by omega), Nat.le_trans a7 (by omega)⟩
 ·exact ⟨by simp only [eL, List.length_set]; omega, szS.le a2 (by omega), IK a3 _ _, szI.le a4 (by omega), szI.le a5 (by omega), Nat.le_trans a6 (by omega), Nat.le_trans a7 (by omega)⟩
theorem Cv {b : Bd} (h : aw b = true) {p : Int} (hp : p = 0 ∨ p = 1) {id : Int} (hm : id ∈ (dt b p).hand) :
  ∃ (k : Nat) (o : Ob), b.objs[k]? = some o ∧ o.id = id ∧ o.owner = p ∧ (cF b id != 0) = false ∧ gI b id = k ∧ (jO b id).2.1 = 1 ∧ i64 id := by
 have hpl := (aM h).1
 have hpair : (id, p) ∈ aH b := by
  simp only [aH, bF, List.map_append, List.mem_append, List.mem_map, Prod.mk.injEq]
  rcases hp with rfl | rfl
  ·exact .inl (.inr (.inl ⟨id, hm, rfl, rfl⟩))
  ·exact .inr (.inl (.inr (.inl ⟨id, hm, rfl, rfl⟩)))
 obtain ⟨k, o, e1, e2, e3⟩ := GP hpl hpair
 obtain ⟨hvo, _, hidx, _⟩ := co hpl e1
 have hb : (cF b id != 0) = false := by
  rw [cF, if_pos h, ← e2, hidx, if_neg (by omega)]; rfl
 have hid := pn hvo
 refine ⟨k, o, e1, e2, e3, hb, by rw [← e2]; exact hidx, ?_, by constructor <;> omega⟩
 rw [jO, if_neg (by rw [hb]; simp)]
 have hn := dJ hpl
 have hc := List.nodup_iff_count.1 hn id
 have hpos : ∀ {l : List Int}, id ∈ l → 1 ≤ l.count id := fun h => List.count_pos_iff.2 h
 simp only [Le, Ld, List.count_append] at hc
 have one : ∀ {l : List Int}, id ∈ l → 1 ≤ l.count id := hpos
 obtain ⟨s, hs⟩ := tU h e1
 rw [e2] at hs
 rw [hs]
 simp only [F3, Option.getD_some]
 unfold rq at hs
 split at hs
 ·rename_i s' hL
  rw [Option.some.inj hs] at hL
  obtain ⟨x, hx, x1, x2, j, x3, x4⟩ := Am hL
  have hxm := one (List.mem_of_getElem? x4)
  rw [x2]
  simp only [jN, List.mem_cons, List.not_mem_nil, or_false] at hx
  rcases hp with rfl | rfl
  ·have hm := one (show id ∈ b.s0.hand from hm)
   rcases hx with rfl | rfl | rfl | rfl | rfl | rfl | rfl | rfl <;> first | rfl | (simp only at hxm; omega)
  ·have hm := one (show id ∈ b.s1.hand from hm)
   rcases hx with rfl | rfl | rfl | rfl | rfl | rfl | rfl | rfl <;> first | rfl | (simp only at hxm; omega)
 ·rename_i hL
  have hno := tV hL
  simp only [jN, List.mem_cons, List.not_mem_nil, or_false, forall_eq_or_imp, forall_eq] at hno
  rcases hp with rfl | rfl
  ·exact absurd (show id ∈ b.s0.hand from hm) hno.2.1
  ·exact absurd (show id ∈ b.s1.hand from hm) hno.2.2.2.2.2.1
theorem Kz {cs : List Cd} {b : Bd} (h : aw b = true) {p x : Int} (hx : x ∈ oG cs b p) : 1 ≤ x ∧ x ≤ 500 := by
 rw [oG, iD] at hx
 split at hx
 ·obtain ⟨o, m, rfl⟩ := List.mem_map.1 hx
  obtain ⟨m, _⟩ := List.mem_filter.1 m
  obtain ⟨k, g⟩ := List.mem_iff_getElem?.1 m
  exact pn (co (aM h).1 g).1
 ·simp at hx
theorem II {x : Int} (h : 1 ≤ x ∧ x ≤ 500) : d6 ⟨x, 0⟩ = true := by
 have h1 : aq x 0 500 = true := by simp only [aq, decide_eq_true_eq]; omega
 simp only [d6, h1]; simp [aq]
theorem EL {p q : Int} (hp : p = 0 ∨ p = 1) {t : Tg} (h : t ∈ plT p) : d6 t = true := by
 simp only [plT, List.mem_cons, List.not_mem_nil, or_false] at h
 rcases hp with rfl | rfl <;> rcases h with rfl | rfl <;> decide
theorem FF {cs : List Cd} {b : Bd} {p k : Int} {t : Tg} (h : t ∈ tI cs b p k) : d6 t = true := by
 rw [tI] at h
 split at h
 case isFalse => cases h
 rename_i hc
 rw [Bool.and_eq_true] at hc
 obtain ⟨hw, hv⟩ := hc
 have hp : p = 0 ∨ p = 1 := by simp only [aq, decide_eq_true_eq] at hw; omega
 have ht : ∀ {l : List Int}, (∀ x ∈ l, 1 ≤ x ∧ x ≤ 500) → t ∈ tgs l → d6 t = true := fun hl hm => by
  obtain ⟨x, hx, rfl⟩ := List.mem_map.1 hm
  exact II (hl x hx)
 have ho : ∀ q, ∀ x ∈ oG cs b q, 1 ≤ x ∧ x ≤ 500 := fun q x hx => Kz hv hx
 have hbo : ∀ x ∈ tB cs b p, 1 ≤ x ∧ x ≤ 500 := fun x hx => by
  rcases IG.1 hx with hx | hx
  ·exact ho _ x hx
  ·exact ho _ x hx
 rw [AR] at h
 split at h
 ·exact ht hbo h
 split at h
 ·exact ht (ho _) h
 split at h
 ·exact ht (ho _) h
 split at h
 ·exact EL (q := p) hp h
 split at h
 ·rcases List.mem_append.1 h with h | h
  ·exact EL (q := p) hp h
  ·exact ht hbo h
 split at h
 ·refine ht (fun x hx => ?_) h
  obtain ⟨y, hy, rfl⟩ := List.mem_map.1 hx
  have hyf := hP hv (List.mem_reverse.1 (List.mem_filter.1 hy).1)
  simp only [ct, Bool.and_eq_true] at hyf
  exact of_decide_eq_true hyf.2.1
 ·cases h
theorem CY {c : Bd} (h : aw c = true) {l : List It} {x : It} (hl : c.stack = l ++ [x]) (hx : x.trig < 0) : (c.stack.filter fun y => !nH x.id y) = l := by
 have hn := dJ (aM h).1
 have h1 : ((bz c.stack).map (fun x : It => x.id)).Nodup := (List.nodup_append.1 (List.nodup_append.1 hn).2.1).2.1
 have ec : bz c.stack = bz l ++ [x] := by
  rw [hl, bz, List.filter_append, List.filter_cons, if_pos (decide_eq_true hx)]; rfl
 rw [ec, List.map_append, List.nodup_append] at h1
 rw [hl, List.filter_append, List.filter_cons, if_neg (by simp [nH, hx]), List.filter_nil, List.append_nil, List.filter_eq_self]
 intro y hy
 cases hon : nH x.id y
 ·rfl
 ·exfalso
  simp only [nH, Bool.and_eq_true, decide_eq_true_eq, beq_iff_eq] at hon
  exact h1.2.2 y.id (List.mem_map.2 ⟨y, List.mem_filter.2 ⟨hy, decide_eq_true hon.1⟩, rfl⟩) x.id (by simp) hon.2
theorem Fa {b : Bd} {k : Nat} {o : Ob} (ho : o.owner = 0 ∨ o.owner = 1) : (dt (d9 b k o 3) o.owner).grave = (dt (o5 b o.id) o.owner).grave ++ [o.id] := by
 rcases ho with h | h <;> simp [d9, sE, cZ, dt, h, Eh, eL]
theorem If {cs : List CdX} {x : It} {t : Int} (h : t ∈ bG cs x) : t ≠ 0 := by
 have := (List.mem_filter.1 h).2
 simpa using this
end Go.Proofs.YtieaihgbjikggaaGreat
namespace Go.Proofs.YtieaihgbjikggaaGreat
open Go Go.Sx
set_option maxRecDepth 100000
set_option maxHeartbeats 1000000
theorem Fd {α : Type} {Ts : List α} {n : Nat} (h : Ts.length = n + 1) : ∃ T, Ts = Ts.take n ++ [T] ∧ Ts[n]? = some T := by
 have hlt : n < Ts.length := by omega
 refine ⟨Ts[n], ?_, List.getElem?_eq_getElem hlt⟩
 have := List.take_append_drop n Ts
 rw [List.drop_eq_getElem_cons hlt, List.drop_of_length_le (by omega)] at this
 exact this.symm
theorem Ka {w : d8} {b : Bd} {O : Own} (ho : OwnBS tys w b O) {l : List It} {x : It} (hl : b.stack = l ++ [x]) :
  ∃ A1 T X s a, O.Perm (A1 ++ (T ++ X)) ∧ al (.idx 5) [w.s, iV l.length] = some (.pointer (some a)) ∧ OSl ar 2 s (bA x.tgs) T ∧
   (∀ (H : Heap) O', (∀ p ∈ A1, p ∈ O') → Reads H O' (.pointer (some a)) 5 [iV x.player, iV x.id, iV x.card, iV x.trig, s] ∧ Reads H O' (bc (.pointer (some a)) 4) 1 [s]) ∧
   ∀ T' s2 t O', OSl ar 2 s2 (bA (x.tgs ++ [t])) T' → O'.Perm (A1 ++ (T' ++ X)) → ∃ O1, rm O' (bc (.pointer (some a)) 4) [s2] O1 ∧ OwnB tys w { b with stack := l ++ [FI x t] } O1 := by
 obtain ⟨A, R, hp, ⟨rows, A1, Ts, q1, q2, q3, q4, q5⟩, back⟩ := ho
 have hn : b.stack.length = l.length + 1 := by rw [hl]; simp
 have hri : rows[l.length]? = some (rows[l.length]'(by omega)) := List.getElem?_eq_getElem (by omega)
 have hxi : b.stack[l.length]? = some x := by rw [hl]; exact d5 l x
 have hTi : l.length < Ts.length := by omega
 obtain ⟨s, e, hs⟩ := q5 _ _ _ _ hri hxi (List.getElem?_eq_getElem hTi)
 obtain ⟨p1, p2⟩ := qm hTi
 obtain ⟨a, k1, _⟩ := q2.store (O := A1) (O2 := []) (by simp) (k := .i64) hri
 refine ⟨A1, Ts[l.length], List.flatten (Ts.eraseIdx l.length) ++ R, s, a, ?_, k1, hs, fun H O' hm => ?_, fun T' s2 t O' hs2 hO => ?_⟩
 ·refine hp.trans ((q1.append_right R).trans ?_)
  rw [List.append_assoc]
  refine List.Perm.append_left A1 ?_
  refine (p1.append_right R).trans ?_
  rw [List.append_assoc]
 ·obtain ⟨a', i1, _, i2, i3⟩ := q2.idx hm H (k := .i64) hri
  have : a' = a := by
   rw [k1] at i1
   simpa using i1.symm
  subst this
  rw [e] at i2 i3
  exact ⟨i2, i3 4 1 (by omega)⟩
 ·obtain ⟨a', j1, j2⟩ := q2.store hO (k := .i64) hri
  have : a' = a := by
   rw [k1] at j1
   simpa using j1.symm
  subst this
  obtain ⟨A', hst, hA'⟩ := j2 4 [s2] (by simp) ⟨hs2.one, trivial⟩
  have hsp : cW (rows[l.length]'(by omega)) 4 [s2] = [iV x.player, iV x.id, iV x.card, iV x.trig, s2] := by rw [e]; rfl
  rw [hsp] at hA'
  refine ⟨_, hst, OwnB.perm (back w.s (l ++ [FI x t]) (A' ++ List.flatten (Ts.set l.length T')) ⟨_, A', Ts.set l.length T', List.Perm.refl _, hA', by simp [q3, hn], by simp [q4, hn], fun i r y Ty h1 h2 h3 => ?_⟩) ?_⟩
  ·by_cases hi : i = l.length
   ·subst hi
    rw [List.getElem?_set_self (by omega)] at h1 h3
    rw [d5] at h2
    simp only [Option.some.injEq] at h1 h2 h3
    subst h1; subst h2; subst h3
    exact ⟨s2, rfl, .inl hs2⟩
   ·rw [List.getElem?_set_ne (by omega)] at h1 h3
    have hil : i < l.length := by
     have := (List.getElem?_eq_some_iff.1 h2).1
     simp at this; omega
    rw [List.getElem?_append_left hil] at h2
    have h2' : b.stack[i]? = some y := by rw [hl, List.getElem?_append_left hil]; exact h2
    obtain ⟨s', e', k⟩ := q5 i r y Ty h1 h2' h3
    exact ⟨s', e', .inl k⟩
  ·rw [List.append_assoc]
   refine List.Perm.append_left A' ?_
   rw [← List.append_assoc]
   exact ((p2 T').append_right R).symm
theorem JE {w : d8} {b : Bd} {O : Own} (ho : OwnBS tys w b O) {l : List It} {x : It} (hl : b.stack = l ++ [x]) :
  ∃ A T s a u, O.Perm (A ++ T) ∧ al (.idx 5) [w.s, iV l.length] = some (.pointer (some a)) ∧ OSl ar 2 s (bA x.tgs) T ∧
   (∀ (H : Heap), Reads H O (.pointer (some a)) 5 [iV x.player, iV x.id, iV x.card, iV x.trig, s]) ∧
   al (.slc 5 false true false) [w.s, iV l.length] = some u ∧ OwnB tys { w with s := u } { b with stack := l } A := by
 obtain ⟨A, R, hp, ⟨rows, A1, Ts, q1, q2, q3, q4, q5⟩, back⟩ := ho
 have hn : b.stack.length = l.length + 1 := by rw [hl]; simp
 have hri : rows[l.length]? = some (rows[l.length]'(by omega)) := List.getElem?_eq_getElem (by omega)
 have hxi : b.stack[l.length]? = some x := by rw [hl]; exact d5 l x
 obtain ⟨T, eT, hT⟩ := Fd (Ts := Ts) (n := l.length) (by omega)
 obtain ⟨s, e, hs⟩ := q5 _ _ _ _ hri hxi hT
 obtain ⟨u, u1, u2⟩ := q2.upto (i := l.length) (by omega)
 obtain ⟨a, k1, _⟩ := q2.store (O := A1) (O2 := []) (by simp) (k := .i64) hri
 refine ⟨(A1 ++ List.flatten (Ts.take l.length)) ++ R, T, s, a, u, ?_, k1, hs, fun H => ?_, u1, back u l _ ⟨rows.take l.length, A1, Ts.take l.length, List.Perm.refl _, u2, by rw [List.length_take]; omega, by rw [List.length_take]; omega, fun i r y Ty h1 h2 h3 => ?_⟩⟩
 ·have e2 : List.flatten Ts = List.flatten (Ts.take l.length) ++ T := by
   conv => lhs; rw [eT]
   rw [List.flatten_append]; simp
  rw [e2] at q1
  refine hp.trans ((q1.append_right R).trans ?_)
  rw [List.append_assoc, List.append_assoc, List.append_assoc, List.append_assoc]
  refine List.Perm.append_left A1 ?_
  refine List.Perm.append_left _ ?_
  exact List.perm_append_comm
 ·obtain ⟨a', i1, _, i2, i3⟩ := q2.idx (fun p h => hp.mem_iff.2 (List.mem_append_left _ (q1.mem_iff.2 (List.mem_append_left _ h)))) H (k := .i64) hri
  have : a' = a := by
   rw [k1] at i1
   simpa using i1.symm
  subst this
  rw [e] at i2
  exact i2
 ·have hil : i < l.length := (List.getElem?_eq_some_iff.1 h2).1
  rw [List.getElem?_take, if_pos hil] at h1 h3
  have h2' : b.stack[i]? = some y := by rw [hl, List.getElem?_append_left hil]; exact h2
  obtain ⟨s', e', k⟩ := q5 i r y Ty h1 h2' h3
  exact ⟨s', e', .inl k⟩
def Af (b : Bd) : It := b.stack.getLast?.getD zIt
theorem mM {b : Bd} {l : List It} {x : It} (hl : b.stack = l ++ [x]) : Af b = x := by simp [Af, hl]
def Hs (cs : List CdX) (b : Bd) (t : Tg) : Bd × Int := if jc cs b = 0 then (zBd, 8) else if Cm (cs.map CdX.base) b (Jl b) (jc cs b) t = true then ({ b with stack := b.stack.dropLast ++ [FI (Af b) t] }, 0) else (zBd, 14)
theorem KQ {H : Heap} {cv : Value} {cs : List CdX} (hk : CardsX H cv cs) (hli : dR (cs.map CdX.base) = true) {v : d8} {b : Bd} (h : BdS H v b) (hv : aw b = true) (hB : bdB b) (t : Tg) :
  Triple PP yA [cv, .agg (ay v b).toArray, .agg t.row.toArray] H [] fun r _ O' => ∃ w, r = .tuple #[.agg (ay w (Hs cs b t).1).toArray, iV (Hs cs b t).2] ∧ OwnB tys w (Hs cs b t).1 O' := by
 refine Ap (vs := cv :: (ay v b ++ t.row)) (by kernel_rfl) ⟨hk.one, aP (au (h.r [])) (Ag t)⟩ ?_
 simp only [sy]
 have h200 := qR hv
 refine ai fun r0 => ai fun r1 => ai fun r2 => ?_
 refine ae ?_
 refine aj (bg (h.r [])) rfl ⟨rfl, trivial⟩ fun H1 l1 => ?_
 rw [hv]
 have h := h.le l1
 have hk := hk.le l1
 refine ab _ (az _) (ak (fun hd => by cases hd) (fun _ => ?_))
 refine ae ?_
 refine aj (yh hk hli h hv) rfl ⟨rfl, trivial⟩ fun H2 l2 => ?_
 have h := h.le l2
 have hk := hk.le l2
 have slen : al .len [v.s] = some (iV b.stack.length) := ItsR.len (h.stack.r [])
 refine ab _ (aF _ _) (ak (fun h0 => ?_) (fun h0 => ?_))
 ·have h0 : jc cs b = 0 := by simpa using h0
  have e : Hs cs b t = (zBd, 8) := by rw [Hs, if_pos h0]
  refine ae (ae ?_)
  exact ah ⟨AK, by rw [e]; rfl, by rw [e]; exact OwnB.zero tys⟩
 have h0 : jc cs b ≠ 0 := by simpa using h0
 have hne : b.stack ≠ [] := fun e => h0 (sX e)
 obtain ⟨l, x, hl⟩ := BH hne
 have hlen : b.stack.length = l.length + 1 := by rw [hl]; simp
 have hxf := hP hv (x := x) (by rw [hl]; simp)
 have ht4 : x.tgs.length ≤ 4 := by
  simp only [ct, Bool.and_eq_true, Bool.not_eq_true', Bool.or_eq_false_iff, decide_eq_false_iff_not] at hxf
  have := hxf.2.2.2.2.1.1.1
  omega
 obtain ⟨a, s, k1, hs, k2, k3⟩ := oH (O := []) h.stack (i := l.length) (x := x) (by rw [hl]; exact d5 l x)
 have esub : ((b.stack.length : Int) - 1) = (l.length : Int) := by omega
 refine ae (ae (ae ?_))
 refine ab _ slen ?_
 refine ab _ (za (by omega) (by omega)) ?_
 rw [esub]
 refine ab _ k1 (aL rfl (ap (k3 0 1 (by omega)) rfl ⟨rfl, trivial⟩ ?_))
 refine ae ?_
 refine aj (J7 hk.base hli h (by omega) x.player (jc cs b) t) rfl ⟨rfl, trivial⟩ fun H3 l3 => ?_
 have h := h.le l3
 refine ab _ (az _) (ak (fun hg => ?_) (fun hg => ?_))
 ·have hg : Cm (cs.map CdX.base) b (Jl b) (jc cs b) t = false := by rw [Ae hl]; exact yC hg
  have e : Hs cs b t = (zBd, 14) := by rw [Hs, if_neg h0, if_neg (by rw [hg]; simp)]
  refine ae (ae ?_)
  exact ah ⟨AK, by rw [e]; rfl, by rw [e]; exact OwnB.zero tys⟩
 have hg : Cm (cs.map CdX.base) b (Jl b) (jc cs b) t = true := by rw [Ae hl]; exact rX hg
 have e : Hs cs b t = ({ b with stack := l ++ [FI x t] }, 0) := by rw [Hs, if_neg h0, if_pos hg, mM hl, hl, List.dropLast_concat]
 rw [e]
 refine ae ?_
 refine aC (DQ h hB) ?_
 rintro _ H4 O4 ⟨w, rfl, ho⟩ l4
 refine ⟨ay w b, rfl, kM H4 ho.weak, ?_⟩
 rw [List.append_nil]
 have slen4 : al .len [w.s] = some (iV b.stack.length) := ItsR.len (ho.weak.r (fun _ h => h) H4).stack
 obtain ⟨A1, T, X, s4, a4, p1, i1, hs4, rd, st⟩ := Ka ho hl
 refine ai fun r3 => ?_
 refine ae (ae (ae ?_))
 refine ab _ slen4 ?_
 refine ab _ (za (by omega) (by omega)) ?_
 rw [esub]
 refine ab _ i1 ?_
 refine aL rfl (aL rfl ?_)
 refine ap (rd H4 O4 (fun p hp => p1.mem_iff.2 (List.mem_append_left _ hp))).2 rfl ⟨hs4.one, trivial⟩ ?_
 refine ae ?_
 refine ai fun r4 => ?_
 have p2 : O4.Perm (T ++ (A1 ++ X)) := p1.trans (List.perm_append_comm_assoc _ _ _)
 refine aI (rows := bA x.tgs) (news := [t.row]) (O1 := T) (O2 := A1 ++ X) (e := ar) (size := 2) (bytes := 16) (by kernel_rfl) p2 hs4 (fun Hf _ hf => Sl.block1 (hf _ List.mem_cons_self) rfl ⟨rfl, rfl, trivial⟩) (by rw [aT]; simp; omega) (by rw [aT]; simp; omega) ?_
 intro s5 T' H5 l5 hT'
 have hT2 : OSl ar 2 s5 (bA (x.tgs ++ [t])) T' := by
  have : bA (x.tgs ++ [t]) = bA x.tgs ++ [t.row] := by simp [bA]
  rw [this]; exact hT'
 obtain ⟨O6, k5, k6⟩ := st T' s5 t _ hT2 (List.perm_append_comm_assoc _ _ _)
 refine aL rfl (aL rfl (aL rfl ?_))
 refine ⟨_, k5, ?_⟩
 refine ae (ae (ae ?_))
 exact ah ⟨w, rfl, k6⟩
def zg (b : Bd) : Bd × Int := if aw b = false then (zBd, 2) else if b.stack = [] then (zBd, 9) else if (Af b).trig = -1 then ((qe b (Af b).id 3).1, 0) else ({ b with stack := b.stack.dropLast }, 0)
def zh (b : Bd) : It := if aw b = false then zIt else Af b
theorem Ls {H : Heap} {v : d8} {b : Bd} (h : BdS H v b) (hB : bdB b) :
    Triple PP oC [.agg (ay v b).toArray] H [] fun r _ O' => ∃ w s A T, r = .tuple #[.agg (ay w (zg b).1).toArray, .agg #[iV (zh b).player, iV (zh b).id, iV (zh b).card, iV (zh b).trig, s], iV (zg b).2] ∧
      O'.Perm (A ++ T) ∧ OwnB tys w (zg b).1 A ∧ OSl ar 2 s (bA (zh b).tgs) T := by
  by_cases hv : aw b = true
  case neg =>
    have hv : aw b = false := by simpa using hv
    have e : zg b = (zBd, 2) := by rw [zg, if_pos hv]
    have e2 : zh b = zIt := by rw [zh, if_pos hv]
    rw [e, e2]
    refine (JF h hv).mono ?_
    rintro r H' O' _ ⟨rfl, rfl⟩
    exact ⟨AK, .slice none 0 0, [], [], rfl, List.Perm.refl _, OwnB.zero tys, OSl.nil _ _⟩
  have e2 : zh b = Af b := by rw [zh, if_neg (by rw [hv]; simp)]
  refine sO (vs := ay v b) (by kernel_rfl) (au (h.r [])) ?_
  simp only [og]
  have h200 := qR hv
  refine ai fun r0 => ai fun r1 => ai fun r2 => ?_
  refine ae ?_
  refine aj (bg (h.r [])) rfl ⟨rfl, trivial⟩ fun H1 l1 => ?_
  rw [hv]
  have h := h.le l1
  have slen : al .len [v.s] = some (iV b.stack.length) := ItsR.len (h.stack.r [])
  refine ab _ (az _) (ak (fun hd => by cases hd) (fun _ => ?_))
  refine ae ?_
  refine ab _ slen ?_
  refine ab _ (aF _ _) (ak (fun h0 => ?_) (fun h0 => ?_))
  · have h0 : b.stack = [] := List.length_eq_zero_iff.1 (by have : (b.stack.length : Int) = 0 := by simpa using h0
                                                            omega)
    have e : zg b = (zBd, 9) := by rw [zg, if_neg (by rw [hv]; simp), if_pos h0]
    have e3 : Af b = zIt := by simp [Af, h0]
    rw [e, e2, e3]
    refine ae (ae (ae (ae ?_)))
    exact ah ⟨AK, .slice none 0 0, [], [], rfl, List.Perm.refl _, OwnB.zero tys, OSl.nil _ _⟩
  have hne : b.stack ≠ [] := fun e => by rw [e] at h0; simp at h0
  obtain ⟨l, x, hl⟩ := BH hne
  have hlen : b.stack.length = l.length + 1 := by rw [hl]; simp
  have hxf := hP hv (x := x) (by rw [hl]; simp)
  have hxid : i64 x.id := by
    simp only [ct, aq, Bool.and_eq_true, decide_eq_true_eq] at hxf
    constructor <;> omega
  have esub : ((b.stack.length : Int) - 1) = (l.length : Int) := by omega
  have etop := mM hl
  rw [e2, etop]
  refine ae ?_
  refine aC (DQ h hB) ?_
  rintro _ H4 O4 ⟨w, rfl, ho⟩ l4
  refine ⟨ay w b, rfl, kM H4 ho.weak, ?_⟩
  rw [List.append_nil]
  have h := h.le l4
  obtain ⟨A, T, s4, a4, u, p1, i1, hs4, rd, hu, hpop⟩ := JE ho hl
  refine ai fun r3 => ?_
  refine ae (ae ?_)
  refine ab _ (za (by omega) (by omega)) ?_
  rw [esub]
  refine ab _ i1 (ap (rd H4) rfl ⟨rfl, rfl, rfl, rfl, hs4.one, trivial⟩ (ai fun r4 => ?_))
  refine ae (ae ?_)
  refine ab _ (aF _ _) (ak (fun ht => ?_) (fun ht => ?_))
  · have ht : x.trig = -1 := by simpa using ht
    have e : zg b = ((qe b x.id 3).1, 0) := by rw [zg, if_neg (by rw [hv]; simp), if_neg hne, etop, if_pos ht]
    rw [e]
    refine ae (ae ?_)
    refine aC (KO h hB hxid 3) ?_
    rintro _ H5 O5 ⟨w5, rfl, ho5⟩ l5
    refine ⟨ay w5 (qe b x.id 3).1 ++ [iV (qe b x.id 3).2], rfl, aP (kM H5 ho5) ⟨rfl, trivial⟩, ?_⟩
    repeat (first | refine ae ?_ | refine af ?_ | refine aL rfl ?_)
    refine Av (O' := O5 ++ T) (Y := A) ?_ ⟨w5, s4, O5, T, rfl, List.Perm.refl _, ho5, hs4⟩
    rw [List.append_assoc]
    exact (p1.trans List.perm_append_comm).append_left O5
  · have ht : x.trig ≠ -1 := by simpa using ht
    have e : zg b = ({ b with stack := l }, 0) := by rw [zg, if_neg (by rw [hv]; simp), if_neg hne, etop, if_neg ht, hl, List.dropLast_concat]
    rw [e]
    refine ae ?_
    refine ab _ (za (by omega) (by omega)) ?_
    rw [esub]
    refine ab _ hu ?_
    repeat (first | refine ae ?_ | refine af ?_ | refine aL rfl ?_)
    exact ah ⟨{ w with s := u }, s4, A, T, rfl, p1, hpop, hs4⟩
end Go.Proofs.YtieaihgbjikggaaGreat
namespace Go.Proofs.YtieaihgbjikggaaGreat
open Go Go.Sx
set_option maxRecDepth 100000
set_option maxHeartbeats 1000000
def itC (o : Ob) (ts : List Tg) : It := ⟨o.owner, o.id, o.card, -1, ts⟩
def cI (b : Bd) (k j : Nat) (o : Ob) (ts : List Tg) : Bd := { iF b k j o with stack := b.stack ++ [itC o ts] }
section
variable {b : Bd} {k j : Nat} {o : Ob} {ts : List Tg}
theorem CO : (cI b k j o ts).stack = b.stack ++ [itC o ts] := rfl
theorem EI (h : aw (cI b k j o ts) = true) (h4 : ts.length < 4) {t : Tg} (ht : d6 t = true) : aw (cI b k j o (ts ++ [t])) = true :=
 Hr h (l := b.stack) (x := itC o ts) rfl (by show (-1 : Int) < 0; omega) h4 ht
theorem KR {n : Nat} (h : szB n b) (ht : ts.length ≤ n + 1) : szB (n + 1) (cI b k j o ts) :=
 Ai (Jn h k j o) (Nat.le_refl _) (szI.app h.2.2.2.1 ht)
theorem Ho (cs : List CdX) : jc cs (cI b k j o ts) = if (ts.length : Int) < min 4 ((bG cs (itC o [])).length : Int) then (bG cs (itC o [])).getD ts.length 0 else 0 := by
 rw [qb (l := b.stack) (x := itC o ts) rfl, yO]
 have e : bG cs (itC o ts) = bG cs (itC o []) := rfl
 rw [e]
 by_cases h : (ts.length : Int) < min 4 ((bG cs (itC o [])).length : Int)
 ·rw [if_pos h, if_pos ⟨rfl, h⟩]; rfl
 ·rw [if_neg h, if_neg (fun hh => h hh.2)]
theorem zW {cs : List CdX} (h : ts.length < min 4 (bG cs (itC o [])).length) : jc cs (cI b k j o ts) ≠ 0 := by
 rw [Ho, if_pos (by omega)]
 have hlt : ts.length < (bG cs (itC o [])).length := by omega
 rw [List.getD_eq_getElem?_getD, List.getElem?_eq_getElem hlt]
 exact If (List.getElem_mem hlt)
theorem CQ {cs : List CdX} (h : ¬ ts.length < min 4 (bG cs (itC o [])).length) : jc cs (cI b k j o ts) = 0 := by
 rw [Ho, if_neg (by omega)]
theorem Jf {cs : List CdX} (h0 : jc cs (cI b k j o ts) ≠ 0) {t : Tg} (hm : t ∈ eh cs (cI b k j o ts)) : Hs cs (cI b k j o ts) t = (cI b k j o (ts ++ [t]), 0) := by
 rw [eh, if_neg h0] at hm
 have hg : Cm (cs.map CdX.base) (cI b k j o ts) (Jl (cI b k j o ts)) (jc cs (cI b k j o ts)) t = true := List.any_eq_true.2 ⟨t, hm, by simp⟩
 rw [Hs, if_neg h0, if_pos hg, mM (l := b.stack) (x := itC o ts) rfl, CO, List.dropLast_concat]
 rfl
theorem uP {cs : List CdX} {c : Bd} {t : Tg} (hm : t ∈ eh cs c) : d6 t = true := by
 rw [eh] at hm
 split at hm
 ·cases hm
 ·exact FF hm
variable (hk : b.objs[k]? = some o)
include hk
theorem Je : (cI b k j o ts).objs[k]? = some (bD o 4) := by
 have : (cI b k j o ts).objs = b.objs.set k (bD o 4) := by simp only [cI, iF, eL, cZ]; split <;> rfl
 rw [this]
 have := (List.getElem?_eq_some_iff.1 hk).1
 simp [this]
theorem Jd (hv : aw (cI b k j o ts) = true) : zg (cI b k j o ts) = (d9 (cI b k j o ts) k (bD (bD o 4) 3) 3, 0) ∧ zh (cI b k j o ts) = itC o ts := by
 have htop := mM (b := cI b k j o ts) (l := b.stack) (x := itC o ts) rfl
 have ho := Je (j := j) (ts := ts) hk
 have hidx : gI (cI b k j o ts) o.id = k := (co (aM hv).1 ho).2.2.1
 have hb : (cF (cI b k j o ts) o.id != 0) = false := by
  rw [cF, if_pos hv, hidx, if_neg (by omega)]; rfl
 have hfo := rf hb ho hidx
 refine ⟨?_, by rw [zh, if_neg (by rw [hv]; simp), htop]⟩
 have hne : (cI b k j o ts).stack ≠ [] := by rw [CO]; simp
 rw [zg, if_neg (by rw [hv]; simp), if_neg hne, htop, if_pos (show (itC o ts).trig = -1 from rfl)]
 show ((qe (cI b k j o ts) o.id 3).1, (0 : Int)) = _
 rw [qe, if_neg (by rw [Ff hb]; decide), if_neg (by rw [hb]; simp), hfo, hidx]
 rfl
theorem CP (hv : aw (cI b k j o ts) = true) : aw (d9 (cI b k j o ts) k (bD (bD o 4) 3) 3) = true ∧ (d9 (cI b k j o ts) k (bD (bD o 4) 3) 3).stack = b.stack ∧
  ∃ gr, (dt (d9 (cI b k j o ts) k (bD (bD o 4) 3) 3) o.owner).grave = gr ++ [o.id] := by
 have ho := Je (j := j) (ts := ts) hk
 have hown := (co (aM hv).1 ho).2.2.2
 refine ⟨E8 hv ho (by omega), ?_, _, Fa (o := bD (bD o 4) 3) hown⟩
 rw [qZ]
 exact CY hv (l := b.stack) (x := itC o ts) rfl (by show (-1 : Int) < 0; omega)
end
theorem Ip {H : Heap} {v : d8} {b : Bd} (h : BdS H v b) (hB : bdB b) :
  Triple PP oC [.agg (ay v b).toArray] H [] fun r H' O' => (∃ w s, r = .tuple #[.agg (ay w (zg b).1).toArray, .agg #[iV (zh b).player, iV (zh b).id, iV (zh b).card, iV (zh b).trig, s], iV (zg b).2] ∧
   BdS H' w (zg b).1 ∧ Sl H' 2 s (bA (zh b).tgs)) ∧ O' = [] := by
 refine Triple.ghost (Ls h hB) ?_
 rintro r H' O' _ hc ⟨w, s, A, T, rfl, hp, ho, hs⟩
 have hc := hc.perm hp
 obtain ⟨H1, g1, k1, l1⟩ := ho.freeze hc
 have hc := hc.ghost g1
 obtain ⟨H2, g2, k2, l2⟩ := hs.freeze (X := []) (by simpa using hc)
 exact ⟨H2, [], (Ghost.perm hp).trans (g1.trans (by simpa using g2)), ⟨w, s, rfl, k1.le l2, k2⟩, rfl⟩
end Go.Proofs.YtieaihgbjikggaaGreat
namespace Go.Proofs.YtieaihgbjikggaaGreat
open Go Go.Sx
set_option maxRecDepth 100000
set_option maxHeartbeats 1000000
theorem JT (a b : Int) : al (.bin .gtr .int) [.int .u8 a, .int .u8 b] = some (.bool (decide (a > b))) := by simp [al, fe, dP]
end Go.Proofs.YtieaihgbjikggaaGreat
namespace Go.Proofs.YtieaihgbjikggaaGreat
open Go Go.Sx
set_option maxRecDepth 100000
set_option maxHeartbeats 1000000
theorem IP {H : Heap} {cv : Value} {cs : List CdX} (hk : CardsX H cv cs) (hli : dR (cs.map CdX.base) = true) {v : d8} {b : Bd} (h : BdS H v b) {wh : Int} (hw : 0 ≤ wh ∧ wh ≤ 255) (x : It) {s : Value} (hv : aw b = true) (hsz : szB 40 b) (hB : bdB b) (hst : b.stack.length ≤ 40) (r0 n1 n2 n3 : Nat) :
  (aV r0 (cv :: (ay v b ++ [.int .u8 0, .int .u8 wh, iV x.player, iV x.id, iV x.card, iV x.trig, s])) 8 n1 n2 n3).den PP (fun r _ O' => r = .bool true ∧ O' = []) H [] := by
 simp only [aV]
 have hlen8 : al .len [v.h0] = some (iV b.s0.hand.length) := by have := h.s0.hand.len; rwa [aO, List.length_map] at this
 refine ae ?_
 refine ab _ hlen8 ?_
 refine ab _ (aF _ _) (ak (fun _ => ?_) (fun h0 => ?_))
 ·exact aj (dM _ _) rfl ⟨rfl, trivial⟩ fun _ _ => ah ⟨rfl, rfl⟩
 have hne : 0 < b.s0.hand.length := by
  rcases Nat.eq_zero_or_pos b.s0.hand.length with e | e
  ·rw [e] at h0; cases h0
  ·exact e
 refine ab _ (Hc hw) ?_
 refine ab _ hlen8 ?_
 refine ab _ (Gh hw.1 hne) ?_
 obtain ⟨j, hjlt, hjj⟩ : ∃ j, j < b.s0.hand.length ∧ wh.toNat % b.s0.hand.length = j := ⟨_, Nat.mod_lt _ hne, rfl⟩
 rw [hjj]
 obtain ⟨id, hid⟩ : ∃ id, b.s0.hand[j]? = some id := ⟨_, List.getElem?_eq_getElem hjlt⟩
 obtain ⟨a0, i1, i2, _, i3, i4⟩ := (h.s0.hand.rsl ([] : Own)).idx .i64 j [iV id] (by rw [aO, List.getElem?_map, hid]; rfl)
 refine ab _ i1 (ap i2 rfl ⟨rfl, trivial⟩ ?_)
 obtain ⟨k, o, e1, e2, e3, hb0, hidx, hz, hid64⟩ := Cv hv (p := 0) (.inl rfl) (show id ∈ (dt b 0).hand from List.mem_of_getElem? hid)
 have hfo := rf hb0 e1 hidx
 refine ae ?_
 refine aC (Triple.frozen2 (Jc h hB hid64)) ?_
 rintro _ H6 _ ⟨⟨w6, rfl, h6⟩, rfl⟩ l6
 have h := h.le l6
 have hk := hk.le l6
 have slen : al .len [v.s] = some (iV b.stack.length) := ItsR.len (h.stack.r [])
 by_cases hcard : o.card < 0
 ·have ec : nN b id = (zBd, 8) := by rw [nN, if_neg (by rw [hb0]; simp), hfo, if_pos (by simp [hcard])]
  rw [ec] at h6 ⊢
  have h6 : BdS H6 w6 zBd := h6
  refine ⟨ay w6 zBd ++ [iV 8], rfl, aP (au (h6.r [])) ⟨rfl, trivial⟩, ai fun r5 => ?_⟩
  refine ae ?_
  refine ab _ (aF _ _) (ak (fun _ => ?_) (fun hd => by cases hd))
  refine ae (ae ?_)
  refine aj (w9 (h.r []) id) rfl ⟨rfl, trivial⟩ fun H7 l7 => ?_
  have h := h.le l7
  rw [hidx]
  obtain ⟨a1, j1, _, j3, _, _⟩ := (h.objs.rsl ([] : Own)).idx .i64 k (Ob.row o) (by rw [List.getElem?_map, e1]; rfl)
  refine ab _ j1 (aL rfl (ap (vs := [iV o.card]) (j3 1 1 (by omega)) rfl ⟨rfl, trivial⟩ ?_))
  refine ab _ (aF _ _) (ak (fun _ => ?_) (fun hd => ?_))
  ·exact aj (dM _ _) rfl ⟨rfl, trivial⟩ fun _ _ => ah ⟨rfl, rfl⟩
  ·exfalso
   have hvo := (co (aM hv).1 e1).1
   simp only [ba, Bool.and_eq_true, decide_eq_true_eq] at hvo
   have h1 : o.card ≥ -1 := hvo.1.2.1.2
   have : o.card = -1 := by omega
   have hd : (o.card == -1) = false := hd
   rw [this] at hd
   cases hd
 obtain ⟨j', hj1, hj⟩ := ye hb0 hz e1 e2
 have ec : nN b id = (cI b k j' o [], 0) := by
  rw [nN, if_neg (by rw [hb0]; simp), hfo, if_neg (by rw [hz]; simp; omega), if_neg (by simp; omega), hidx, hj1]
  rfl
 rw [ec] at h6 ⊢
 have h6 : BdS H6 w6 (cI b k j' o []) := h6
 refine ⟨ay w6 (cI b k j' o []) ++ [iV 0], rfl, aP (au (h6.r [])) ⟨rfl, trivial⟩, ai fun r5 => ?_⟩
 have hcv : aw (cI b k j' o []) = true := zT hv e1 (by rw [e2]; exact hj) (by omega) (by omega)
 have hszc : ∀ ts : List Tg, ts.length ≤ 4 → szB 41 (cI b k j' o ts) := fun ts ht => KR hsz (by omega)
 refine ae ?_
 refine ab _ (aF _ _) (ak (fun hd => by cases hd) (fun _ => ?_))
 refine ae ?_
 refine ab _ slen ?_
 refine ab _ (aX _ _) (ak (fun hd => by cases hd) (fun _ => ?_))
 refine ae ?_
 refine aj (jE (h6.r []) (mN (hszc [] (Nat.zero_le _)) (by omega))) rfl ⟨rfl, trivial⟩ fun H7 l7 => ?_
 rw [im, hcv]
 have h := h.le l7
 have hk := hk.le l7
 have h6 := h6.le l7
 have clen : ∀ {H' : Heap} {w' : d8} {ts : List Tg}, BdS H' w' (cI b k j' o ts) → al .len [w'.s] = some (iV ((b.stack.length + 1 : Nat) : Int)) := fun hh => by
  rw [ItsR.len (hh.stack.r []), CO, List.length_append]; rfl
 refine ab _ (az _) ?_
 refine ae (af (af ?_))
 refine ab _ (clen h6) ?_
 refine af ?_
 refine ab _ (ax (by omega)) ?_
 refine af (af ?_)
 refine ab _ (aX _ _) ?_
 refine af ?_
 refine ab _ (aA _ _) (ak (fun hd => ?_) (fun _ => ?_))
 ·simp at hd
 obtain ⟨a2, s2, q1, hs2, q2, _⟩ := oH (O := []) h6.stack (i := b.stack.length) (x := itC o []) (by rw [CO]; exact d5 _ _)
 refine ae ?_
 refine ab _ q1 (ap q2 rfl ⟨rfl, rfl, rfl, rfl, hs2.one, trivial⟩ ?_)
 refine aC (Triple.frozenS (uu hk hli o.owner o.id o.card (-1) hs2.one)) ?_
 rintro ev H8 _ ⟨hev, rfl⟩ l8
 refine ⟨[ev], rfl, ⟨hev.one, trivial⟩, ?_⟩
 have h := h.le l8
 have hk := hk.le l8
 have h6 := h6.le l8
 have hn5 := qY hli (itC o [])
 have hn6 := tj hli o.card (-1)
 have elen : al .len [ev] = some (iV (lS cs o.card (-1)).length) := by have := hev.len; rwa [fY, List.length_map] at this
 refine dq (lS cs o.card (-1)).length (fun i x H' O' => x = iV (((bo (((lS cs o.card (-1)).take i).map (·.target))).length : Nat) : Int) ∧ O' = [] ∧ Heap.le H8 H') ⟨rfl, rfl, Heap.le_refl _⟩ ?_
 rintro i _ H9 _ hi _ ⟨rfl, rfl, l9⟩
 refine ab _ elen ?_
 refine ab _ (aB _ _) (ak (fun hlt => ?_) (fun hlt => ?_))
 ·have hlt : i < (lS cs o.card (-1)).length := by simpa using hlt
  obtain ⟨a3, t1, _, t3, _, _⟩ := ((hev.le l9).rsl ([] : Own)).idx .i64 i (Eff.row (lS cs o.card (-1))[i]) (by rw [fY, List.getElem?_map, List.getElem?_eq_getElem hlt]; rfl)
  have etk : ((lS cs o.card (-1)).take (i + 1)).map (·.target) = ((lS cs o.card (-1)).take i).map (·.target) ++ [(lS cs o.card (-1))[i].target] := by
   rw [← List.take_append_getElem hlt, List.map_append]; rfl
  have hsm : (bo (((lS cs o.card (-1)).take i).map (·.target))).length ≤ 5 := by
   have h1 : (bo (((lS cs o.card (-1)).take i).map (·.target))).length ≤ _ := List.length_filter_le _ _
   rw [List.length_map, List.length_take] at h1
   omega
  refine ab _ t1 (aL rfl (ap (vs := [iV (lS cs o.card (-1))[i].target]) (t3 1 1 (by omega)) rfl ⟨rfl, trivial⟩ ?_))
  refine ab _ (aX _ _) (ak (fun hd => ?_) (fun hd => ?_))
  ·have hd : ((lS cs o.card (-1))[i].target != 0) = true := hd
   refine ab _ (ax (by omega)) ?_
   refine ab _ (ax (by omega)) (aN (by simp [Eqs, E]) hlt ⟨?_, rfl, l9⟩)
   rw [etk, bo, bo, List.filter_append, List.filter_cons, if_pos hd, List.length_append]; rfl
  ·have hd : ((lS cs o.card (-1))[i].target != 0) = false := hd
   refine ab _ (ax (by omega)) (aN (by simp [Eqs, E]) hlt ⟨?_, rfl, l9⟩)
   rw [etk, bo, bo, List.filter_append, List.filter_cons, if_neg (by rw [hd]; simp), List.length_append]; rfl
 have hieq : i = (lS cs o.card (-1)).length := by
  have := of_decide_eq_false hlt; omega
 subst hieq
 have en : (bo (((lS cs o.card (-1)).take (lS cs o.card (-1)).length).map (·.target))).length = (bG cs (itC o [])).length := by rw [List.take_length]; rfl
 rw [en]
 have h := h.le l9
 have hk := hk.le l9
 have h6 := h6.le l9
 have eN : min ((bG cs (itC o [])).length : Int) 4 = ((min 4 (bG cs (itC o [])).length : Nat) : Int) := by omega
 refine ab _ (GB _ _) ?_
 rw [eN]
 refine iy (fun vs H' O' => ∃ (i : Nat) (w : d8) (ts : List Tg), vs = iV i :: ay w (cI b k j' o ts) ∧ i ≤ min 4 (bG cs (itC o [])).length ∧ O' = [] ∧ Heap.le H9 H' ∧ ts.length = i ∧ BdS H' w (cI b k j' o ts) ∧ aw (cI b k j' o ts) = true) (fun vs _ _ => match g vs 0 with | .int _ z => min 4 (bG cs (itC o [])).length - z.toNat | _ => 0) ⟨0, w6, [], rfl, Nat.zero_le _, rfl, Heap.le_refl _, rfl, h6, hcv⟩ ?_
 clear hcv
 rintro _ H10 _ _ _ _ ⟨i, wc, ts, rfl, hi, rfl, l10, hts, hc, hcv⟩
 have h := h.le l10
 have hk := hk.le l10
 have hszi := hszc ts (by omega)
 refine ab _ (aB _ _) (ak (fun hlt => ?_) (fun hlt => ?_))
 ·have hlt : i < min 4 (bG cs (itC o [])).length := by have := of_decide_eq_true hlt; omega
  have hne0 : jc cs (cI b k j' o ts) ≠ 0 := zW (by omega)
  refine ae ?_
  refine aj (yh hk hli hc hcv) rfl ⟨rfl, trivial⟩ fun H11 l11 => ?_
  have h := h.le l11
  have hk := hk.le l11
  have hc := hc.le l11
  refine ab _ (aF _ _) (ak (fun hd => absurd (by simpa using hd) hne0) (fun _ => ?_))
  refine ae ?_
  refine aC (BY hk hli hc hcv (Hy hszi (by omega)) (mN hszi (by omega))) ?_
  rintro tv H12 _ ⟨htv, rfl⟩ l12
  refine ⟨[tv], rfl, ⟨htv.one, trivial⟩, ?_⟩
  have h := h.le l12
  have hk := hk.le l12
  have hc := hc.le l12
  have tlen : al .len [tv] = some (iV (eh cs (cI b k j' o ts)).length) := by have := htv.len; rwa [aT] at this
  refine ab _ tlen ?_
  refine ab _ (aF _ _) (ak (fun _ => ?_) (fun hd => ?_))
  ·exact aj (dM _ _) rfl ⟨rfl, trivial⟩ fun _ _ => ah ⟨rfl, rfl⟩
  obtain ⟨t, tr, htt⟩ : ∃ t tr, eh cs (cI b k j' o ts) = t :: tr := by
   cases hh : eh cs (cI b k j' o ts) with
   | nil => rw [hh] at hd; cases hd
   | cons t tr => exact ⟨t, tr, rfl⟩
  have hmem : t ∈ eh cs (cI b k j' o ts) := by rw [htt]; simp
  obtain ⟨a4, u1, u2, _, u4, u5⟩ := (htv.rsl ([] : Own)).idx .i64 0 (Tg.row t) (by rw [htt]; rfl)
  refine ae ?_
  refine ab _ u1 (ap u2 u4 u5 ?_)
  refine aC (Triple.frozen2 (KQ hk hli hc hcv (Hy hszi (by omega)) t)) ?_
  rintro _ H13 _ ⟨⟨w13, rfl, h13⟩, rfl⟩ l13
  have h := h.le l13
  have hk := hk.le l13
  rw [Jf hne0 hmem] at h13 ⊢
  have h13 : BdS H13 w13 (cI b k j' o (ts ++ [t])) := h13
  have hcv2 := EI hcv (by omega) (uP hmem)
  have hts2 : (ts ++ [t]).length = i + 1 := by simp [hts]
  refine ⟨ay w13 (cI b k j' o (ts ++ [t])) ++ [iV 0], rfl, aP (au (h13.r [])) ⟨rfl, trivial⟩, ?_⟩
  refine ae ?_
  refine ab _ (aX _ _) (ak (fun hd => by cases hd) (fun _ => ?_))
  refine ae ?_
  refine aj (jE (h13.r []) (mN (hszc (ts ++ [t]) (by omega)) (by omega))) rfl ⟨rfl, trivial⟩ fun H14 l14 => ?_
  rw [im, hcv2]
  have h := h.le l14
  have hk := hk.le l14
  have h13 := h13.le l14
  obtain ⟨a5, s5, x1, hs5, x2, x3⟩ := oH (O := []) h13.stack (i := b.stack.length) (x := itC o (ts ++ [t])) (by rw [CO]; exact d5 _ _)
  have tlen5 : al .len [s5] = some (iV ((i + 1 : Nat) : Int)) := by
   have := hs5.len
   rw [aT] at this
   rw [this]
   show some (iV ((ts ++ [t]).length : Int)) = _
   rw [hts2]
  refine ab _ (az _) ?_
  refine ae (af (af ?_))
  refine ab _ (clen h13) ?_
  refine af ?_
  refine ab _ (ax (by omega)) ?_
  refine af (af ?_)
  refine ab _ (aX _ _) ?_
  refine af ?_
  refine ab _ (aA _ _) ?_
  refine ae (af (af (af ?_)))
  refine ⟨_, fun _ => x1, .inr rfl, ?_⟩
  refine ⟨fun _ => rfl, ?_⟩
  refine af (af ?_)
  refine ⟨[s5], rfl, ⟨hs5.one, trivial⟩, fun _ => x3 4 1 (by omega), ?_⟩
  refine af ?_
  refine ab _ tlen5 ?_
  refine af ?_
  refine ab _ (ax (by omega)) ?_
  refine af (af ?_)
  refine ab _ (aX _ _) ?_
  refine af ?_
  refine ab _ (aA _ _) (ak (fun hd => ?_) (fun _ => ?_))
  ·simp at hd
  refine ab _ (ax (by omega)) (dV (by simp [Eqs, E]) ⟨i + 1, w13, ts ++ [t], rfl, hlt, rfl, Heap.le_trans l10 (Heap.le_trans l11 (Heap.le_trans l12 (Heap.le_trans l13 l14))), hts2, h13, hcv2⟩ ?_)
  show min 4 (bG cs (itC o [])).length - ((i + 1 : Nat) : Int).toNat < min 4 (bG cs (itC o [])).length - (i : Int).toNat
  omega
 have hieq : i = min 4 (bG cs (itC o [])).length := by
  have := of_decide_eq_false hlt; omega
 obtain ⟨p1, p2⟩ := Jd (j := j') (ts := ts) e1 hcv
 obtain ⟨y1, y2, gr, y3⟩ := CP (j := j') (ts := ts) e1 hcv
 have hszp := FX hszi k (bD (bD o 4) 3) 3
 refine ae ?_
 refine aC (Ip hc (Hy hszi (by omega))) ?_
 rintro _ H15 _ ⟨⟨wp, sp, rfl, hpb, hsp⟩, rfl⟩ l15
 rw [p1] at hpb ⊢
 rw [p2] at hsp ⊢
 generalize hq : d9 (cI b k j' o ts) k (bD (bD o 4) 3) 3 = q at *
 have hpb : BdS H15 wp q := hpb
 have hsp : Sl H15 2 sp (bA ts) := hsp
 have h := h.le l15
 have hk := hk.le l15
 have hc := hc.le l15
 refine ⟨ay wp q ++ ([iV o.owner, iV o.id, iV o.card, iV (-1), sp] ++ [iV 0]), rfl, aP (au (hpb.r [])) ⟨rfl, rfl, rfl, rfl, hsp.one, rfl, trivial⟩, ai fun r6 => ai fun r7 => ?_⟩
 refine ae (ae ?_)
 refine ⟨.u8, 0, rfl, fun _ => ?_, fun e => absurd rfl e⟩
 refine ae ?_
 refine ab _ (aX _ _) (ak (fun hd => by cases hd) (fun _ => ?_))
 refine ae ?_
 refine aj (jE (hpb.r []) (mN hszp (by omega))) rfl ⟨rfl, trivial⟩ fun H16 l16 => ?_
 rw [im, y1]
 have h := h.le l16
 have hk := hk.le l16
 have hc := hc.le l16
 have hpb := hpb.le l16
 have hsp := hsp.le l16
 rw [e3] at y3
 have y3 : q.s0.grave = gr ++ [o.id] := y3
 have glen : al .len [wp.g0] = some (iV ((gr.length + 1 : Nat) : Int)) := by
  have := hpb.s0.grave.len
  rw [aO, List.length_map, y3, List.length_append] at this
  exact this
 have slenp : al .len [sp] = some (iV (ts.length : Int)) := by have := hsp.len; rwa [aT] at this
 have qlen : al .len [wp.s] = some (iV (b.stack.length : Int)) := by rw [← y2]; exact ItsR.len (hpb.stack.r [])
 have hgr := hszp.2.1.2.2.2
 rw [y3, List.length_append] at hgr
 obtain ⟨a6, z1, z2, _, _, _⟩ := (hpb.s0.grave.rsl ([] : Own)).idx .i64 gr.length [iV o.id] (by rw [aO, List.getElem?_map, y3, d5]; rfl)
 have esub : ((gr.length + 1 : Nat) : Int) - 1 = (gr.length : Int) := by omega
 have hgl : gr.length ≤ 100 := by have h1 : [o.id].length = 1 := rfl; omega
 refine ab _ (az _) ?_
 refine ae (af (af (af ?_)))
 refine ab _ (aX _ _) ?_
 refine af ?_
 refine ab _ (aA _ _) ?_
 refine ae (af (af ?_))
 refine ab _ (aX _ _) ?_
 refine af ?_
 refine ab _ (aA _ _) ?_
 refine ae (af (af ?_))
 refine ab _ slenp ?_
 refine af (af ?_)
 refine ab _ (aX _ _) ?_
 refine af ?_
 refine ab _ (aA _ _) ?_
 refine af ?_
 refine ab _ glen ?_
 refine af ?_
 refine ab _ (aF _ _) ?_
 refine af ?_
 refine ab _ (aA _ _) ?_
 refine af ?_
 refine ab _ glen ?_
 refine af ?_
 refine ab _ (za (by omega) (by omega)) ?_
 rw [esub]
 refine af (af ?_)
 refine ⟨_, fun _ => z1, .inr rfl, ?_⟩
 refine af ?_
 refine ⟨[iV o.id], rfl, ⟨rfl, trivial⟩, fun _ => z2, ?_⟩
 refine af (af ?_)
 refine ab _ (aX _ _) ?_
 refine af ?_
 refine ab _ (aA _ _) ?_
 refine ae (af (af ?_))
 refine ab _ qlen ?_
 refine af (af ?_)
 refine ab _ (aX _ _) ?_
 refine af ?_
 refine ab _ (aA _ _) (ak (fun hd => ?_) (fun _ => ?_))
 ·exfalso
  have hd : ((((((!true || (o.id != id)) || ((-1 : Int) != -1)) || ((ts.length : Int) != ((min 4 (bG cs (itC o [])).length : Nat) : Int))) || (((gr.length + 1 : Nat) : Int) == 0)) || (o.id != id)) || ((b.stack.length : Int) != (b.stack.length : Int))) = true := hd
  rw [e2, hts, hieq] at hd
  have hg0 : (((gr.length + 1 : Nat) : Int) == 0) = false := by simp; omega
  rw [hg0] at hd
  simp at hd
 refine ae ?_
 refine aj (yh hk hli hc hcv) rfl ⟨rfl, trivial⟩ fun H17 l17 => ?_
 rw [CQ (by omega)]
 have h := h.le l17
 have hpb := hpb.le l17
 refine ab _ (aX _ _) (ak (fun hd => by cases hd) (fun _ => ?_))
 refine aR b.stack.length (fun i H' O' => O' = [] ∧ Heap.le H17 H') ⟨rfl, Heap.le_refl _⟩ ?_
 rintro i2 H18 _ hi2 _ ⟨rfl, l18⟩
 refine ab _ (aB _ _) (ak (fun hlt => ?_) (fun _ => ?_))
 ·have hlt : i2 < b.stack.length := by simpa using hlt
  have hx1 : b.stack[i2]? = some b.stack[i2] := List.getElem?_eq_getElem hlt
  obtain ⟨b1, c1, d1, f1, g1', _⟩ := oH (O := []) (hpb.le l18).stack (i := i2) (x := b.stack[i2]) (by rw [y2]; exact hx1)
  obtain ⟨b2, c2, d2, f2, g2', _⟩ := oH (O := []) (h.le l18).stack (i := i2) (x := b.stack[i2]) hx1
  refine ae ?_
  refine ab _ d1 (ap g1' rfl ⟨rfl, rfl, rfl, rfl, f1.one, trivial⟩ ?_)
  refine ae ?_
  refine ab _ d2 (ap g2' rfl ⟨rfl, rfl, rfl, rfl, f2.one, trivial⟩ ?_)
  refine aj (mW (x := b.stack[i2]) (y := b.stack[i2]) ⟨c1, rfl, f1.rsl []⟩ ⟨c2, rfl, f2.rsl []⟩) rfl ⟨rfl, trivial⟩ fun H19 l19 => ?_
  rw [show (b.stack[i2] == b.stack[i2]) = true from by simp]
  refine ab _ (az _) (ak (fun hd => by cases hd) (fun _ => ?_))
  exact ab _ (ax (by omega)) (aK (by simp [Eqs, E]) hlt ⟨rfl, Heap.le_trans l18 l19⟩)
 ·exact aj (dM _ _) rfl ⟨rfl, trivial⟩ fun _ _ => ah ⟨rfl, rfl⟩
theorem JR {H : Heap} {cv : Value} {cs : List CdX} (hk : CardsX H cv cs) {v : d8} {b : Bd} (h : BdS H v b) {wh : Int} (hw : 0 ≤ wh ∧ wh ≤ 255) (x : It) {s : Value} (hs : Sl H 2 s (bA x.tgs)) :
  Triple PP cK [cv, .agg (ay v b).toArray, .int .u8 0, .int .u8 wh, .agg #[iV x.player, iV x.id, iV x.card, iV x.trig, s]] H [] fun r _ O' => r = .bool true ∧ O' = [] := by
 refine du (vs := cv :: (ay v b ++ [.int .u8 0, .int .u8 wh, iV x.player, iV x.id, iV x.card, iV x.trig, s])) (by kernel_rfl) ⟨hk.one, aP (au (h.r [])) ⟨rfl, rfl, rfl, rfl, rfl, rfl, hs.one, trivial⟩⟩ ?_
 simp only [bW]
 refine ai fun r0 => ai fun r1 => ?_
 refine aj (DL hk.base) rfl ⟨rfl, trivial⟩ fun H1 l1 => ab _ (az _) (ak (fun _ => ?_) (fun hli => ?_))
 ·exact aj (dM _ _) rfl ⟨rfl, trivial⟩ fun _ _ => ah ⟨rfl, rfl⟩
 have hli : dR (cs.map CdX.base) = true := rX hli
 have h := h.le l1
 refine ae ?_
 refine aj (DK (h.r [])) rfl ⟨rfl, trivial⟩ fun H2 l2 => ab _ (az _) (ak (fun _ => ?_) (fun hsm => ?_))
 ·exact aj (dM _ _) rfl ⟨rfl, trivial⟩ fun _ _ => ah ⟨rfl, rfl⟩
 have hsm : ei b = true := rX hsm
 have h := h.le l2
 have hsz := Ao hsm
 have hB := Hy hsz (by omega)
 refine ae ?_
 refine aj (jE (h.r []) (mN hsz (by omega))) rfl ⟨rfl, trivial⟩ fun H3 l3 => ?_
 have h := h.le l3
 have hk := hk.le (Heap.le_trans l1 (Heap.le_trans l2 l3))
 have hs := hs.le (Heap.le_trans l1 (Heap.le_trans l2 l3))
 have xlen : al .len [s] = some (iV x.tgs.length) := by have := hs.len; rwa [aT] at this
 rw [im]
 refine ab _ (az _) ?_
 refine af ?_
 refine ab _ (JT _ _) ?_
 refine af ?_
 refine ab _ (aA _ _) ?_
 refine ae (af (af ?_))
 refine ab _ xlen ?_
 refine af ?_
 refine ab _ (cR _ _) ?_
 refine af ?_
 refine ab _ (aA _ _) (ak (fun _ => ?_) (fun hcc => ?_))
 ·exact aj (dM _ _) rfl ⟨rfl, trivial⟩ fun _ _ => ah ⟨rfl, rfl⟩
 have hcc : ((!aw b || decide ((0 : Int) > 1)) || decide ((x.tgs.length : Int) > 6)) = false := hcc
 have hv : aw b = true := by
  rw [Bool.or_eq_false_iff, Bool.or_eq_false_iff] at hcc
  exact rX hcc.1.1
 clear hcc
 have hst : b.stack.length ≤ 40 := hsz.2.2.2.1.1
 refine ae (ae ?_)
 refine aC (Triple.frozen2 (Jb h hB x hs)) ?_
 rintro _ H4 _ ⟨⟨w4, rfl, h4⟩, rfl⟩ l4
 have h := h.le l4
 have hk := hk.le l4
 have hs := hs.le l4
 by_cases hpc : (!aw b || (!sg x || decide ((x.tgs.length : Int) > 0))) = true
 ·have ep : ki b x = (zBd, 2) := by rw [ki, if_pos hpc]
  rw [ep] at h4 ⊢
  have h4 : BdS H4 w4 zBd := h4
  refine ⟨ay w4 zBd ++ [iV 2], rfl, aP (au (h4.r [])) ⟨rfl, trivial⟩, ai fun r2 => ?_⟩
  refine ae ?_
  refine ab _ (aF _ _) (ak (fun hd => by cases hd) (fun _ => ?_))
  refine ⟨.u8, 0, rfl, fun _ => ?_, fun e => absurd rfl e⟩; exact IP hk hli h hw x hv hsz hB hst r0 _ _ _
 have hpf : sg x = true ∧ x.tgs = [] := by
  rw [hv] at hpc
  simp only [Bool.not_true, Bool.false_or, Bool.or_eq_true, decide_eq_true_eq, not_or] at hpc
  exact ⟨by simpa using hpc.1, List.length_eq_zero_iff.1 (by omega)⟩
 have ep : ki b x = ({ b with stack := b.stack ++ [x] }, 0) := by rw [ki, if_neg hpc, if_neg (by simp; omega)]
 rw [ep] at h4 ⊢
 have h4 : BdS H4 w4 { b with stack := b.stack ++ [x] } := h4
 have hpv := zf hv hpf.1 hpf.2 (by omega)
 have hpz : szB 41 { b with stack := b.stack ++ [x] } := Ai hsz (by omega) (szI.app hsz.2.2.2.1 (by rw [hpf.2]; exact Nat.zero_le _))
 have htr : x.trig ≠ -1 := by
  have := hpf.1
  simp only [sg, Bool.and_eq_true, aq, decide_eq_true_eq] at this
  omega
 have hpo : zg { b with stack := b.stack ++ [x] } = (b, 0) ∧ zh { b with stack := b.stack ++ [x] } = x := by
  have htop := mM (b := { b with stack := b.stack ++ [x] }) (l := b.stack) (x := x) rfl
  refine ⟨?_, by rw [zh, if_neg (by rw [hpv]; simp), htop]⟩
  rw [zg, if_neg (by rw [hpv]; simp), if_neg (by simp), htop, if_neg htr]
  simp only [List.dropLast_concat]
 have hop : jc cs { b with stack := b.stack ++ [x] } = 0 := by
  rw [qb (l := b.stack) (x := x) rfl, yO, if_neg (fun hh => htr hh.1)]
 generalize hq0 : ({ b with stack := b.stack ++ [x] } : Bd) = pb at *
 refine ⟨ay w4 pb ++ [iV 0], rfl, aP (au (h4.r [])) ⟨rfl, trivial⟩, ai fun r2 => ?_⟩
 refine ae ?_
 refine ab _ (aF _ _) (ak (fun _ => ?_) (fun hd => by cases hd))
 refine ae ?_
 refine aC (Ip h4 (Hy hpz (by omega))) ?_
 rintro _ H5 _ ⟨⟨w5, s5, rfl, h5, hs5⟩, rfl⟩ l5
 rw [hpo.1] at h5 ⊢
 rw [hpo.2] at hs5 ⊢
 have h5 : BdS H5 w5 b := h5
 have h := h.le l5
 have hk := hk.le l5
 have hs := hs.le l5
 have h4 := h4.le l5
 refine ⟨ay w5 b ++ ([iV x.player, iV x.id, iV x.card, iV x.trig, s5] ++ [iV 0]), rfl, aP (au (h5.r [])) ⟨rfl, rfl, rfl, rfl, hs5.one, rfl, trivial⟩, ai fun r3 => ai fun r4 => ?_⟩
 refine ae (ae ?_)
 refine ab _ (aX _ _) (ak (fun hd => by cases hd) (fun _ => ?_))
 refine ae ?_
 refine aj (jE (h4.r []) (mN hpz (by omega))) rfl ⟨rfl, trivial⟩ fun H6 l6 => ?_
 rw [im, hpv]
 have h := h.le l6
 have hk := hk.le l6
 have hs := hs.le l6
 have h4 := h4.le l6
 have h5 := h5.le l6
 have hs5 := hs5.le l6
 refine ab _ (az _) (ak (fun hd => by cases hd) (fun _ => ?_))
 refine ae (ae ?_)
 refine aj (IR (h5.r []) (h.r [])) rfl ⟨rfl, trivial⟩ fun H7 l7 => ?_
 rw [show (b == b) = true from by simp]
 have h := h.le l7
 have hk := hk.le l7
 have hs := hs.le l7
 have h4 := h4.le l7
 have hs5 := hs5.le l7
 refine ab _ (az _) (ak (fun hd => by cases hd) (fun _ => ?_))
 refine ae (ae ?_)
 refine aj (mW (x := x) (y := x) ⟨s, rfl, hs.rsl []⟩ ⟨s5, rfl, hs5.rsl []⟩) rfl ⟨rfl, trivial⟩ fun H8 l8 => ?_
 rw [show (x == x) = true from by simp]
 have h := h.le l8
 have hk := hk.le l8
 have h4 := h4.le l8
 refine ab _ (az _) (ak (fun hd => by cases hd) (fun _ => ?_))
 refine ae ?_
 refine aj (yh hk hli h4 hpv) rfl ⟨rfl, trivial⟩ fun H9 l9 => ?_
 rw [hop]
 have h := h.le l9
 have hk := hk.le l9
 refine ab _ (aX _ _) (ak (fun hd => by cases hd) (fun _ => ?_))
 refine ⟨.u8, 0, rfl, fun _ => ?_, fun e => absurd rfl e⟩; exact IP hk hli h hw x hv hsz hB hst r0 _ _ _
theorem IN {H : Heap} {cv : Value} {cs : List CdX} (hk : CardsX H cv cs) (hli : dR (cs.map CdX.base) = true) {v : d8} {b : Bd} (h : BdS H v b) {wh : Int} (hw : 0 ≤ wh ∧ wh ≤ 255) (x : It) {s : Value} (hv : aw b = true) (hsz : szB 40 b) (hB : bdB b) (hst : b.stack.length ≤ 40) (r0 n1 n2 n3 : Nat) :
  (aV r0 (cv :: (ay v b ++ [.int .u8 1, .int .u8 wh, iV x.player, iV x.id, iV x.card, iV x.trig, s])) 22 n1 n2 n3).den PP (fun r _ O' => r = .bool true ∧ O' = []) H [] := by
 simp only [aV]
 have hlen8 : al .len [v.h1] = some (iV b.s1.hand.length) := by have := h.s1.hand.len; rwa [aO, List.length_map] at this
 refine ae ?_
 refine ab _ hlen8 ?_
 refine ab _ (aF _ _) (ak (fun _ => ?_) (fun h0 => ?_))
 ·exact aj (dM _ _) rfl ⟨rfl, trivial⟩ fun _ _ => ah ⟨rfl, rfl⟩
 have hne : 0 < b.s1.hand.length := by
  rcases Nat.eq_zero_or_pos b.s1.hand.length with e | e
  ·rw [e] at h0; cases h0
  ·exact e
 refine ab _ (Hc hw) ?_
 refine ab _ hlen8 ?_
 refine ab _ (Gh hw.1 hne) ?_
 obtain ⟨j, hjlt, hjj⟩ : ∃ j, j < b.s1.hand.length ∧ wh.toNat % b.s1.hand.length = j := ⟨_, Nat.mod_lt _ hne, rfl⟩
 rw [hjj]
 obtain ⟨id, hid⟩ : ∃ id, b.s1.hand[j]? = some id := ⟨_, List.getElem?_eq_getElem hjlt⟩
 obtain ⟨a0, i1, i2, _, i3, i4⟩ := (h.s1.hand.rsl ([] : Own)).idx .i64 j [iV id] (by rw [aO, List.getElem?_map, hid]; rfl)
 refine ab _ i1 (ap i2 rfl ⟨rfl, trivial⟩ ?_)
 obtain ⟨k, o, e1, e2, e3, hb0, hidx, hz, hid64⟩ := Cv hv (p := 1) (.inr rfl) (show id ∈ (dt b 1).hand from List.mem_of_getElem? hid)
 have hfo := rf hb0 e1 hidx
 refine ae ?_
 refine aC (Triple.frozen2 (Jc h hB hid64)) ?_
 rintro _ H6 _ ⟨⟨w6, rfl, h6⟩, rfl⟩ l6
 have h := h.le l6
 have hk := hk.le l6
 have slen : al .len [v.s] = some (iV b.stack.length) := ItsR.len (h.stack.r [])
 by_cases hcard : o.card < 0
 ·have ec : nN b id = (zBd, 8) := by rw [nN, if_neg (by rw [hb0]; simp), hfo, if_pos (by simp [hcard])]
  rw [ec] at h6 ⊢
  have h6 : BdS H6 w6 zBd := h6
  refine ⟨ay w6 zBd ++ [iV 8], rfl, aP (au (h6.r [])) ⟨rfl, trivial⟩, ai fun r5 => ?_⟩
  refine ae ?_
  refine ab _ (aF _ _) (ak (fun _ => ?_) (fun hd => by cases hd))
  refine ae (ae ?_)
  refine aj (w9 (h.r []) id) rfl ⟨rfl, trivial⟩ fun H7 l7 => ?_
  have h := h.le l7
  rw [hidx]
  obtain ⟨a1, j1, _, j3, _, _⟩ := (h.objs.rsl ([] : Own)).idx .i64 k (Ob.row o) (by rw [List.getElem?_map, e1]; rfl)
  refine ab _ j1 (aL rfl (ap (vs := [iV o.card]) (j3 1 1 (by omega)) rfl ⟨rfl, trivial⟩ ?_))
  refine ab _ (aF _ _) (ak (fun _ => ?_) (fun hd => ?_))
  ·exact aj (dM _ _) rfl ⟨rfl, trivial⟩ fun _ _ => ah ⟨rfl, rfl⟩
  ·exfalso
   have hvo := (co (aM hv).1 e1).1
   simp only [ba, Bool.and_eq_true, decide_eq_true_eq] at hvo
   have h1 : o.card ≥ -1 := hvo.1.2.1.2
   have : o.card = -1 := by omega
   have hd : (o.card == -1) = false := hd
   rw [this] at hd
   cases hd
 obtain ⟨j', hj1, hj⟩ := ye hb0 hz e1 e2
 have ec : nN b id = (cI b k j' o [], 0) := by
  rw [nN, if_neg (by rw [hb0]; simp), hfo, if_neg (by rw [hz]; simp; omega), if_neg (by simp; omega), hidx, hj1]
  rfl
 rw [ec] at h6 ⊢
 have h6 : BdS H6 w6 (cI b k j' o []) := h6
 refine ⟨ay w6 (cI b k j' o []) ++ [iV 0], rfl, aP (au (h6.r [])) ⟨rfl, trivial⟩, ai fun r5 => ?_⟩
 have hcv : aw (cI b k j' o []) = true := zT hv e1 (by rw [e2]; exact hj) (by omega) (by omega)
 have hszc : ∀ ts : List Tg, ts.length ≤ 4 → szB 41 (cI b k j' o ts) := fun ts ht => KR hsz (by omega)
 refine ae ?_
 refine ab _ (aF _ _) (ak (fun hd => by cases hd) (fun _ => ?_))
 refine ae ?_
 refine ab _ slen ?_
 refine ab _ (aX _ _) (ak (fun hd => by cases hd) (fun _ => ?_))
 refine ae ?_
 refine aj (jE (h6.r []) (mN (hszc [] (Nat.zero_le _)) (by omega))) rfl ⟨rfl, trivial⟩ fun H7 l7 => ?_
 rw [im, hcv]
 have h := h.le l7
 have hk := hk.le l7
 have h6 := h6.le l7
 have clen : ∀ {H' : Heap} {w' : d8} {ts : List Tg}, BdS H' w' (cI b k j' o ts) → al .len [w'.s] = some (iV ((b.stack.length + 1 : Nat) : Int)) := fun hh => by
  rw [ItsR.len (hh.stack.r []), CO, List.length_append]; rfl
 refine ab _ (az _) ?_
 refine ae (af (af ?_))
 refine ab _ (clen h6) ?_
 refine af ?_
 refine ab _ (ax (by omega)) ?_
 refine af (af ?_)
 refine ab _ (aX _ _) ?_
 refine af ?_
 refine ab _ (aA _ _) (ak (fun hd => ?_) (fun _ => ?_))
 ·simp at hd
 obtain ⟨a2, s2, q1, hs2, q2, _⟩ := oH (O := []) h6.stack (i := b.stack.length) (x := itC o []) (by rw [CO]; exact d5 _ _)
 refine ae ?_
 refine ab _ q1 (ap q2 rfl ⟨rfl, rfl, rfl, rfl, hs2.one, trivial⟩ ?_)
 refine aC (Triple.frozenS (uu hk hli o.owner o.id o.card (-1) hs2.one)) ?_
 rintro ev H8 _ ⟨hev, rfl⟩ l8
 refine ⟨[ev], rfl, ⟨hev.one, trivial⟩, ?_⟩
 have h := h.le l8
 have hk := hk.le l8
 have h6 := h6.le l8
 have hn5 := qY hli (itC o [])
 have hn6 := tj hli o.card (-1)
 have elen : al .len [ev] = some (iV (lS cs o.card (-1)).length) := by have := hev.len; rwa [fY, List.length_map] at this
 refine dq (lS cs o.card (-1)).length (fun i x H' O' => x = iV (((bo (((lS cs o.card (-1)).take i).map (·.target))).length : Nat) : Int) ∧ O' = [] ∧ Heap.le H8 H') ⟨rfl, rfl, Heap.le_refl _⟩ ?_
 rintro i _ H9 _ hi _ ⟨rfl, rfl, l9⟩
 refine ab _ elen ?_
 refine ab _ (aB _ _) (ak (fun hlt => ?_) (fun hlt => ?_))
 ·have hlt : i < (lS cs o.card (-1)).length := by simpa using hlt
  obtain ⟨a3, t1, _, t3, _, _⟩ := ((hev.le l9).rsl ([] : Own)).idx .i64 i (Eff.row (lS cs o.card (-1))[i]) (by rw [fY, List.getElem?_map, List.getElem?_eq_getElem hlt]; rfl)
  have etk : ((lS cs o.card (-1)).take (i + 1)).map (·.target) = ((lS cs o.card (-1)).take i).map (·.target) ++ [(lS cs o.card (-1))[i].target] := by
   rw [← List.take_append_getElem hlt, List.map_append]; rfl
  have hsm : (bo (((lS cs o.card (-1)).take i).map (·.target))).length ≤ 5 := by
   have h1 : (bo (((lS cs o.card (-1)).take i).map (·.target))).length ≤ _ := List.length_filter_le _ _
   rw [List.length_map, List.length_take] at h1
   omega
  refine ab _ t1 (aL rfl (ap (vs := [iV (lS cs o.card (-1))[i].target]) (t3 1 1 (by omega)) rfl ⟨rfl, trivial⟩ ?_))
  refine ab _ (aX _ _) (ak (fun hd => ?_) (fun hd => ?_))
  ·have hd : ((lS cs o.card (-1))[i].target != 0) = true := hd
   refine ab _ (ax (by omega)) ?_
   refine ab _ (ax (by omega)) (aN (by simp [Eqs, E]) hlt ⟨?_, rfl, l9⟩)
   rw [etk, bo, bo, List.filter_append, List.filter_cons, if_pos hd, List.length_append]; rfl
  ·have hd : ((lS cs o.card (-1))[i].target != 0) = false := hd
   refine ab _ (ax (by omega)) (aN (by simp [Eqs, E]) hlt ⟨?_, rfl, l9⟩)
   rw [etk, bo, bo, List.filter_append, List.filter_cons, if_neg (by rw [hd]; simp), List.length_append]; rfl
 have hieq : i = (lS cs o.card (-1)).length := by
  have := of_decide_eq_false hlt; omega
 subst hieq
 have en : (bo (((lS cs o.card (-1)).take (lS cs o.card (-1)).length).map (·.target))).length = (bG cs (itC o [])).length := by rw [List.take_length]; rfl
 rw [en]
 have h := h.le l9
 have hk := hk.le l9
 have h6 := h6.le l9
 have eN : min ((bG cs (itC o [])).length : Int) 4 = ((min 4 (bG cs (itC o [])).length : Nat) : Int) := by omega
 refine ab _ (GB _ _) ?_
 rw [eN]
 refine iy (fun vs H' O' => ∃ (i : Nat) (w : d8) (ts : List Tg), vs = iV i :: ay w (cI b k j' o ts) ∧ i ≤ min 4 (bG cs (itC o [])).length ∧ O' = [] ∧ Heap.le H9 H' ∧ ts.length = i ∧ BdS H' w (cI b k j' o ts) ∧ aw (cI b k j' o ts) = true) (fun vs _ _ => match g vs 0 with | .int _ z => min 4 (bG cs (itC o [])).length - z.toNat | _ => 0) ⟨0, w6, [], rfl, Nat.zero_le _, rfl, Heap.le_refl _, rfl, h6, hcv⟩ ?_
 clear hcv
 rintro _ H10 _ _ _ _ ⟨i, wc, ts, rfl, hi, rfl, l10, hts, hc, hcv⟩
 have h := h.le l10
 have hk := hk.le l10
 have hszi := hszc ts (by omega)
 refine ab _ (aB _ _) (ak (fun hlt => ?_) (fun hlt => ?_))
 ·have hlt : i < min 4 (bG cs (itC o [])).length := by have := of_decide_eq_true hlt; omega
  have hne0 : jc cs (cI b k j' o ts) ≠ 0 := zW (by omega)
  refine ae ?_
  refine aj (yh hk hli hc hcv) rfl ⟨rfl, trivial⟩ fun H11 l11 => ?_
  have h := h.le l11
  have hk := hk.le l11
  have hc := hc.le l11
  refine ab _ (aF _ _) (ak (fun hd => absurd (by simpa using hd) hne0) (fun _ => ?_))
  refine ae ?_
  refine aC (BY hk hli hc hcv (Hy hszi (by omega)) (mN hszi (by omega))) ?_
  rintro tv H12 _ ⟨htv, rfl⟩ l12
  refine ⟨[tv], rfl, ⟨htv.one, trivial⟩, ?_⟩
  have h := h.le l12
  have hk := hk.le l12
  have hc := hc.le l12
  have tlen : al .len [tv] = some (iV (eh cs (cI b k j' o ts)).length) := by have := htv.len; rwa [aT] at this
  refine ab _ tlen ?_
  refine ab _ (aF _ _) (ak (fun _ => ?_) (fun hd => ?_))
  ·exact aj (dM _ _) rfl ⟨rfl, trivial⟩ fun _ _ => ah ⟨rfl, rfl⟩
  obtain ⟨t, tr, htt⟩ : ∃ t tr, eh cs (cI b k j' o ts) = t :: tr := by
   cases hh : eh cs (cI b k j' o ts) with
   | nil => rw [hh] at hd; cases hd
   | cons t tr => exact ⟨t, tr, rfl⟩
  have hmem : t ∈ eh cs (cI b k j' o ts) := by rw [htt]; simp
  obtain ⟨a4, u1, u2, _, u4, u5⟩ := (htv.rsl ([] : Own)).idx .i64 0 (Tg.row t) (by rw [htt]; rfl)
  refine ae ?_
  refine ab _ u1 (ap u2 u4 u5 ?_)
  refine aC (Triple.frozen2 (KQ hk hli hc hcv (Hy hszi (by omega)) t)) ?_
  rintro _ H13 _ ⟨⟨w13, rfl, h13⟩, rfl⟩ l13
  have h := h.le l13
  have hk := hk.le l13
  rw [Jf hne0 hmem] at h13 ⊢
  have h13 : BdS H13 w13 (cI b k j' o (ts ++ [t])) := h13
  have hcv2 := EI hcv (by omega) (uP hmem)
  have hts2 : (ts ++ [t]).length = i + 1 := by simp [hts]
  refine ⟨ay w13 (cI b k j' o (ts ++ [t])) ++ [iV 0], rfl, aP (au (h13.r [])) ⟨rfl, trivial⟩, ?_⟩
  refine ae ?_
  refine ab _ (aX _ _) (ak (fun hd => by cases hd) (fun _ => ?_))
  refine ae ?_
  refine aj (jE (h13.r []) (mN (hszc (ts ++ [t]) (by omega)) (by omega))) rfl ⟨rfl, trivial⟩ fun H14 l14 => ?_
  rw [im, hcv2]
  have h := h.le l14
  have hk := hk.le l14
  have h13 := h13.le l14
  obtain ⟨a5, s5, x1, hs5, x2, x3⟩ := oH (O := []) h13.stack (i := b.stack.length) (x := itC o (ts ++ [t])) (by rw [CO]; exact d5 _ _)
  have tlen5 : al .len [s5] = some (iV ((i + 1 : Nat) : Int)) := by
   have := hs5.len
   rw [aT] at this
   rw [this]
   show some (iV ((ts ++ [t]).length : Int)) = _
   rw [hts2]
  refine ab _ (az _) ?_
  refine ae (af (af ?_))
  refine ab _ (clen h13) ?_
  refine af ?_
  refine ab _ (ax (by omega)) ?_
  refine af (af ?_)
  refine ab _ (aX _ _) ?_
  refine af ?_
  refine ab _ (aA _ _) ?_
  refine ae (af (af (af ?_)))
  refine ⟨_, fun _ => x1, .inr rfl, ?_⟩
  refine ⟨fun _ => rfl, ?_⟩
  refine af (af ?_)
  refine ⟨[s5], rfl, ⟨hs5.one, trivial⟩, fun _ => x3 4 1 (by omega), ?_⟩
  refine af ?_
  refine ab _ tlen5 ?_
  refine af ?_
  refine ab _ (ax (by omega)) ?_
  refine af (af ?_)
  refine ab _ (aX _ _) ?_
  refine af ?_
  refine ab _ (aA _ _) (ak (fun hd => ?_) (fun _ => ?_))
  ·simp at hd
  refine ab _ (ax (by omega)) (dV (by simp [Eqs, E]) ⟨i + 1, w13, ts ++ [t], rfl, hlt, rfl, Heap.le_trans l10 (Heap.le_trans l11 (Heap.le_trans l12 (Heap.le_trans l13 l14))), hts2, h13, hcv2⟩ ?_)
  show min 4 (bG cs (itC o [])).length - ((i + 1 : Nat) : Int).toNat < min 4 (bG cs (itC o [])).length - (i : Int).toNat
  omega
 have hieq : i = min 4 (bG cs (itC o [])).length := by
  have := of_decide_eq_false hlt; omega
 obtain ⟨p1, p2⟩ := Jd (j := j') (ts := ts) e1 hcv
 obtain ⟨y1, y2, gr, y3⟩ := CP (j := j') (ts := ts) e1 hcv
 have hszp := FX hszi k (bD (bD o 4) 3) 3
 refine ae ?_
 refine aC (Ip hc (Hy hszi (by omega))) ?_
 rintro _ H15 _ ⟨⟨wp, sp, rfl, hpb, hsp⟩, rfl⟩ l15
 rw [p1] at hpb ⊢
 rw [p2] at hsp ⊢
 generalize hq : d9 (cI b k j' o ts) k (bD (bD o 4) 3) 3 = q at *
 have hpb : BdS H15 wp q := hpb
 have hsp : Sl H15 2 sp (bA ts) := hsp
 have h := h.le l15
 have hk := hk.le l15
 have hc := hc.le l15
 refine ⟨ay wp q ++ ([iV o.owner, iV o.id, iV o.card, iV (-1), sp] ++ [iV 0]), rfl, aP (au (hpb.r [])) ⟨rfl, rfl, rfl, rfl, hsp.one, rfl, trivial⟩, ai fun r6 => ai fun r7 => ?_⟩
 refine ae (ae ?_)
 refine ⟨.u8, 1, rfl, fun e => absurd e (by omega), fun _ => ⟨.u8, 1, rfl, fun _ => ?_, fun e => absurd rfl e⟩⟩
 refine ae ?_
 refine ab _ (aX _ _) (ak (fun hd => by cases hd) (fun _ => ?_))
 refine ae ?_
 refine aj (jE (hpb.r []) (mN hszp (by omega))) rfl ⟨rfl, trivial⟩ fun H16 l16 => ?_
 rw [im, y1]
 have h := h.le l16
 have hk := hk.le l16
 have hc := hc.le l16
 have hpb := hpb.le l16
 have hsp := hsp.le l16
 rw [e3] at y3
 have y3 : q.s1.grave = gr ++ [o.id] := y3
 have glen : al .len [wp.g1] = some (iV ((gr.length + 1 : Nat) : Int)) := by
  have := hpb.s1.grave.len
  rw [aO, List.length_map, y3, List.length_append] at this
  exact this
 have slenp : al .len [sp] = some (iV (ts.length : Int)) := by have := hsp.len; rwa [aT] at this
 have qlen : al .len [wp.s] = some (iV (b.stack.length : Int)) := by rw [← y2]; exact ItsR.len (hpb.stack.r [])
 have hgr := hszp.2.2.1.2.2.2
 rw [y3, List.length_append] at hgr
 obtain ⟨a6, z1, z2, _, _, _⟩ := (hpb.s1.grave.rsl ([] : Own)).idx .i64 gr.length [iV o.id] (by rw [aO, List.getElem?_map, y3, d5]; rfl)
 have esub : ((gr.length + 1 : Nat) : Int) - 1 = (gr.length : Int) := by omega
 have hgl : gr.length ≤ 100 := by have h1 : [o.id].length = 1 := rfl; omega
 refine ab _ (az _) ?_
 refine ae (af (af (af ?_)))
 refine ab _ (aX _ _) ?_
 refine af ?_
 refine ab _ (aA _ _) ?_
 refine ae (af (af ?_))
 refine ab _ (aX _ _) ?_
 refine af ?_
 refine ab _ (aA _ _) ?_
 refine ae (af (af ?_))
 refine ab _ slenp ?_
 refine af (af ?_)
 refine ab _ (aX _ _) ?_
 refine af ?_
 refine ab _ (aA _ _) ?_
 refine af ?_
 refine ab _ glen ?_
 refine af ?_
 refine ab _ (aF _ _) ?_
 refine af ?_
 refine ab _ (aA _ _) ?_
 refine af ?_
 refine ab _ glen ?_
 refine af ?_
 refine ab _ (za (by omega) (by omega)) ?_
 rw [esub]
 refine af (af ?_)
 refine ⟨_, fun _ => z1, .inr rfl, ?_⟩
 refine af ?_
 refine ⟨[iV o.id], rfl, ⟨rfl, trivial⟩, fun _ => z2, ?_⟩
 refine af (af ?_)
 refine ab _ (aX _ _) ?_
 refine af ?_
 refine ab _ (aA _ _) ?_
 refine ae (af (af ?_))
 refine ab _ qlen ?_
 refine af (af ?_)
 refine ab _ (aX _ _) ?_
 refine af ?_
 refine ab _ (aA _ _) (ak (fun hd => ?_) (fun _ => ?_))
 ·exfalso
  have hd : ((((((!true || (o.id != id)) || ((-1 : Int) != -1)) || ((ts.length : Int) != ((min 4 (bG cs (itC o [])).length : Nat) : Int))) || (((gr.length + 1 : Nat) : Int) == 0)) || (o.id != id)) || ((b.stack.length : Int) != (b.stack.length : Int))) = true := hd
  rw [e2, hts, hieq] at hd
  have hg0 : (((gr.length + 1 : Nat) : Int) == 0) = false := by simp; omega
  rw [hg0] at hd
  simp at hd
 refine ae ?_
 refine aj (yh hk hli hc hcv) rfl ⟨rfl, trivial⟩ fun H17 l17 => ?_
 rw [CQ (by omega)]
 have h := h.le l17
 have hpb := hpb.le l17
 refine ab _ (aX _ _) (ak (fun hd => by cases hd) (fun _ => ?_))
 refine aR b.stack.length (fun i H' O' => O' = [] ∧ Heap.le H17 H') ⟨rfl, Heap.le_refl _⟩ ?_
 rintro i2 H18 _ hi2 _ ⟨rfl, l18⟩
 refine ab _ (aB _ _) (ak (fun hlt => ?_) (fun _ => ?_))
 ·have hlt : i2 < b.stack.length := by simpa using hlt
  have hx1 : b.stack[i2]? = some b.stack[i2] := List.getElem?_eq_getElem hlt
  obtain ⟨b1, c1, d1, f1, g1', _⟩ := oH (O := []) (hpb.le l18).stack (i := i2) (x := b.stack[i2]) (by rw [y2]; exact hx1)
  obtain ⟨b2, c2, d2, f2, g2', _⟩ := oH (O := []) (h.le l18).stack (i := i2) (x := b.stack[i2]) hx1
  refine ae ?_
  refine ab _ d1 (ap g1' rfl ⟨rfl, rfl, rfl, rfl, f1.one, trivial⟩ ?_)
  refine ae ?_
  refine ab _ d2 (ap g2' rfl ⟨rfl, rfl, rfl, rfl, f2.one, trivial⟩ ?_)
  refine aj (mW (x := b.stack[i2]) (y := b.stack[i2]) ⟨c1, rfl, f1.rsl []⟩ ⟨c2, rfl, f2.rsl []⟩) rfl ⟨rfl, trivial⟩ fun H19 l19 => ?_
  rw [show (b.stack[i2] == b.stack[i2]) = true from by simp]
  refine ab _ (az _) (ak (fun hd => by cases hd) (fun _ => ?_))
  exact ab _ (ax (by omega)) (aK (by simp [Eqs, E]) hlt ⟨rfl, Heap.le_trans l18 l19⟩)
 ·exact aj (dM _ _) rfl ⟨rfl, trivial⟩ fun _ _ => ah ⟨rfl, rfl⟩
theorem JQ {H : Heap} {cv : Value} {cs : List CdX} (hk : CardsX H cv cs) {v : d8} {b : Bd} (h : BdS H v b) {wh : Int} (hw : 0 ≤ wh ∧ wh ≤ 255) (x : It) {s : Value} (hs : Sl H 2 s (bA x.tgs)) :
  Triple PP cK [cv, .agg (ay v b).toArray, .int .u8 1, .int .u8 wh, .agg #[iV x.player, iV x.id, iV x.card, iV x.trig, s]] H [] fun r _ O' => r = .bool true ∧ O' = [] := by
 refine du (vs := cv :: (ay v b ++ [.int .u8 1, .int .u8 wh, iV x.player, iV x.id, iV x.card, iV x.trig, s])) (by kernel_rfl) ⟨hk.one, aP (au (h.r [])) ⟨rfl, rfl, rfl, rfl, rfl, rfl, hs.one, trivial⟩⟩ ?_
 simp only [bW]
 refine ai fun r0 => ai fun r1 => ?_
 refine aj (DL hk.base) rfl ⟨rfl, trivial⟩ fun H1 l1 => ab _ (az _) (ak (fun _ => ?_) (fun hli => ?_))
 ·exact aj (dM _ _) rfl ⟨rfl, trivial⟩ fun _ _ => ah ⟨rfl, rfl⟩
 have hli : dR (cs.map CdX.base) = true := rX hli
 have h := h.le l1
 refine ae ?_
 refine aj (DK (h.r [])) rfl ⟨rfl, trivial⟩ fun H2 l2 => ab _ (az _) (ak (fun _ => ?_) (fun hsm => ?_))
 ·exact aj (dM _ _) rfl ⟨rfl, trivial⟩ fun _ _ => ah ⟨rfl, rfl⟩
 have hsm : ei b = true := rX hsm
 have h := h.le l2
 have hsz := Ao hsm
 have hB := Hy hsz (by omega)
 refine ae ?_
 refine aj (jE (h.r []) (mN hsz (by omega))) rfl ⟨rfl, trivial⟩ fun H3 l3 => ?_
 have h := h.le l3
 have hk := hk.le (Heap.le_trans l1 (Heap.le_trans l2 l3))
 have hs := hs.le (Heap.le_trans l1 (Heap.le_trans l2 l3))
 have xlen : al .len [s] = some (iV x.tgs.length) := by have := hs.len; rwa [aT] at this
 rw [im]
 refine ab _ (az _) ?_
 refine af ?_
 refine ab _ (JT _ _) ?_
 refine af ?_
 refine ab _ (aA _ _) ?_
 refine ae (af (af ?_))
 refine ab _ xlen ?_
 refine af ?_
 refine ab _ (cR _ _) ?_
 refine af ?_
 refine ab _ (aA _ _) (ak (fun _ => ?_) (fun hcc => ?_))
 ·exact aj (dM _ _) rfl ⟨rfl, trivial⟩ fun _ _ => ah ⟨rfl, rfl⟩
 have hcc : ((!aw b || decide ((1 : Int) > 1)) || decide ((x.tgs.length : Int) > 6)) = false := hcc
 have hv : aw b = true := by
  rw [Bool.or_eq_false_iff, Bool.or_eq_false_iff] at hcc
  exact rX hcc.1.1
 clear hcc
 have hst : b.stack.length ≤ 40 := hsz.2.2.2.1.1
 refine ae (ae ?_)
 refine aC (Triple.frozen2 (Jb h hB x hs)) ?_
 rintro _ H4 _ ⟨⟨w4, rfl, h4⟩, rfl⟩ l4
 have h := h.le l4
 have hk := hk.le l4
 have hs := hs.le l4
 by_cases hpc : (!aw b || (!sg x || decide ((x.tgs.length : Int) > 0))) = true
 ·have ep : ki b x = (zBd, 2) := by rw [ki, if_pos hpc]
  rw [ep] at h4 ⊢
  have h4 : BdS H4 w4 zBd := h4
  refine ⟨ay w4 zBd ++ [iV 2], rfl, aP (au (h4.r [])) ⟨rfl, trivial⟩, ai fun r2 => ?_⟩
  refine ae ?_
  refine ab _ (aF _ _) (ak (fun hd => by cases hd) (fun _ => ?_))
  refine ⟨.u8, 1, rfl, fun e => absurd e (by omega), fun _ => ⟨.u8, 1, rfl, fun _ => ?_, fun e => absurd rfl e⟩⟩; exact IN hk hli h hw x hv hsz hB hst r0 _ _ _
 have hpf : sg x = true ∧ x.tgs = [] := by
  rw [hv] at hpc
  simp only [Bool.not_true, Bool.false_or, Bool.or_eq_true, decide_eq_true_eq, not_or] at hpc
  exact ⟨by simpa using hpc.1, List.length_eq_zero_iff.1 (by omega)⟩
 have ep : ki b x = ({ b with stack := b.stack ++ [x] }, 0) := by rw [ki, if_neg hpc, if_neg (by simp; omega)]
 rw [ep] at h4 ⊢
 have h4 : BdS H4 w4 { b with stack := b.stack ++ [x] } := h4
 have hpv := zf hv hpf.1 hpf.2 (by omega)
 have hpz : szB 41 { b with stack := b.stack ++ [x] } := Ai hsz (by omega) (szI.app hsz.2.2.2.1 (by rw [hpf.2]; exact Nat.zero_le _))
 have htr : x.trig ≠ -1 := by
  have := hpf.1
  simp only [sg, Bool.and_eq_true, aq, decide_eq_true_eq] at this
  omega
 have hpo : zg { b with stack := b.stack ++ [x] } = (b, 0) ∧ zh { b with stack := b.stack ++ [x] } = x := by
  have htop := mM (b := { b with stack := b.stack ++ [x] }) (l := b.stack) (x := x) rfl
  refine ⟨?_, by rw [zh, if_neg (by rw [hpv]; simp), htop]⟩
  rw [zg, if_neg (by rw [hpv]; simp), if_neg (by simp), htop, if_neg htr]
  simp only [List.dropLast_concat]
 have hop : jc cs { b with stack := b.stack ++ [x] } = 0 := by
  rw [qb (l := b.stack) (x := x) rfl, yO, if_neg (fun hh => htr hh.1)]
 generalize hq0 : ({ b with stack := b.stack ++ [x] } : Bd) = pb at *
 refine ⟨ay w4 pb ++ [iV 0], rfl, aP (au (h4.r [])) ⟨rfl, trivial⟩, ai fun r2 => ?_⟩
 refine ae ?_
 refine ab _ (aF _ _) (ak (fun _ => ?_) (fun hd => by cases hd))
 refine ae ?_
 refine aC (Ip h4 (Hy hpz (by omega))) ?_
 rintro _ H5 _ ⟨⟨w5, s5, rfl, h5, hs5⟩, rfl⟩ l5
 rw [hpo.1] at h5 ⊢
 rw [hpo.2] at hs5 ⊢
 have h5 : BdS H5 w5 b := h5
 have h := h.le l5
 have hk := hk.le l5
 have hs := hs.le l5
 have h4 := h4.le l5
 refine ⟨ay w5 b ++ ([iV x.player, iV x.id, iV x.card, iV x.trig, s5] ++ [iV 0]), rfl, aP (au (h5.r [])) ⟨rfl, rfl, rfl, rfl, hs5.one, rfl, trivial⟩, ai fun r3 => ai fun r4 => ?_⟩
 refine ae (ae ?_)
 refine ab _ (aX _ _) (ak (fun hd => by cases hd) (fun _ => ?_))
 refine ae ?_
 refine aj (jE (h4.r []) (mN hpz (by omega))) rfl ⟨rfl, trivial⟩ fun H6 l6 => ?_
 rw [im, hpv]
 have h := h.le l6
 have hk := hk.le l6
 have hs := hs.le l6
 have h4 := h4.le l6
 have h5 := h5.le l6
 have hs5 := hs5.le l6
 refine ab _ (az _) (ak (fun hd => by cases hd) (fun _ => ?_))
 refine ae (ae ?_)
 refine aj (IR (h5.r []) (h.r [])) rfl ⟨rfl, trivial⟩ fun H7 l7 => ?_
 rw [show (b == b) = true from by simp]
 have h := h.le l7
 have hk := hk.le l7
 have hs := hs.le l7
 have h4 := h4.le l7
 have hs5 := hs5.le l7
 refine ab _ (az _) (ak (fun hd => by cases hd) (fun _ => ?_))
 refine ae (ae ?_)
 refine aj (mW (x := x) (y := x) ⟨s, rfl, hs.rsl []⟩ ⟨s5, rfl, hs5.rsl []⟩) rfl ⟨rfl, trivial⟩ fun H8 l8 => ?_
 rw [show (x == x) = true from by simp]
 have h := h.le l8
 have hk := hk.le l8
 have h4 := h4.le l8
 refine ab _ (az _) (ak (fun hd => by cases hd) (fun _ => ?_))
 refine ae ?_
 refine aj (yh hk hli h4 hpv) rfl ⟨rfl, trivial⟩ fun H9 l9 => ?_
 rw [hop]
 have h := h.le l9
 have hk := hk.le l9
 refine ab _ (aX _ _) (ak (fun hd => by cases hd) (fun _ => ?_))
 refine ⟨.u8, 1, rfl, fun e => absurd e (by omega), fun _ => ⟨.u8, 1, rfl, fun _ => ?_, fun e => absurd rfl e⟩⟩; exact IN hk hli h hw x hv hsz hB hst r0 _ _ _
end Go.Proofs.YtieaihgbjikggaaGreat
namespace Go.Proofs.YtieaihgbjikggaaGreat
open Go Go.Sx
set_option maxRecDepth 100000
set_option maxHeartbeats 1000000
theorem Cs {H : Heap} {cv : Value} {cs : List CdX} (hk : CardsX H cv cs) {v : d8} {b : Bd} (h : BdS H v b) {p wh : Int} (hp : 0 ≤ p ∧ p ≤ 255) (hw : 0 ≤ wh ∧ wh ≤ 255) (player id card trig : Int) {s : Value} {tg : List Tg} (hs : Sl H 2 s (bA tg)) :
  Triple PP cK [cv, .agg (ay v b).toArray, .int .u8 p, .int .u8 wh, .agg #[iV player, iV id, iV card, iV trig, s]] H [] fun r _ O' => r = .bool true ∧ O' = [] := by
 by_cases h1 : p ≤ 1
 ·obtain rfl | rfl : p = 0 ∨ p = 1 := by omega
  ·exact JR hk h hw ⟨player, id, card, trig, tg⟩ hs
  ·exact JQ hk h hw ⟨player, id, card, trig, tg⟩ hs
 refine du (vs := cv :: (ay v b ++ [.int .u8 p, .int .u8 wh, iV player, iV id, iV card, iV trig, s])) (by kernel_rfl) ⟨hk.one, aP (au (h.r [])) ⟨rfl, rfl, rfl, rfl, rfl, rfl, hs.one, trivial⟩⟩ ?_
 simp only [bW]
 refine ai fun r0 => ai fun r1 => ?_
 refine aj (DL hk.base) rfl ⟨rfl, trivial⟩ fun H1 l1 => ab _ (az _) (ak (fun _ => ?_) (fun hli => ?_))
 ·exact aj (dM _ _) rfl ⟨rfl, trivial⟩ fun _ _ => ah ⟨rfl, rfl⟩
 have h := h.le l1
 refine ae ?_
 refine aj (DK (h.r [])) rfl ⟨rfl, trivial⟩ fun H2 l2 => ab _ (az _) (ak (fun _ => ?_) (fun hsm => ?_))
 ·exact aj (dM _ _) rfl ⟨rfl, trivial⟩ fun _ _ => ah ⟨rfl, rfl⟩
 have hsm : ei b = true := rX hsm
 have h := h.le l2
 have hsz := Ao hsm
 refine ae ?_
 refine aj (jE (h.r []) (mN hsz (by omega))) rfl ⟨rfl, trivial⟩ fun H3 l3 => ?_
 have xlen : al .len [s] = some (iV tg.length) := by have := hs.len; rwa [aT] at this
 refine ab _ (az _) ?_
 refine af ?_
 refine ab _ (JT _ _) ?_
 refine af ?_
 refine ab _ (aA _ _) ?_
 refine ae (af (af ?_))
 refine ab _ xlen ?_
 refine af ?_
 refine ab _ (cR _ _) ?_
 refine af ?_
 refine ab _ (aA _ _) (ak (fun _ => ?_) (fun hcc => ?_))
 ·exact aj (dM _ _) rfl ⟨rfl, trivial⟩ fun _ _ => ah ⟨rfl, rfl⟩
 exfalso
 have hcc : ((!lY b || decide (p > 1)) || decide ((tg.length : Int) > 6)) = false := hcc
 rw [Bool.or_eq_false_iff, Bool.or_eq_false_iff] at hcc
 exact h1 (by have := of_decide_eq_false hcc.1.2; omega)
end Go.Proofs.YtieaihgbjikggaaGreat
