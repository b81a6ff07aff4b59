/- Legal targets; light cards; lists that are equal. -/
import Derived.Test.YtieaihgbjikggaaGreatC48
import Derived.Test.YtieaihgbjikggaaGreatKT
import Derived.Test.YtieaihgbjikggaaGreatKN2
import Derived.Test.YtieaihgbjikggaaGreatM17
import Derived.Test.YtieaihgbjikggaaGreatC31
import Derived.Test.YtieaihgbjikggaaGreatC1
import Derived.Test.YtieaihgbjikggaaGreatC20
namespace Go.Proofs.YtieaihgbjikggaaGreat
open Go Go.Sx
set_option maxRecDepth 100000
set_option maxHeartbeats 1000000
theorem Li (o p : Tg) : Eg PP (.eqv .eql ar false) [.agg o.row.toArray, .agg p.row.toArray] = some (.bool (o == p)) := by
 have e : Eg PP (.eqv .eql ar false) [.agg o.row.toArray, .agg p.row.toArray] = (Bj [o.id == p.id, o.player == p.player]).map fun b => .bool b := by kernel_rfl
 rw [e, nh]
 simp only [Option.map_some, Option.some.injEq, Value.bool.injEq]
 cases o; cases p
 rw [Bool.eq_iff_iff]
 simp
theorem FW {l : List Tg} {i : Nat} (h : i < l.length) : (bA l)[i]? = some l[i].row := by simp [bA, h]
theorem Ag (t : Tg) : Ones t.row := ⟨rfl, rfl, trivial⟩
theorem IE {H : Heap} {O : Own} {v : Value} {l : List Tg} (h : Sl H 2 v (bA l)) (t : Tg) : RetO PP dj [v, .agg t.row.toArray] H O (iV (ib (fun y => t == y) l 0)) := by
 refine fS (vs := v :: t.row) (by kernel_rfl) ⟨h.one, Ag t⟩ ?_
 simp only [bX]
 have hlen : al .len [v] = some (iV l.length) := by have := h.len; rwa [aT] at this
 have hlB := h.lenB
 rw [aT] at hlB
 refine ai fun r0 => ?_
 refine ab _ hlen ?_
 refine aR l.length (fun i H' O' => O' = O ∧ Heap.le H H' ∧ ib (fun y => t == y) l 0 = ib (fun y => t == y) (l.drop i) i) ⟨rfl, Heap.le_refl H, by simp⟩ ?_
 rintro i H' O' hi - ⟨rfl, hle, hor⟩
 refine ab _ (aB _ _) (ak (fun hb => ?_) (fun hb => ?_))
 ·have hlt : i < l.length := by simpa using hb
  obtain ⟨a, h1, h2, h3, h4⟩ := (h.le hle).idx (k := .i64) (FW hlt)
  refine ae ?_
  refine ab _ h1 (jl h2 h3 h4 ?_)
  refine qW (Li t l[i]) (ak (fun hc => ?_) (fun hc => ?_))
  ·refine ah ⟨?_, rfl⟩
   rw [hor, List.drop_eq_getElem_cons hlt, ib, if_pos hc]; rfl
  ·refine ab _ (ax (by omega)) (aK (by simp [Eqs, E]) hlt ⟨rfl, hle, ?_⟩)
   rw [hor, List.drop_eq_getElem_cons hlt, ib, if_neg (by rw [hc]; simp)]; rfl
 ·have hge : l.length ≤ i := by simpa using hb
  refine ah ⟨?_, rfl⟩
  rw [hor, List.drop_of_length_le hge]; rfl
theorem DN {H : Heap} {O : Own} {v : Value} {l : List Tg} (h : Sl H 2 v (bA l)) (t : Tg) : RetO PP cO [v, .agg t.row.toArray] H O (.bool (l.any fun y => t == y)) := by
 refine eY (vs := v :: t.row) (by kernel_rfl) ⟨h.one, Ag t⟩ ?_
 simp only [bN]
 refine ai fun r0 => ?_
 refine ae ?_
 refine aj (IE h t) rfl ⟨rfl, trivial⟩ fun H1 _ => ?_
 refine ab _ (dS _ _) (ah ⟨?_, rfl⟩)
 rw [← xK _ l 0 (by omega)]
def Cm (cs : List Cd) (b : Bd) (p k : Int) (t : Tg) : Bool := (tI cs b p k).any fun y => t == y
theorem J7 {H : Heap} {cv : Value} {cs : List Cd} (hk : CardsS H cv cs) (hli : dR cs = true) {v : d8} {b : Bd} (h : BdS H v b) (hst : b.stack.length ≤ 1000000) (p k : Int) (t : Tg) :
  RetO PP rM [cv, .agg (ay v b).toArray, iV p, iV k, .agg t.row.toArray] H [] (.bool (Cm cs b p k t)) := by
 refine vy (vs := cv :: (ay v b ++ (iV p :: iV k :: t.row))) (by kernel_rfl) ⟨hk.one, aP (au (h.r [])) ⟨rfl, rfl, Ag t⟩⟩ ?_
 simp only [mu]
 refine ai fun r0 => ai fun r1 => ?_
 refine ae (ae ?_)
 refine aC (J5 hk hli h hst p k) ?_
 rintro x H1 _ ⟨hx, rfl⟩ l1
 refine ⟨[x], rfl, ⟨hx.one, trivial⟩, ?_⟩
 refine aj (DN hx t) rfl ⟨rfl, trivial⟩ fun H2 _ => ?_
 exact ah ⟨rfl, rfl⟩
end Go.Proofs.YtieaihgbjikggaaGreat
namespace Go.Proofs.YtieaihgbjikggaaGreat
open Go Go.Sx
set_option maxRecDepth 100000
set_option maxHeartbeats 1000000
theorem Iy {H : Heap} (O : Own) {v : Value} {cs : List Cd} (h : CardsS H v cs) {i : Nat} (hi : i < cs.length) :
  ∃ a r, al (.idx 14) [v, iV i] = some (.pointer (some a)) ∧ CdR H r cs[i] ∧ Reads H O (bc (.pointer (some a)) 11) 1 [g r 11] ∧ Reads H O (bc (.pointer (some a)) 12) 1 [g r 12] := by
 obtain ⟨rows, h1, h2, h3⟩ := h
 have hlt : i < rows.length := by omega
 obtain ⟨a, k1, k2, k3, k4, k5⟩ := (h1.rsl O).idx .i64 i rows[i] (by simp [hlt])
 refine ⟨a, rows[i], k1, h3 i _ _ (List.getElem?_eq_getElem hlt) (List.getElem?_eq_getElem hi), ?_, ?_⟩
 ·have e : ((rows[i]).drop 11).take 1 = [g rows[i] 11] := by
   rw [g, List.getD_eq_getElem?_getD, List.getElem?_eq_getElem (by omega), List.drop_eq_getElem_cons (by omega)]; rfl
  rw [← e]; exact k3 11 1 (by omega)
 ·have e : ((rows[i]).drop 12).take 1 = [g rows[i] 12] := by
   rw [g, List.getD_eq_getElem?_getD, List.getElem?_eq_getElem (by omega), List.drop_eq_getElem_cons (by omega)]; rfl
  rw [← e]; exact k3 12 1 (by omega)
theorem HI {H : Heap} (O : Own) {v : Value} {tr : List Nat} (h : TrigsS H v tr) {i : Nat} (hi : i < tr.length) :
  ∃ a r, al (.idx 2) [v, iV i] = some (.pointer (some a)) ∧ TrigR H r tr[i] ∧ Reads H O (bc (.pointer (some a)) 1) 1 [g r 1] := by
 obtain ⟨rows, h1, h2, h3⟩ := h
 have hlt : i < rows.length := by omega
 obtain ⟨a, k1, k2, k3, k4, k5⟩ := (h1.rsl O).idx .i64 i rows[i] (by simp [hlt])
 refine ⟨a, rows[i], k1, h3 i _ _ (List.getElem?_eq_getElem hlt) (List.getElem?_eq_getElem hi), ?_⟩
 have e : ((rows[i]).drop 1).take 1 = [g rows[i] 1] := by
  rw [g, List.getD_eq_getElem?_getD, List.getElem?_eq_getElem (by omega), List.drop_eq_getElem_cons (by omega)]; rfl
 rw [← e]; exact k3 1 1 (by omega)
theorem DL {H : Heap} {v : Value} {cs : List Cd} (h : CardsS H v cs) : RetO PP kb [v] H [] (.bool (dR cs)) := by
 refine oZ (vs := [v]) (by kernel_rfl) ⟨h.one, trivial⟩ ?_
 simp only [gD]
 have hB : cs.length < 2 ^ 63 := by
  obtain ⟨rows, h1, h2, _⟩ := h
  have := h1.lenB; omega
 refine aR cs.length (fun i H' O' => O' = [] ∧ Heap.le H H' ∧ i ≤ 13 ∧ ((cs.take i).all gn) = true) ⟨rfl, Heap.le_refl H, by omega, rfl⟩ ?_
 rintro i H' O' hi - ⟨rfl, hle, hi13, hor⟩
 replace h := h.le hle
 refine ab _ h.len ?_
 refine ab _ (aB _ _) ?_
 refine af ?_
 refine ab _ (aB _ _) ?_
 refine af ?_
 refine ab _ (bE _ _) (ak (fun hb => ?_) (fun hb => ?_))
 ·have hb : (decide ((i : Int) < (cs.length : Int)) && decide ((i : Int) < 13)) = true := hb
  rw [Bool.and_eq_true, decide_eq_true_eq, decide_eq_true_eq] at hb
  have hlt : i < cs.length := by omega
  have hl13 : i < 13 := by omega
  obtain ⟨a, r, k1, k2, k3, k4⟩ := Iy [] h hlt
  have hst : dR cs = false ∨ gn cs[i] = true := by
   cases hc : gn cs[i]
   ·refine .inl ?_
    rw [dR, Bool.and_eq_false_iff]
    refine .inl ?_
    rw [List.all_eq_false]
    exact ⟨cs[i], List.mem_take_iff_getElem.2 ⟨i, by omega, rfl⟩, by rw [hc]; simp⟩
   ·exact .inr rfl
  have hbad : ∀ {x : Bool}, gn cs[i] = false → x = false → (x = dR cs) := fun h1 h2 => by
   rcases hst with e | e
   ·rw [h2, e]
   ·rw [h1] at e; cases e
  refine ab _ k1 ?_
  refine aL rfl ?_
  refine ap k3 rfl ⟨k2.eff.one, trivial⟩ ?_
  refine ab _ k2.eff.len ?_
  refine ab _ (cR _ _) ?_
  refine af (af ?_)
  refine ⟨.pointer (some a), fun _ => k1, .inr rfl, ?_⟩
  refine aL rfl (af (af ?_))
  refine ⟨[g r 12], rfl, ⟨k2.trig.one, trivial⟩, fun _ => k4, ?_⟩
  refine af ?_
  refine ab _ k2.trig.len ?_
  refine af ?_
  refine ab _ (cR _ _) ?_
  refine af ?_
  refine ab _ (aA _ _) (ak (fun hc => ?_) (fun hc => ?_))
  ·have hc : (decide ((cs[i].tg.length : Int) > 5) || decide ((cs[i].tr.length : Int) > 3)) = true := hc
   refine ah ⟨?_, rfl⟩
   congr 1
   exact hbad (by rw [gn, hc]; rfl) rfl
  ·have hc : (decide ((cs[i].tg.length : Int) > 5) || decide ((cs[i].tr.length : Int) > 3)) = false := hc
   have hc3 : cs[i].tr.length ≤ 3 := by
    rw [Bool.or_eq_false_iff, decide_eq_false_iff_not, decide_eq_false_iff_not] at hc; omega
   refine aR cs[i].tr.length (fun j H2 O2 => O2 = [] ∧ Heap.le H' H2 ∧ (cs[i].tr.all fun n => !decide ((n : Int) > 5)) = ((cs[i].tr.drop j).all fun n => !decide ((n : Int) > 5))) ⟨rfl, Heap.le_refl _, rfl⟩ ?_
   rintro j H2 O2 hj - ⟨rfl, hle2, hor2⟩
   refine ab _ k1 ?_
   refine aL rfl ?_
   refine ap (wj k4 hle2) rfl ⟨k2.trig.one, trivial⟩ ?_
   refine ab _ k2.trig.len ?_
   refine ab _ (aB _ _) (ak (fun hd => ?_) (fun hd => ?_))
   ·have hjlt : j < cs[i].tr.length := by simpa using hd
    obtain ⟨a2, r2, m1, m2, m3⟩ := HI [] (k2.trig.le hle2) hjlt
    obtain ⟨er, m4, m5⟩ := m2
    have el : al .len [g r2 1] = some (iV cs[i].tr[j]) := by have := m4.len; rwa [m5] at this
    refine ab _ k1 ?_
    refine aL rfl ?_
    refine ap (wj k4 hle2) rfl ⟨k2.trig.one, trivial⟩ ?_
    refine ab _ m1 ?_
    refine aL rfl ?_
    refine ap m3 rfl ⟨m4.one, trivial⟩ ?_
    refine ab _ el ?_
    refine ab _ (cR _ _) (ak (fun he => ?_) (fun he => ?_))
    ·have he : decide ((cs[i].tr[j] : Int) > 5) = true := he
     refine ah ⟨?_, rfl⟩
     congr 1
     exact hbad (by rw [gn, hor2, List.drop_eq_getElem_cons hjlt, List.all_cons, he]; simp) rfl
    ·have he : decide ((cs[i].tr[j] : Int) > 5) = false := he
     refine ab _ (ax (by omega)) (aK (by simp [Eqs, E]) hjlt ⟨rfl, hle2, ?_⟩)
     rw [hor2, List.drop_eq_getElem_cons hjlt, List.all_cons, he]; rfl
   ·have hjge : cs[i].tr.length ≤ j := by simpa using hd
    rw [List.drop_of_length_le hjge] at hor2
    refine ab _ (ax (by omega)) (aK (by simp [Eqs, E]) hlt ⟨rfl, Heap.le_trans hle hle2, by omega, ?_⟩)
    rw [List.take_add_one, List.getElem?_eq_getElem hlt, List.all_append, hor]
    simp only [Option.toList_some, List.all_cons, List.all_nil, Bool.and_true, Bool.true_and]
    rw [gn, hc, hor2]; rfl
 ·have hb : (decide ((i : Int) < (cs.length : Int)) && decide ((i : Int) < 13)) = false := hb
  rw [Bool.and_eq_false_iff, decide_eq_false_iff_not, decide_eq_false_iff_not] at hb
  refine ab _ h.len ?_
  refine ab _ (ef _ _) (ah ⟨?_, rfl⟩)
  congr 1
  rw [dR]
  rcases hb with hb | hb
  ·have e1 : cs.take i = cs := List.take_of_length_le (by omega)
   have e2 : cs.take 13 = cs := List.take_of_length_le (by omega)
   rw [e1] at hor
   rw [e2, hor, Bool.true_and]
  ·obtain rfl : i = 13 := by omega
   rw [hor, Bool.true_and]
end Go.Proofs.YtieaihgbjikggaaGreat
namespace Go.Proofs.YtieaihgbjikggaaGreat
open Go Go.Sx
set_option maxRecDepth 100000
set_option maxHeartbeats 1000000
theorem J6 {H : Heap} {v : Value} {tg : List Int} (h : EffsS H v tg) (hb : tg.length ≤ 1000000) : Triple PP rL [v] H [] fun r _ O' => OSl dr 1 r (aO (bo tg)) O' := by
 refine vx (vs := [v]) (by kernel_rfl) ⟨h.one, trivial⟩ ?_
 simp only [mt]
 refine ab _ h.len ?_
 refine dq tg.length (fun i x H' O' => Heap.le H H' ∧ OSl dr 1 x (aO (bo (tg.take i))) O') ⟨Heap.le_refl _, OSl.nil _ _⟩ ?_
 rintro i x H' O' hi - ⟨hle, hx⟩
 refine ab _ (aB _ _) (ak (fun hb => ?_) (fun hb => ?_))
 ·have hlt : i < tg.length := by simpa using hb
  obtain ⟨a, r, k1, k2, k3, k4, k5, _⟩ := DB (O := O') (h.le hle) hlt
  have hft := gT (p := fun t : Int => t != 0) hlt
  refine ab _ k1 (ap (ed k2) k3 k4 (ai fun r0 => ?_))
  refine ae (ae ?_)
  rw [k5]
  refine ab _ (aX _ _) ?_
  refine ak (fun hc => ?_) (fun hc => ?_)
  ·have hc : (tg[i] != 0) = true := hc
   have hlen : (bo (tg.take i)).length ≤ 1000000 := by rw [bo]; exact Nat.le_trans (List.length_filter_le _ _) (by rw [List.length_take]; omega)
   refine ae ?_
   refine ai fun r2 => ?_
   refine aI (rows := aO (bo (tg.take i))) (news := [[iV tg[i]]]) (O1 := O') (O2 := []) (e := dr) (size := 1) (bytes := 8) (by kernel_rfl) (by simp) hx (fun Hf _ hf => Sl.block1 (hf _ List.mem_cons_self) rfl ⟨rfl, trivial⟩) (by rw [aO, List.length_map, List.length_singleton]; omega) (by rw [aO, List.length_map, List.length_singleton]; omega) ?_
   intro v' A' H6 l6 hA'
   refine ab _ (ax (by omega)) (aN (by simp [Eqs]) hlt ⟨Heap.le_trans hle l6, ?_⟩)
   rw [List.append_nil, bo, hft, if_pos hc, aO, List.map_append]; exact hA'
  ·have hc : (tg[i] != 0) = false := hc
   refine ab _ (ax (by omega)) (aN (by simp [Eqs]) hlt ⟨hle, ?_⟩)
   rw [bo, hft, if_neg (by rw [hc]; simp), List.append_nil]; exact hx
 ·have hge : tg.length ≤ i := by simpa using hb
  rw [List.take_of_length_le hge] at hx
  exact ah hx
end Go.Proofs.YtieaihgbjikggaaGreat
namespace Go.Proofs.YtieaihgbjikggaaGreat
open Go Go.Sx
set_option maxRecDepth 100000
set_option maxHeartbeats 1000000
theorem IG {cs : List Cd} {b : Bd} {p x : Int} : x ∈ tB cs b p ↔ x ∈ oG cs b p ∨ x ∈ oG cs b (1 - p) := by
 rw [tB, (qU _).mem_iff, List.mem_append]
end Go.Proofs.YtieaihgbjikggaaGreat
namespace Go.Proofs.YtieaihgbjikggaaGreat
open Go Go.Sx
set_option maxRecDepth 100000
set_option maxHeartbeats 1000000
theorem B6 : ∀ {l : List (Int × Int)} {a p : Int}, (l.map (·.1)).Nodup → (a, p) ∈ l → l.Perm ((a, p) :: l.filter fun q => q.1 != a)
 | [], _, _, _, h => by simp at h
 | q :: l, a, p, hn, h => by
  rw [List.map_cons, List.nodup_cons] at hn
  rcases List.mem_cons.1 h with rfl | h
  ·have e : l.filter (fun q => q.1 != a) = l := by
    rw [List.filter_eq_self]
    intro x hx
    simp only [bne_iff_ne, ne_eq]
    rintro rfl
    exact hn.1 (List.mem_map.2 ⟨x, hx, rfl⟩)
   rw [List.filter_cons, if_neg (by simp), e]
  ·have hne : q.1 ≠ a := fun e => hn.1 (List.mem_map.2 ⟨(a, p), h, e.symm⟩)
   rw [List.filter_cons, if_pos (by simpa using hne)]
   exact ((B6 hn.2 h).cons q).trans (List.Perm.swap _ _ _)
theorem B8 (s : St) (id p : Int) : bF (JG s id) p = (bF s p).filter fun q => q.1 != id := by
 simp only [bF, JG, gN, List.filter_map, List.filter_append, List.map_append, Function.comp_def]
theorem CH (l : List It) (id : Int) : bz (l.filter fun x => !nH id x) = (bz l).filter fun x => x.id != id := by
 rw [bz, bz, List.filter_filter, List.filter_filter]
 refine List.filter_congr fun x _ => ?_
 simp only [nH]
 cases decide (x.trig < 0)
 ·simp
 ·simp [bne]
theorem Gr (l : List It) (id : Int) : cJ (l.filter fun x => !nH id x) = (cJ l).filter fun q => q.1 != id := by
 rw [cJ, cJ, CH, List.filter_map]; rfl
theorem Fr (l : List It) (id : Int) : aU (l.filter fun x => !nH id x) = (aU l).filter fun q => q.1 != id := by
 rw [aU, aU, CH, List.filter_map]; rfl
theorem E3 (b : Bd) (id : Int) : aH (o5 b id) = (aH b).filter fun q => q.1 != id := by
 have e0 : (o5 b id).s0 = JG b.s0 id := rfl
 have e1 : (o5 b id).s1 = JG b.s1 id := rfl
 have e2 : (o5 b id).stack = b.stack.filter fun x => !nH id x := rfl
 rw [aH, aH, e0, e1, e2, B8, B8, Gr, List.filter_append, List.filter_append]
theorem B7 (s : St) {z : Int} (hz : z = 0 ∨ z = 1 ∨ z = 2 ∨ z = 3) (id p : Int) : (bF (Eh s z id) p).Perm ((id, p) :: bF s p) := by
 have key : ∀ {a b c d : List Int}, (a ++ ([id] ++ (b ++ (c ++ d)))).Perm (id :: (a ++ (b ++ (c ++ d)))) := fun {a b c d} => List.perm_middle
 rcases hz with rfl | rfl | rfl | rfl
 ·have e : (Eh s 0 id) = { s with lib := s.lib ++ [id] } := rfl
  rw [e, bF, bF, ← List.map_cons (f := fun i => (i, p))]
  refine List.Perm.map _ ?_
  show (s.lib ++ [id] ++ (s.hand ++ (s.field ++ s.grave))).Perm _
  rw [List.append_assoc]; exact List.perm_middle
 ·have e : (Eh s 1 id) = { s with hand := s.hand ++ [id] } := rfl
  rw [e, bF, bF, ← List.map_cons (f := fun i => (i, p))]
  refine List.Perm.map _ ?_
  show (s.lib ++ (s.hand ++ [id] ++ (s.field ++ s.grave))).Perm _
  rw [List.append_assoc, ← List.append_assoc s.lib]
  refine List.perm_middle.trans ?_
  rw [List.append_assoc]
  exact List.Perm.refl _
 ·have e : (Eh s 2 id) = { s with field := s.field ++ [id] } := rfl
  rw [e, bF, bF, ← List.map_cons (f := fun i => (i, p))]
  refine List.Perm.map _ ?_
  show (s.lib ++ (s.hand ++ (s.field ++ [id] ++ s.grave))).Perm _
  rw [List.append_assoc, ← List.append_assoc s.hand, ← List.append_assoc s.lib]
  refine List.perm_middle.trans ?_
  rw [List.append_assoc, List.append_assoc]
  exact List.Perm.refl _
 ·have e : (Eh s 3 id) = { s with grave := s.grave ++ [id] } := rfl
  rw [e, bF, bF, ← List.map_cons (f := fun i => (i, p))]
  refine List.Perm.map _ ?_
  show (s.lib ++ (s.hand ++ (s.field ++ (s.grave ++ [id])))).Perm _
  rw [← List.append_assoc, ← List.append_assoc, ← List.append_assoc]
  refine List.perm_append_comm.trans ?_
  show (id :: _).Perm _
  rw [List.append_assoc, List.append_assoc]
  exact List.Perm.refl _
theorem E2 (b : Bd) {p : Int} (hp : p = 0 ∨ p = 1) {z : Int} (hz : z = 0 ∨ z = 1 ∨ z = 2 ∨ z = 3) (id : Int) : (aH (sE b p z id)).Perm ((id, p) :: aH b) := by
 rcases hp with rfl | rfl
 ·exact (B7 b.s0 hz id 0).append_right _
 ·refine List.Perm.trans ((((B7 b.s1 hz id 1).append_right _).append_left _)) ?_
  exact List.perm_middle
theorem Dr {l : List (Int × Int)} {id x v : Int} (h : cn (l.filter fun q => q.1 != id) x = some v) : cn l x = some v := by
 induction l with
 | nil => exact h
 | cons q l ih =>
  by_cases hq : q.1 = id
  ·rw [List.filter_cons, if_neg (by simp [hq])] at h
   have h2 := ih h
   have hx : x ≠ id := by
    rintro rfl
    have : cn (l.filter fun q => q.1 != x) x = none := by
     rw [eV]
     intro hm
     obtain ⟨y, hy, e⟩ := List.mem_map.1 hm
     have := (List.mem_filter.1 hy).2
     simp [e] at this
    rw [this] at h; cases h
   have hne : (x == q.1) = false := by rw [hq]; simpa using hx
   simp only [cn, List.find?_cons, hne] at h2 ⊢
   exact h2
  ·rw [List.filter_cons, if_pos (by simpa using hq)] at h
   simp only [cn, List.find?_cons] at h ih ⊢
   cases hxq : (x == q.1)
   ·rw [hxq] at h
    exact ih h
   ·rw [hxq] at h
    exact h
theorem B4 {b c : Bd} (h : bm ba b = true) (hp : (aH b).Perm (aH c)) (ho : c.objs = b.objs) (hc : ∀ x v, cn (aU c.stack) x = some v → cn (aU b.stack) x = some v) : bm ba c = true := by
 obtain ⟨p1, p2, p3⟩ := ej h
 have hn := dJ h
 rw [← js] at hn
 simp only [bm, Bool.and_eq_true, decide_eq_true_eq, kR, ho]
 refine ⟨(hp.map _).nodup_iff.1 hn, ⟨p1, ?_⟩, by rw [← hp.length_eq]; exact p3⟩
 rw [List.all_eq_true] at p2 ⊢
 intro o hm
 have h1 := p2 o hm
 simp only [ok1, Bool.and_eq_true] at h1 ⊢
 rw [← ue hn hp]
 refine ⟨h1.1, h1.2.1, h1.2.2.1, ?_⟩
 have h2 := h1.2.2.2
 cases e : cn (aU c.stack) o.id with
 | none => rfl
 | some v => rw [hc _ _ e] at h2; exact h2
theorem DT {att other att' other' : List Int} {id : Int} (ha : ∀ y ∈ att, y ≠ id → y ∈ att') (ho : ∀ y ∈ other, y ≠ id → y ∈ other') :
  ∀ {bl : List Bl} {ua ub ua' ub' : List Int}, (∀ y ∈ ua', y ∈ ua) → (∀ y ∈ ub', y ∈ ub) → uz att other ua ub bl = true → uz att' other' ua' ub' (bl.filter fun x => !jG id x) = true
 | [], _, _, _, _, _, _, _ => rfl
 | x :: bl, ua, ub, ua', ub', h1, h2, h => by
  simp only [uz, Bool.and_eq_true, Bool.not_eq_true', List.contains_iff_mem, ← Bool.not_eq_true] at h
  obtain ⟨⟨⟨q1, q2⟩, q3, q4⟩, q5⟩ := h
  by_cases hx : jG id x = true
  ·rw [List.filter_cons, if_neg (by simp [hx])]
   exact DT ha ho (fun y hy => List.mem_cons_of_mem _ (h1 y hy)) (fun y hy => List.mem_cons_of_mem _ (h2 y hy)) q5
  ·rw [List.filter_cons, if_pos (by simpa using hx)]
   simp only [jG, Bool.or_eq_true, beq_iff_eq, not_or] at hx
   simp only [uz, Bool.and_eq_true, Bool.not_eq_true', List.contains_iff_mem, ← Bool.not_eq_true]
   refine ⟨⟨⟨fun hy => q1 (h1 _ hy), ha _ q2 hx.2⟩, fun hy => q3 (h2 _ hy), ho _ q4 hx.1⟩, ?_⟩
   refine DT ha ho (fun y hy => ?_) (fun y hy => ?_) q5
   ·rcases List.mem_cons.1 hy with rfl | hy
    ·exact List.mem_cons_self
    ·exact List.mem_cons_of_mem _ (h1 y hy)
   ·rcases List.mem_cons.1 hy with rfl | hy
    ·exact List.mem_cons_self
    ·exact List.mem_cons_of_mem _ (h2 y hy)
theorem sc {l : List Int} {id y : Int} : y ∈ gN l id ↔ y ∈ l ∧ y ≠ id := by rw [gN, List.mem_filter, bne_iff_ne]
theorem xP {own other own' other' att : List Int} {bl : List Bl} {id : Int} (ha : ∀ y ∈ own, y ≠ id → y ∈ own') (ho : ∀ y ∈ other, y ≠ id → y ∈ other') (h : jH own other att bl = true) :
  jH own' other' (gN att id) (bl.filter fun x => !jG id x) = true := by
 simp only [jH, Bool.and_eq_true, decide_eq_true_eq, List.all_eq_true, List.contains_iff_mem] at h ⊢
 refine ⟨h.1.filter _, fun x hx => ?_, DT (fun y hy hne => sc.2 ⟨hy, hne⟩) ho (fun _ h => h) (fun _ h => h) h.2.2⟩
 obtain ⟨h1, h2⟩ := sc.1 hx
 exact ha x (h.2.1 x h1) h2
theorem zw {b : Bd} {k : Nat} {o : Ob} {z : Int} (ho : o.owner = 0 ∨ o.owner = 1) (hz : z = 0 ∨ z = 1 ∨ z = 2 ∨ z = 3) {q : Int} (hq : q = 0 ∨ q = 1) (y : Int) :
  y ∈ (dt (d9 b k o z) q).field ↔ (y ∈ (dt b q).field ∧ y ≠ o.id) ∨ (y = o.id ∧ z = 2 ∧ q = o.owner) := by
 rw [d9]
 generalize o.id = id
 rcases ho with h | h <;> rw [h] <;> rcases hq with rfl | rfl <;> rcases hz with rfl | rfl | rfl | rfl <;> simp [sE, cZ, dt, Eh, eL, o5, JG, sc]
theorem Cf {b : Bd} {k : Nat} {o : Ob} {z : Int} : (d9 b k o z).objs = b.objs.set k o := by
 rw [d9, sE, cZ]; split <;> rfl
theorem qZ {b : Bd} {k : Nat} {o : Ob} {z : Int} : (d9 b k o z).stack = b.stack.filter fun x => !nH o.id x := by
 rw [d9, sE, cZ]; split <;> rfl
theorem E9 {b : Bd} {k : Nat} {o : Ob} {z : Int} : bu (d9 b k o z).s0 = bu b.s0 ∧ bu (d9 b k o z).s1 = bu b.s1 := by
 have hz : ∀ (s : St) (id : Int), bu (Eh s z id) = bu s := fun s id => by
  rw [Eh]
  split
  ·rfl
  split
  ·rfl
  split
  ·rfl
  split
  ·rfl
  ·rfl
 rw [d9, sE, cZ]
 split
 ·rename_i h
  refine ⟨?_, rfl⟩
  show bu (Eh (dt (eL (o5 b o.id) k o) o.owner) z o.id) = _
  rw [hz, dt, if_pos h]; rfl
 ·rename_i h
  refine ⟨rfl, ?_⟩
  show bu (Eh (dt (eL (o5 b o.id) k o) o.owner) z o.id) = _
  rw [hz, dt, if_neg h]; rfl
theorem GA {b : Bd} {k : Nat} {o : Ob} {z : Int} : (d9 b k o z).att = gN b.att o.id ∧ (d9 b k o z).blocks = b.blocks.filter (fun x => !jG o.id x) ∧ (d9 b k o z).active = b.active ∧ (d9 b k o z).turn = b.turn ∧ (d9 b k o z).phase = b.phase ∧ (d9 b k o z).holder = b.holder ∧ (d9 b k o z).passes = b.passes ∧ (d9 b k o z).queue = b.queue := by
 rw [d9, sE, cZ]; split <;> exact ⟨rfl, rfl, rfl, rfl, rfl, rfl, rfl, rfl⟩
theorem E8 {b : Bd} (h : aw b = true) {k : Nat} {o : Ob} (hk : b.objs[k]? = some o) {z : Int} (hz : z = 0 ∨ z = 1 ∨ z = 2 ∨ z = 3) : aw (d9 b k (bD o z) z) = true := by
 have hpl := (aM h).1
 obtain ⟨hvo, hmem, _, hown⟩ := co hpl hk
 generalize hob : bD o z = o'
 have i1 : o'.id = o.id := by rw [← hob]; rfl
 have i2 : o'.owner = o.owner := by rw [← hob]; rfl
 have i3 : o'.card = o.card := by rw [← hob]; rfl
 have hvo' : ba o' = true := by rw [← hob]; exact uN z hvo
 have hown' : o'.owner = 0 ∨ o'.owner = 1 := by rw [i2]; exact hown
 have hset := zi hpl hk i1 i2 i3 hvo'
 obtain ⟨r1, r2, r3, r4, r5, r6, r7, r8⟩ := GA (b := b) (k := k) (o := o') (z := z)
 obtain ⟨s0, s1⟩ := E9 (b := b) (k := k) (o := o') (z := z)
 have hplm : bm ba (d9 b k o' z) = true := by
  refine B4 hset ?_ Cf fun x v hx => ?_
  ·have hn := dJ hpl
   rw [← js] at hn
   have e : aH (eL (o5 b o'.id) k o') = (aH b).filter fun q => q.1 != o'.id := by rw [show aH (eL (o5 b o'.id) k o') = aH (o5 b o'.id) from rfl, E3]
   have p1 := B6 hn hmem
   have p2 := E2 (eL (o5 b o'.id) k o') hown' hz o'.id
   rw [e, i1, i2] at p2
   rw [d9, i1, i2]
   exact p1.trans p2.symm
  ·rw [qZ, Fr] at hx
   exact Dr hx
 have hf : fX (d9 b k o' z) = true := by
  have h0 := (aM h).2.1
  have f0 : ∀ y ∈ b.s0.field, y ≠ o'.id → y ∈ (d9 b k o' z).s0.field := fun y hy hne => (zw (b := b) (k := k) hown' hz (q := 0) (.inl rfl) y).2 (.inl ⟨hy, hne⟩)
  have f1 : ∀ y ∈ b.s1.field, y ≠ o'.id → y ∈ (d9 b k o' z).s1.field := fun y hy hne => (zw (b := b) (k := k) hown' hz (q := 1) (.inr rfl) y).2 (.inl ⟨hy, hne⟩)
  rw [fX] at h0 ⊢
  rw [r1, r2, r3]
  split
  ·rename_i ha
   rw [if_pos ha] at h0
   exact xP f0 f1 h0
  ·rename_i ha
   rw [if_neg ha] at h0
   exact xP f1 f0 h0
 have hlen : (d9 b k o' z).objs.length = b.objs.length := by rw [Cf, List.length_set]
 have hsl : (d9 b k o' z).stack.length ≤ b.stack.length := by rw [qZ]; exact List.length_filter_le _ _
 have hany : ((d9 b k o' z).stack.any fun x => !ct x false) = false := by
  rw [List.any_eq_false]
  intro x hx
  rw [qZ] at hx
  have h4 := (aM h).2.2.2
  rw [List.all_eq_true] at h4
  rw [h4 x (List.mem_filter.1 hx).1]; simp
 simp only [aw, rA, Bool.and_eq_true, Bool.not_eq_true', Bool.or_eq_false_iff, decide_eq_false_iff_not] at h ⊢
 obtain ⟨a1, a2, a3, a4, ⟨⟨⟨a5, a6⟩, a7⟩, a8⟩, a9, a10, a11, a12, a13⟩ := h
 rw [r3, r4, r5, r6, r7, r8, hlen, s0, s1]
 exact ⟨a1, a2, a3, a4, ⟨⟨⟨a5, a6⟩, by omega⟩, a8⟩, a9, a10, hany, a12, hplm, hf⟩
theorem nb : ∀ {l m : List Int}, l.Nodup → (∀ x ∈ l, x ∈ m) → l.length ≤ m.length
 | [], _, _, _ => Nat.zero_le _
 | a :: l, m, h, hs => by
  rw [List.nodup_cons] at h
  have ha := hs a List.mem_cons_self
  have ih := nb (m := m.erase a) h.2 fun x hx => (List.mem_erase_of_ne (fun e => by rw [e] at hx; exact h.1 hx)).2 (hs x (List.mem_cons_of_mem _ hx))
  rw [List.length_erase_of_mem ha] at ih
  have := List.length_pos_of_mem ha
  rw [List.length_cons]; omega
section
variable {cs : List Cd} {b : Bd} (h : aw b = true) {k : Nat} {o : Ob} (hk : b.objs[k]? = some o) {z : Int} (hz : z = 0 ∨ z = 1 ∨ z = 2 ∨ z = 3)
include h hk hz
end
end Go.Proofs.YtieaihgbjikggaaGreat
namespace Go.Proofs.YtieaihgbjikggaaGreat
open Go Go.Sx
set_option maxRecDepth 100000
set_option maxHeartbeats 1000000
theorem Kk (H : Heap) : CdRX H BD Lg := ⟨rfl, Sl.nil H 5, ⟨[], Sl.nil H 2, rfl, fun i r t h => by simp at h⟩⟩
theorem Ci {H : Heap} {v : Value} {cs : List CdX} (h : CardsX H v cs) (c : Int) (hn : ¬ (c < 0 ∨ c ≥ (cs.length : Int))) :
  ∃ a r, al (.idx 14) [v, iV c] = some (.pointer (some a)) ∧ H.read (.pointer (some a)) 14 = some r ∧ r.length = 14 ∧ Ones r ∧ CdRX H r (cdX cs c) := by
 obtain ⟨rows, h1, h2, h3⟩ := h
 have hlt : c.toNat < rows.length := by omega
 obtain ⟨a, k1, k2, k3, k4⟩ := h1.idx (k := .i64) (i := c.toNat) (List.getElem?_eq_getElem hlt)
 have hk : cs[c.toNat]? = some (cdX cs c) := by
  rw [cdX, if_neg hn, List.getD_eq_getElem?_getD, List.getElem?_eq_getElem (by omega)]; rfl
 refine ⟨a, _, ?_, k2, k3, k4, h3 c.toNat _ _ (List.getElem?_eq_getElem hlt) hk⟩
 rw [show iV c = iV (c.toNat : Int) by rw [Int.toNat_of_nonneg (by omega)]]; exact k1
def KV (cs : List CdX) (c : Int) (v : Value) (H : Heap) : Prop := ∃ cells : List Value, v = .agg cells.toArray ∧ cells.length = 14 ∧ Ones cells ∧ CdRX H cells (cdX cs c)
theorem J2 {H : Heap} {O : Own} {v : Value} {cs : List CdX} (h : CardsX H v cs) (o : Ob) : Triple PP kw [v, .agg o.row.toArray] H O fun r H' O' => KV cs o.card r H' ∧ O' = O := by
 refine kI (vs := v :: o.row) (by kernel_rfl) ⟨h.one, dY o⟩ ?_
 simp only [iH]
 refine ai fun r0 => ai fun r1 => ?_
 refine ae ?_
 refine ab _ (aB _ _) ?_
 refine ae (af (af ?_))
 refine ab _ h.len ?_
 refine af (af (ab _ (ef _ _) (af (ab _ (aA _ _) ?_))))
 refine ak (fun hb => ?_) (fun hb => ?_)
 ·have hb : (decide (o.card < 0) || decide (o.card ≥ (cs.length : Int))) = true := hb
  refine ae (ae ?_)
  refine ah ⟨⟨BD, rfl, rfl, ⟨rfl, rfl, rfl, rfl, rfl, rfl, rfl, rfl, rfl, rfl, rfl, rfl, rfl, rfl, trivial⟩, ?_⟩, rfl⟩
  rw [cdX, if_pos (by simpa using hb)]; exact Kk H
 ·have hb : (decide (o.card < 0) || decide (o.card ≥ (cs.length : Int))) = false := hb
  obtain ⟨a, r, k1, k2, k3, k4, k5⟩ := Ci h o.card (by simpa [Bool.or_eq_false_iff] using hb)
  refine ae ?_
  refine ab _ k1 (ap (ed k2) k3 k4 ?_)
  refine ae (ae ?_)
  exact ah ⟨⟨r, by rw [← vH k3]; rfl, k3, k4, k5⟩, rfl⟩
theorem Jz {H : Heap} {O : Own} {v : Value} {cs : List CdX} (h : CardsX H v cs) (o : Ob) : Triple PP eK [v, .agg o.row.toArray] H O fun r H' O' => KV cs o.card r H' ∧ O' = O := by
 refine fC (vs := v :: o.row) (by kernel_rfl) ⟨h.one, dY o⟩ ?_
 simp only [dz]
 refine ai fun r0 => ai fun r1 => ?_
 refine ae ?_
 refine ab _ (aB _ _) ?_
 refine ae (af (af ?_))
 refine ab _ h.len ?_
 refine af (af (ab _ (ef _ _) (af (ab _ (aA _ _) ?_))))
 refine ak (fun hb => ?_) (fun hb => ?_)
 ·have hb : (decide (o.card < 0) || decide (o.card ≥ (cs.length : Int))) = true := hb
  refine ae (ae ?_)
  refine ah ⟨⟨BD, rfl, rfl, ⟨rfl, rfl, rfl, rfl, rfl, rfl, rfl, rfl, rfl, rfl, rfl, rfl, rfl, rfl, trivial⟩, ?_⟩, rfl⟩
  rw [cdX, if_pos (by simpa using hb)]; exact Kk H
 ·have hb : (decide (o.card < 0) || decide (o.card ≥ (cs.length : Int))) = false := hb
  obtain ⟨a, r, k1, k2, k3, k4, k5⟩ := Ci h o.card (by simpa [Bool.or_eq_false_iff] using hb)
  refine ae ?_
  refine ab _ k1 (ap (ed k2) k3 k4 ?_)
  refine ae (ae ?_)
  exact ah ⟨⟨r, by rw [← vH k3]; rfl, k3, k4, k5⟩, rfl⟩
def Ly (v : Value) (trs : List (List Eff)) (O : Own) : Prop := ∃ rows A Ts, O.Perm (A ++ List.flatten Ts) ∧ OSl eW 2 v rows A ∧ rows.length = trs.length ∧ Ts.length = trs.length ∧
 ∀ (i : Nat) (r : List Value) (l : List Eff) (T : Own), rows[i]? = some r → trs[i]? = some l → Ts[i]? = some T → OSl dO 5 (g r 1) (fY l) T
def KY (c : CdX) (v : Value) (O : Own) : Prop := ∃ (cells : List Value) (A B : Own), v = .agg cells.toArray ∧ cells.length = 14 ∧ Ones cells ∧ g cells 1 = iV c.kind ∧ OSl dO 5 (g cells 11) (fY c.effs) A ∧ Ly (g cells 12) c.trs B ∧ O.Perm (A ++ B)
theorem DR {H : Heap} {cells : List Value} {c : CdX} (h : CdRX H cells c) (hl : cells.length = 14) (ho : Ones cells) (hli : gn c.base = true) :
  Triple PP sD [.agg cells.toArray] H [] fun r _ O' => KY c r O' := by
 simp only [gn, CdX.base, Bool.and_eq_true, Bool.not_eq_true', Bool.or_eq_false_iff, decide_eq_false_iff_not, List.all_eq_true, List.length_map, List.mem_map, forall_exists_index, and_imp, forall_apply_eq_imp_iff₂] at hli
 obtain ⟨⟨b1, b2⟩, b3⟩ := hli
 obtain ⟨hk, he, ⟨trows, t1, t2, t3⟩⟩ := h
 refine sQ (vs := cells) (by rw [← vH hl]; kernel_rfl) ho ?_
 simp only [om]
 refine ai fun r0 => ai fun r1 => ?_
 refine ae (ae ?_)
 refine aC (wA he (by rw [un]; omega)) fun x H1 O1 hx l1 => ⟨[x], rfl, ⟨hx.one, trivial⟩, ?_⟩
 refine aC (EG (t1.le l1) (by omega)) fun y H2 O2 hy l2 => ⟨[y], rfl, ⟨hy.one, trivial⟩, ?_⟩
 have ylen := hy.len
 rw [t2] at ylen
 refine ae (ae (ae ?_))
 refine ab _ ylen ?_
 refine aR c.trs.length (fun i H' O' => Heap.le H2 H' ∧ ∃ rows' A Ts, O'.Perm (A ++ (List.flatten Ts ++ O1)) ∧ OSl eW 2 y rows' A ∧ rows'.length = c.trs.length ∧ Ts.length = i ∧
  (∀ (j : Nat) (r : List Value) (l : List Eff) (T : Own), rows'[j]? = some r → c.trs[j]? = some l → Ts[j]? = some T → OSl dO 5 (g r 1) (fY l) T) ∧ ∀ j, i ≤ j → rows'[j]? = trows[j]?)
  ⟨Heap.le_refl _, trows, O2, [], by simp, hy, t2, rfl, fun j r l T _ _ h => by simp at h, fun _ _ => rfl⟩ ?_
 rintro i H' O' hi - ⟨hle, rows', A, Ts, hp, hA, hrl, htl, hspec, hrest⟩
 refine ab _ (aB _ _) (ak (fun hb => ?_) (fun hb => ?_))
 ·have hlt : i < c.trs.length := by simpa using hb
  have hri : rows'[i]? = some trows[i] := by rw [hrest i (Nat.le_refl _)]; exact List.getElem?_eq_getElem (by omega)
  have k1 := t3 i trows[i] c.trs[i] (List.getElem?_eq_getElem (by omega)) (List.getElem?_eq_getElem hlt)
  have hb3 := b3 _ (List.getElem_mem hlt)
  obtain ⟨a, i1, i2, i3, i4⟩ := hA.idx (fun p h => hp.mem_iff.2 (List.mem_append_left _ h)) H' (k := .i64) hri
  obtain ⟨w1, w2⟩ := hA.rows_ok hri
  refine ab _ i1 (ap i3 w1 w2 (ai fun r2 => ?_))
  refine ae (ae (ae ?_))
  refine aC (wA (k1.le (Heap.le_trans l1 (Heap.le_trans l2 hle))) (by rw [un]; omega)) fun z H3 T hz l3 => ⟨[z], rfl, ⟨hz.one, trivial⟩, ?_⟩
  have hp2 : (T ++ O').Perm (A ++ (T ++ (List.flatten Ts ++ O1))) := (hp.append_left T).trans (List.perm_append_comm_assoc _ _ _)
  obtain ⟨a2, j1, j2⟩ := hA.store hp2 (k := .i64) hri
  obtain ⟨A', hst, hA'⟩ := j2 1 [z] (by simp [w1]) ⟨hz.one, trivial⟩
  have hsp : g (cW trows[i] 1 [z]) 1 = z := by
   match hm : trows[i], w1 with
   | [_, _], _ => rfl
  refine ab _ j1 ?_
  refine aL rfl (aL rfl ?_)
  refine ⟨_, hst, ?_⟩
  refine ab _ (ax (by omega)) (aK (by simp [Eqs]) hlt ⟨Heap.le_trans hle l3, _, A', Ts ++ [T], ?_, hA', by simp [hrl], by simp [htl], ?_, ?_⟩)
  ·refine List.Perm.append_left A' ?_
   rw [List.flatten_append, ← List.append_assoc]
   refine List.Perm.append_right O1 ?_
   simpa using List.perm_append_comm
  ·intro j r x T' h1 h2 h3
   by_cases hj : j = i
   ·subst hj
    rw [List.getElem?_set_self (by omega)] at h1
    rw [List.getElem?_eq_getElem hlt] at h2
    rw [List.getElem?_append_right (by omega), htl, Nat.sub_self] at h3
    simp only [Option.some.injEq, List.getElem?_cons_zero] at h1 h2 h3
    subst h1; subst h2; subst h3
    rw [hsp]; exact hz
   ·rw [List.getElem?_set_ne (by omega)] at h1
    have hjlt : j < Ts.length := by
     have := (List.getElem?_eq_some_iff.1 h3).1
     simp at this; omega
    rw [List.getElem?_append_left hjlt] at h3
    exact hspec j r x T' h1 h2 h3
  ·intro j hj
   rw [List.getElem?_set_ne (by omega)]
   exact hrest j (by omega)
 ·have hie : i = c.trs.length := by
   have : ¬ ((i : Int) < (c.trs.length : Int)) := by simpa using hb
   omega
  subst hie
  refine ae (ae (ae ?_))
  refine ah ⟨[g cells 0, g cells 1, g cells 2, g cells 3, g cells 4, g cells 5, g cells 6, g cells 7, g cells 8, g cells 9, g cells 10, x, y, g cells 13], O1, A ++ List.flatten Ts, rfl, rfl, ?_, hk, hx, ⟨rows', A, Ts, List.Perm.refl _, hA, hrl, htl, hspec⟩, ?_⟩
  ·exact ⟨dc ho (by omega), dc ho (by omega), dc ho (by omega), dc ho (by omega), dc ho (by omega), dc ho (by omega), dc ho (by omega), dc ho (by omega), dc ho (by omega), dc ho (by omega), dc ho (by omega), hx.one, hy.one, dc ho (by omega), trivial⟩
  ·refine hp.trans ?_
   rw [← List.append_assoc]
   exact List.perm_append_comm
theorem Fw {H : Heap} {v : Value} {cs : List CdX} (h : CardsX H v cs) (hli : dR (cs.map CdX.base) = true) (o : Ob) : Triple PP oD [v, .agg o.row.toArray] H [] fun r _ O' => KY (cdX cs o.card) r O' := by
 refine pR (vs := v :: o.row) (by kernel_rfl) ⟨h.one, dY o⟩ ?_
 simp only [ku]
 refine ai fun r0 => ai fun r1 => ?_
 refine ae ?_
 refine aC (J2 (O := []) h o) ?_
 rintro _ H1 _ ⟨⟨cells, rfl, k1, k2, k3⟩, rfl⟩ l1
 refine ⟨cells, by simp [Shp.open, k1], k2, ?_⟩
 have hrow := vH k1
 have hlc : gn (cdX cs o.card).base = true := by rw [ED]; exact wo hli _
 refine aC (DR (cells := [g cells 0, g cells 1, g cells 2, g cells 3, g cells 4, g cells 5, g cells 6, g cells 7, g cells 8, g cells 9, g cells 10, g cells 11, g cells 12, g cells 13]) (by rw [hrow]; exact k3) rfl (by rw [hrow]; exact k2) hlc) ?_
 rintro _ H2 O2 ⟨cells2, A, B, rfl, m1, m2, m3⟩ l2
 refine ⟨cells2, by simp [Shp.open, m1], m2, ?_⟩
 refine ae (ae ?_)
 refine sT (O' := O2) (by simp) ⟨cells2, A, B, by rw [← vH m1]; rfl, m1, m2, m3⟩
end Go.Proofs.YtieaihgbjikggaaGreat
namespace Go.Proofs.YtieaihgbjikggaaGreat
open Go Go.Sx
set_option maxRecDepth 100000
set_option maxHeartbeats 1000000
theorem FQ {r : List Value} (h : r.length = 2) : (r.drop 1).take 1 = [g r 1] := by
 match r, h with
 | [_, _], _ => rfl
theorem uu {H : Heap} {v : Value} {cs : List CdX} (h : CardsX H v cs) (hli : dR (cs.map CdX.base) = true) (player id card trig : Int) {s : Value} (hs : s.oneCell' = true) :
  Triple PP qK [v, .agg #[iV player, iV id, iV card, iV trig, s]] H [] fun r _ O' => OSl dO 5 r (fY (lS cs card trig)) O' := by
 refine tX (vs := [v, iV player, iV id, iV card, iV trig, s]) (by kernel_rfl) ⟨h.one, rfl, rfl, rfl, rfl, hs, trivial⟩ ?_
 simp only [lh]
 refine ai fun r0 => ?_
 refine ae ?_
 refine aC (Fw h hli (Lb card)) ?_
 rintro _ H1 O1 ⟨cells, A, B, rfl, k1, k2, k3, k4, k5, k6⟩ l1
 refine ⟨cells, by simp [Shp.open, k1], k2, ai fun r1 => ?_⟩
 have k4 : OSl dO 5 (g cells 11) (fY (cdX cs card).effs) A := k4
 obtain ⟨rows, A', Ts, q1, q2, q3, q4, q5⟩ : Ly (g cells 12) (cdX cs card).trs B := k5
 have hlen : al .len [g cells 12] = some (iV (cdX cs card).trs.length) := by have := q2.len; rwa [q3] at this
 refine ae (ae ?_)
 refine ab _ (aF _ _) (ak (fun hb => ?_) (fun hb => ?_))
 ·have hb : trig = -1 := by simpa using hb
  refine ae ?_
  refine Av (O' := A) (Y := B) (by simpa using k6) ?_
  rw [lS, if_pos hb]; exact k4
 have hb : trig ≠ -1 := by simpa using hb
 refine ae ?_
 refine ab _ (aB _ _) ?_
 repeat (first | refine ae ?_ | refine af ?_)
 refine ab _ hlen ?_
 refine af (af (ab _ (ef _ _) (af (ab _ (aA _ _) ?_))))
 refine ak (fun hc => ?_) (fun hc => ?_)
 ·have hc : (decide (trig < 0) || decide (trig ≥ ((cdX cs card).trs.length : Int))) = true := hc
  refine Aw ?_
  rw [lS, if_neg hb, if_pos (by simpa using hc)]; exact OSl.nil _ _
 ·have hc : (decide (trig < 0) || decide (trig ≥ ((cdX cs card).trs.length : Int))) = false := hc
  have hn : ¬ (trig < 0 ∨ trig ≥ ((cdX cs card).trs.length : Int)) := by simpa [Bool.or_eq_false_iff] using hc
  have hlt : trig.toNat < (cdX cs card).trs.length := by omega
  have ecast : ((trig.toNat : Nat) : Int) = trig := by omega
  have hri : rows[trig.toNat]? = some (rows[trig.toNat]'(by omega)) := List.getElem?_eq_getElem (by omega)
  have hTi : trig.toNat < Ts.length := by omega
  have hT := q5 _ _ _ _ hri (List.getElem?_eq_getElem hlt) (List.getElem?_eq_getElem hTi)
  obtain ⟨w1, w2⟩ := q2.rows_ok hri
  obtain ⟨p1, _⟩ := qm hTi
  have hmem : ∀ p ∈ A', p ∈ O1 ++ [] := fun p hp => by
   rw [List.append_nil]
   exact k6.mem_iff.2 (List.mem_append_right _ (q1.mem_iff.2 (List.mem_append_left _ hp)))
  obtain ⟨a, i1, i2, i3, i4⟩ := q2.idx hmem H1 (k := .i64) hri
  have i5 := i4 1 1 (by omega)
  rw [FQ w1] at i5
  rw [ecast] at i1
  refine ae (ae ?_)
  refine ab _ i1 ?_
  refine aL rfl ?_
  refine ap i5 rfl ⟨hT.one, trivial⟩ ?_
  have hperm : (O1 ++ []).Perm (Ts[trig.toNat] ++ (A ++ (A' ++ List.flatten (Ts.eraseIdx trig.toNat)))) := by
   rw [List.append_nil]
   refine k6.trans ?_
   refine ((q1.trans (p1.append_left A')).append_left A).trans ?_
   refine ((List.perm_append_comm_assoc A' _ _).append_left A).trans ?_
   exact List.perm_append_comm_assoc A _ _
  refine Av hperm ?_
  rw [lS, if_neg hb, if_neg hn, List.getD_eq_getElem?_getD, List.getElem?_eq_getElem hlt]
  exact hT
theorem EX {H : Heap} {v : Value} {cs : List CdX} (h : CardsX H v cs) (player id card trig : Int) {s : Value} (hs : s.oneCell' = true) :
  Triple PP iX [v, .agg #[iV player, iV id, iV card, iV trig, s]] H [] fun r H' O' => Sl H' 5 r (fY (lS cs card trig)) ∧ O' = [] := by
 refine mP (vs := [v, iV player, iV id, iV card, iV trig, s]) (by kernel_rfl) ⟨h.one, rfl, rfl, rfl, rfl, hs, trivial⟩ ?_
 simp only [fg]
 refine ai fun r0 => ?_
 refine ae ?_
 refine aC (Jz (O := []) h (Lb card)) ?_
 rintro _ H1 _ ⟨⟨cells, rfl, k1, k2, k3⟩, rfl⟩ l1
 refine ⟨cells, by simp [Shp.open, k1], k2, ai fun r1 => ?_⟩
 have k4 : Sl H1 5 (g cells 11) (fY (cdX cs card).effs) := k3.eff
 obtain ⟨rows, q2, q3, q5⟩ : TrsX H1 (g cells 12) (cdX cs card).trs := k3.trig
 have hlen : al .len [g cells 12] = some (iV (cdX cs card).trs.length) := by have := q2.len; rwa [q3] at this
 refine ae (ae ?_)
 refine ab _ (aF _ _) (ak (fun hb => ?_) (fun hb => ?_))
 ·have hb : trig = -1 := by simpa using hb
  refine ae ?_
  refine ah ⟨?_, rfl⟩
  rw [lS, if_pos hb]; exact k4
 have hb : trig ≠ -1 := by simpa using hb
 refine ae ?_
 refine ab _ (aB _ _) ?_
 repeat (first | refine ae ?_ | refine af ?_)
 refine ab _ hlen ?_
 refine af (af (ab _ (ef _ _) (af (ab _ (aA _ _) ?_))))
 refine ak (fun hc => ?_) (fun hc => ?_)
 ·have hc : (decide (trig < 0) || decide (trig ≥ ((cdX cs card).trs.length : Int))) = true := hc
  refine ah ⟨?_, rfl⟩
  rw [lS, if_neg hb, if_pos (by simpa using hc)]; exact Sl.nil _ _
 ·have hc : (decide (trig < 0) || decide (trig ≥ ((cdX cs card).trs.length : Int))) = false := hc
  have hn : ¬ (trig < 0 ∨ trig ≥ ((cdX cs card).trs.length : Int)) := by simpa [Bool.or_eq_false_iff] using hc
  have hlt : trig.toNat < (cdX cs card).trs.length := by omega
  have ecast : ((trig.toNat : Nat) : Int) = trig := by omega
  have hri : rows[trig.toNat]? = some (rows[trig.toNat]'(by omega)) := List.getElem?_eq_getElem (by omega)
  have hT := q5 _ _ _ hri (List.getElem?_eq_getElem hlt)
  obtain ⟨a, i1, i2, i3, w1, w2⟩ := (q2.rsl []).idx .i64 trig.toNat (rows[trig.toNat]'(by omega)) hri
  have i5 := i3 1 1 (by omega)
  rw [FQ w1] at i5
  rw [ecast] at i1
  refine ae (ae ?_)
  refine ab _ i1 ?_
  refine aL rfl ?_
  refine ap i5 rfl ⟨hT.one, trivial⟩ ?_
  refine ah ⟨?_, rfl⟩
  rw [lS, if_neg hb, if_neg hn, List.getD_eq_getElem?_getD, List.getElem?_eq_getElem hlt]
  exact hT
end Go.Proofs.YtieaihgbjikggaaGreat
namespace Go.Proofs.YtieaihgbjikggaaGreat
open Go Go.Sx
set_option maxRecDepth 100000
set_option maxHeartbeats 1000000
abbrev LF (e : Int) : Value := .tuple #[.agg (ay AK zBd).toArray, iV e]
theorem JF {H : Heap} {v : d8} {b : Bd} (h : BdS H v b) (hv : aw b = false) : RetO PP oC [.agg (ay v b).toArray] H [] (.tuple #[.agg (ay AK zBd).toArray, .agg #[iV 0, iV 0, iV 0, iV 0, .slice none 0 0], iV 2]) := by
 refine sO (vs := ay v b) (by kernel_rfl) (au (h.r [])) ?_
 simp only [og]
 refine ai fun r0 => ai fun r1 => ai fun r2 => ?_
 refine ae ?_
 refine aj (bg (h.r [])) rfl ⟨rfl, trivial⟩ fun H1 l1 => ?_
 rw [hv]
 refine ab _ (az _) (ak (fun _ => ?_) (fun hd => by cases hd))
 refine ae (ae (ae (ae ?_)))
 exact ah ⟨rfl, rfl⟩
theorem lV (n a c : Int) (H : Heap) (O : Own) : RetO PP rN [iV n, iV a, iV c] H O (.bool (aq n a c)) := by
 refine vz (vs := [iV n, iV a, iV c]) (by kernel_rfl) ⟨rfl, rfl, rfl, trivial⟩ ?_
 simp only [mw]
 refine ab _ (ef _ _) (af (af (ab _ (ef _ _) (af (ab _ (bE _ _) ?_)))))
 refine ah ⟨?_, rfl⟩
 simp only [aq, Value.bool.injEq]
 rw [Bool.eq_iff_iff]; simp
theorem Ia {H : Heap} {v : d8} {b : Bd} (h : BdS H v b) (hv : aw b = false) (player id card trig : Int) {s : Value} {tg : List Tg} (hs : Sl H 2 s (bA tg)) :
  RetO PP qJ [.agg (ay v b).toArray, .agg #[iV player, iV id, iV card, iV trig, s]] H [] (LF 2) := by
 refine rz (vs := ay v b ++ [iV player, iV id, iV card, iV trig, s]) (by kernel_rfl) (aP (au (h.r [])) ⟨rfl, rfl, rfl, rfl, hs.one, trivial⟩) ?_
 simp only [lX]
 have slen : al .len [s] = some (iV tg.length) := by have := hs.len; rwa [aT] at this
 refine ai fun r0 => ai fun r1 => ai fun r2 => ?_
 refine ae ?_
 refine aj (lV player 0 1 _ _) rfl ⟨rfl, trivial⟩ fun H1 l1 => ak (fun _ => ?_) (fun _ => ?_)
 ·refine ae ?_
  refine aj (lV id 1 500 _ _) rfl ⟨rfl, trivial⟩ fun H2 l2 => ak (fun _ => ?_) (fun _ => ?_)
  ·refine ae ?_
   refine aj (lV card 0 399 _ _) rfl ⟨rfl, trivial⟩ fun H3 l3 => ak (fun _ => ?_) (fun _ => ?_)
   ·refine ae ?_
    refine aj (lV trig 0 1 _ _) rfl ⟨rfl, trivial⟩ fun H4 l4 => ?_
    refine ae ?_
    refine aj (bg ((h.le (Heap.le_trans l1 (Heap.le_trans l2 (Heap.le_trans l3 l4)))).r [])) rfl ⟨rfl, trivial⟩ fun H5 l5 => ?_
    rw [hv]
    refine ab _ (az _) (af (ab _ (az _) (af (ab _ (aA _ _) (ae (af (af ?_)))))))
    refine ab _ slen ?_
    refine af (ab _ (aB _ _) (af (ab _ (aA _ _) ?_)))
    refine ak (fun _ => ?_) (fun hd => by cases hd)
    refine ae (ae ?_)
    exact ah ⟨rfl, rfl⟩
   ·refine ae ?_
    refine aj (bg ((h.le (Heap.le_trans l1 (Heap.le_trans l2 l3))).r [])) rfl ⟨rfl, trivial⟩ fun H5 l5 => ?_
    rw [hv]
    refine ab _ (az _) (af (af (ab _ (aA _ _) (ae (af (af ?_))))))
    refine ab _ slen ?_
    refine af (ab _ (aB _ _) (af (ab _ (aA _ _) ?_)))
    refine ak (fun _ => ?_) (fun hd => by cases hd)
    refine ae (ae ?_)
    exact ah ⟨rfl, rfl⟩
  ·refine ae ?_
   refine aj (bg ((h.le (Heap.le_trans l1 l2)).r [])) rfl ⟨rfl, trivial⟩ fun H5 l5 => ?_
   rw [hv]
   refine ab _ (az _) (af (af (ab _ (aA _ _) (ae (af (af ?_))))))
   refine ab _ slen ?_
   refine af (ab _ (aB _ _) (af (ab _ (aA _ _) ?_)))
   refine ak (fun _ => ?_) (fun hd => by cases hd)
   refine ae (ae ?_)
   exact ah ⟨rfl, rfl⟩
 ·refine ae ?_
  refine aj (bg ((h.le l1).r [])) rfl ⟨rfl, trivial⟩ fun H5 l5 => ?_
  rw [hv]
  refine ab _ (az _) (af (af (ab _ (aA _ _) (ae (af (af ?_))))))
  refine ab _ slen ?_
  refine af (ab _ (aB _ _) (af (ab _ (aA _ _) ?_)))
  refine ak (fun _ => ?_) (fun hd => by cases hd)
  refine ae (ae ?_)
  exact ah ⟨rfl, rfl⟩
end Go.Proofs.YtieaihgbjikggaaGreat
namespace Go.Proofs.YtieaihgbjikggaaGreat
open Go Go.Sx
set_option maxRecDepth 100000
set_option maxHeartbeats 1000000
theorem tt {H : Heap} {A : Own} {v : Value} {rows : List (List Value)} (h : OSl be 1 v rows A) {k : Nat} (hk : k < rows.length) :
  Triple PP iO [v, iV k, iV ((k + 1 : Nat) : Int)] H A fun v' _ O' => OSl be 1 v' (rows.eraseIdx k) O' := by
 have hz := D2
 obtain ⟨hu, inf, hinf, hsz⟩ := FE (P := PP) (t := 26) (e := be) (size := 1) (bytes := 8) (by kernel_rfl)
 rcases h with ⟨⟨a, rfl⟩, rfl, rfl⟩ | ⟨r, cs, cap, rfl, rfl, hcl, hlc, hcap, hl, ho, ht⟩
 ·simp at hk
 refine mc (vs := [.slice (some ⟨r, 0, none⟩) rows.length cap, iV k, iV ((k + 1 : Nat) : Int)]) (by kernel_rfl) ⟨rfl, rfl, rfl, trivial⟩ ?_
 simp only [eI]
 generalize hn : rows.length = n at *
 obtain ⟨d1, d2⟩ := CD hn hk hl ht (by omega)
 have b1 : bp n cap (some (iV k)) (some (iV ((k + 1 : Nat) : Int))) (some (iV n)) = some (k, k + 1, n) := by
  have x1 : k + 1 ≤ n := hk
  have x2 : ((k : Int) + 1).toNat = k + 1 := by omega
  have x3 : (k : Int) + 1 ≤ (n : Int) := by omega
  have x4 : (0 : Int) ≤ (k : Int) + 1 := by omega
  simp [bp, cu, dw, ld, asI, hlc, x2, x3, x4]
 have b2 : bp n cap none (some (iV k)) none = some (0, k, cap) := by
  have x1 : k ≤ cap := by omega
  simp [bp, cu, dw, ld, asI, x1]
 have b3 : bp n cap (some (iV ((k + 1 : Nat) : Int))) none none = some (k + 1, n, cap) := by
  have x2 : ((k : Int) + 1).toNat = k + 1 := by omega
  have x3 : (k : Int) + 1 ≤ (n : Int) := by omega
  have x4 : (0 : Int) ≤ (k : Int) + 1 := by omega
  simp [bp, cu, dw, ld, asI, x2, x3, x4]
 have b4 : bp (n - 1) cap (some (iV ((n - 1 : Nat) : Int))) (some (iV n)) none = some (n - 1, n, cap) := by
  have x1 : n ≤ cap := hlc
  have x2 : n - 1 ≤ n := by omega
  simp [bp, cu, dw, ld, asI, x1, x2]
 have v1 : al (.slc 1 true true true) [.slice (some ⟨r, 0, none⟩) n cap, iV k, iV ((k + 1 : Nat) : Int), iV n] = some (.slice (if n = k then some ⟨r, 0, none⟩ else (some (⟨r, 0, none⟩ : Addr)).map (·.add (k * 1))) (k + 1 - k) (n - k)) := by
  simp only [al, dG, gm, b1, Option.map_some]
 have v2 : al (.slc 1 false true false) [.slice (some ⟨r, 0, none⟩) n cap, iV k] = some (.slice (some ⟨r, 0, none⟩) k cap) := by
  simp only [al, dG, gm, b2, Option.map_some]
  simp [Addr.add]
 have v3 : al (.slc 1 true false false) [.slice (some ⟨r, 0, none⟩) n cap, iV ((k + 1 : Nat) : Int)] = some (.slice (some ⟨r, if cap = k + 1 then 0 else (k + 1) * 1, none⟩) (n - (k + 1)) (cap - (k + 1))) := by
  simp only [al, dG, gm, b3, Option.map_some]
  split
  ·rfl
  ·show some (Value.slice (some ((⟨r, 0, none⟩ : Addr).add ((k + 1) * 1))) (n - (k + 1)) (cap - (k + 1))) = _
   rw [cq, Nat.zero_add]
 have v4 : al (.slc 1 true true false) [.slice (some ⟨r, 0, none⟩) (n - 1) cap, iV ((n - 1 : Nat) : Int), iV n] = some (.slice (some ⟨r, (n - 1) * 1, none⟩) (n - (n - 1)) (cap - (n - 1))) := by
  simp only [al, dG, gm, b4, Option.map_some]
  rw [if_neg (by omega)]
  show some (Value.slice (some ((⟨r, 0, none⟩ : Addr).add ((n - 1) * 1))) (n - (n - 1)) (cap - (n - 1))) = _
  rw [cq, Nat.zero_add]
 refine ab (.int .i64 n) rfl ?_
 refine ab _ v1 ?_
 refine ab _ (aF _ _) (ak (fun hb => ?_) (fun _ => ?_))
 ·exfalso; simp at hb; omega
 refine ab (.int .i64 n) rfl ?_
 refine ab _ v2 (ab _ v3 ?_)
 have hnl : ((cs.drop ((k + 1) * 1)).take ((n - (k + 1)) * 1)).length = (n - (k + 1)) * 1 := by rw [List.length_take, List.length_drop, hcl]; omega
 have hones : ∀ u ∈ (cs.drop ((k + 1) * 1)).take ((n - (k + 1)) * 1), u.oneCell' = true := by
  obtain ⟨_, q⟩ := wZ (size := 1) (rows := rows) (cs := cs) hl (by rw [hn]; exact ht) (i := k + 1) (by omega)
  rw [hn] at q
  rw [← q]
  intro u hu'
  obtain ⟨row, hr, hu2⟩ := List.mem_flatten.1 hu'
  exact kj (ho row (List.mem_of_mem_drop hr)) u hu2
 refine EE (r := r) (cs := cs) (e := be) (O2 := []) (cs' := cs.take (0 + k * inf.size) ++ (cs.drop ((k + 1) * 1)).take ((n - (k + 1)) * 1) ++ cs.drop (0 + k * inf.size + ((cs.drop ((k + 1) * 1)).take ((n - (k + 1)) * 1)).length)) (by simp)
  (v := .slice (some ⟨r, 0, none⟩) (k + (n - (k + 1))) cap) (fun w F hm => ?_) rfl ⟨rfl, trivial⟩ ?_
 ·have hrow := (hm.own (r, .cells cs.toArray be (0, 0)) (by simp)).1
  have hsrc : Src PP inf.size 26 (.slice (some ⟨r, if cap = k + 1 then 0 else (k + 1) * 1, none⟩) (n - (k + 1)) (cap - (k + 1))) (n - (k + 1)) ((cs.drop ((k + 1) * 1)).take ((n - (k + 1)) * 1)) w := by
   rw [hsz]
   refine Src.ofSlice w hu _ _ _ _ hnl (fun j u hj => ?_) hones
   have hjlt : j < (n - (k + 1)) * 1 := by rw [← hnl]; exact (List.getElem?_eq_some_iff.1 hj).1
   have hne : ¬ cap = k + 1 := by intro e; rw [show n - (k + 1) = 0 by omega] at hjlt; omega
   rw [if_neg hne, cq]
   refine Ib hm ?_
   rw [List.getElem?_take, if_pos hjlt, List.getElem?_drop] at hj
   exact hj
  have hrun := nA (ty := 26) hu hinf (len := k) (cap := cap) (off := 0) hrow hsrc (by omega) (by rw [hsz]; omega)
  simp only [PrimOp.sem, builtin, Sem.run_bind]
  rw [hrun]; rfl
 rw [hsz, hnl, Nat.zero_add]
 generalize hcs1 : cs.take (k * 1) ++ (cs.drop ((k + 1) * 1)).take ((n - (k + 1)) * 1) ++ cs.drop (k * 1 + (n - (k + 1)) * 1) = cs1
 have hlen1 : cs1.length = cs.length := by
  rw [← hcs1, List.length_append, d1, List.length_drop]; omega
 have hkn : k + (n - (k + 1)) = n - 1 := by omega
 rw [hkn]
 refine ab (.int .i64 ((n - 1 : Nat) : Int)) rfl ?_
 refine ab _ v4 ?_
 have hz1 := BC (n := n - (n - 1)) (z := (iV 0).cells) (by simp [Value.cells, Value.oneCell'])
 refine EE (r := r) (cs := cs1) (e := be) (O2 := []) (cs' := cs1.take ((n - 1) * 1) ++ (Builtin.zeroCells (iV 0).cells (n - (n - 1))).toList ++ cs1.drop ((n - 1) * 1 + (Builtin.zeroCells (iV 0).cells (n - (n - 1))).toList.length)) (List.Perm.refl _)
  (v := .tuple #[]) (fun w F hm => ?_) rfl trivial ?_
 ·have hrow := (hm.own (r, .cells cs1.toArray be (0, 0)) (by simp)).1
  have hrun := pU (ty := 0) (cap := cap - (n - 1)) (n := n - (n - 1)) (off := (n - 1) * 1) hu hz hrow (by
   show (n - 1) * 1 + (n - (n - 1)) * 1 ≤ cs1.length
   rw [hlen1, hcl]; omega) hz1
  simp only [PrimOp.sem, builtin, Sem.run_bind]
  rw [hrun]; rfl
 have hzl : (Builtin.zeroCells (iV 0).cells (n - (n - 1))).toList.length = (n - (n - 1)) * 1 := by
  rw [Array.length_toList, size_zeroCells]; rfl
 have hel : (rows.eraseIdx k).length = n - 1 := by rw [List.length_eraseIdx_of_lt (by omega), hn]
 refine ah (.inr ⟨r, _, cap, ?_, by simp only [List.append_nil]; rfl, ?_, ?_, hcap, fun x hx => hl x (List.mem_of_mem_eraseIdx hx), fun x hx => ho x (List.mem_of_mem_eraseIdx hx), ?_⟩)
 ·rw [hel]; rfl
 ·rw [List.length_append, List.length_append, List.length_take, List.length_drop, hzl, hlen1, hcl]; omega
 ·rw [hel]; omega
 ·rw [hel, List.append_assoc, List.take_append_of_le_length (by rw [List.length_take, hlen1, hcl]; omega), List.take_take, Nat.min_self, ← hcs1, List.append_assoc, ← List.append_assoc, List.take_append_of_le_length (by rw [d1]; exact Nat.le_refl _), ← d1, List.take_length, d2]
theorem EH (o : Ob) (id : Int) (H : Heap) (O : Own) : RetO PP jo [.agg o.row.toArray, iV id] H O (iV (IntKind.i64.wrap (o.id - id))) := by
 refine vA (vs := o.row ++ [iV id]) (by kernel_rfl) (aP (dY o) ⟨rfl, trivial⟩) ?_
 simp only [my]
 exact ai fun r0 => ae (ab _ rfl (ah ⟨rfl, rfl⟩))
theorem qz {H : Heap} {O : Own} {v : Value} {l : List Ob} (h : RSl H O 12 v (l.map Ob.row)) {id : Int} (hid : i64 id) (hv : ∀ o ∈ l, 1 ≤ o.id ∧ o.id ≤ 500) (ho : AC none l = true) (hlen : l.length ≤ 1000000) :
  Triple PP bd [v, iV id, .func (.func jo) #[] #[]] H O fun r _ O' => (∃ (i : Nat) (f : Bool), r = .tuple #[iV i, .bool f] ∧ (f = true → ∃ o, l[i]? = some o ∧ o.id = id) ∧ (f = false → ∀ o ∈ l, o.id ≠ id)) ∧ O' = O := by
 refine bC (vs := [v, iV id, .func (.func jo) #[] #[]]) (by kernel_rfl) ⟨h.one, rfl, rfl, trivial⟩ ?_
 simp only [aQ]
 have hl := h.len
 have hB := h.lenB
 rw [List.length_map] at hl hB
 refine ab _ hl ?_
 refine iy (fun vs H' O' => ∃ i j : Nat, vs = [iV i, iV j] ∧ i ≤ j ∧ j ≤ l.length ∧ O' = O ∧ Heap.le H H' ∧ (1 ≤ id → id ≤ 500 → (∀ (k : Nat) (o : Ob), k < i → l[k]? = some o → o.id < id) ∧ ∀ (k : Nat) (o : Ob), j ≤ k → l[k]? = some o → id ≤ o.id))
  (fun vs _ _ => match g vs 0, g vs 1 with | .int _ a, .int _ b => (b - a).toNat | _, _ => 0) ⟨0, l.length, rfl, Nat.zero_le _, Nat.le_refl _, rfl, Heap.le_refl _, fun _ _ => ⟨fun k o hk => absurd hk (Nat.not_lt_zero k), fun k o hk e => by
   have := (List.getElem?_eq_some_iff.1 e).1; omega⟩⟩ ?_
 rintro vs H' O' - - - ⟨i, j, rfl, hij, hj, rfl, hle, hinv⟩
 refine ab _ (aB _ _) (ak (fun hb => ?_) (fun hb => ?_))
 ·have hlt : i < j := by simpa using hb
  have hm : (i + j) / 2 < l.length := by omega
  obtain ⟨a, h1, h2, _, h3, h4⟩ := (h.le hle).idx .i64 ((i + j) / 2) (Ob.row l[(i + j) / 2]) (by simp [hm])
  refine ab _ (EM (by omega)) (ab _ (I6 (by omega)) (ab _ (F8 (by omega)) (ab _ (I7 (by omega)) (ab _ h1 (ap h2 h3 h4 ?_)))))
  refine eQ rfl (jF aE (by decide)) (EH l[(i + j) / 2] id H' O') rfl ⟨rfl, trivial⟩ fun H2 l2 => ab _ (aB _ _) (ak (fun hc => ?_) (fun hc => ?_))
  ·refine ab _ (ax (by omega)) (dV (by simp [Eqs]) ⟨(i + j) / 2 + 1, j, rfl, by omega, hj, rfl, Heap.le_trans hle l2, fun a1 a2 => ⟨fun k o hk e => ?_, (hinv a1 a2).2⟩⟩ ?_)
   ·have hc := of_decide_eq_true hc
    have hm1 := hv _ (List.getElem_mem hm)
    rw [qQ hm1.1 hm1.2 a1 a2] at hc
    rcases Nat.lt_or_ge k ((i + j) / 2) with hk2 | hk2
    ·have := xm ho hk2 e (List.getElem?_eq_getElem hm); omega
    ·have : k = (i + j) / 2 := by omega
     subst this
     rw [List.getElem?_eq_getElem hm] at e
     obtain rfl := Option.some.inj e
     omega
   ·show (((j : Int) - (((i + j) / 2 + 1 : Nat) : Int)).toNat) < ((j : Int) - (i : Int)).toNat
    omega
  ·refine dV (by simp [Eqs]) ⟨i, (i + j) / 2, rfl, by omega, by omega, rfl, Heap.le_trans hle l2, fun a1 a2 => ⟨(hinv a1 a2).1, fun k o hk e => ?_⟩⟩ ?_
   ·have hc := of_decide_eq_false hc
    have hm1 := hv _ (List.getElem_mem hm)
    rw [qQ hm1.1 hm1.2 a1 a2] at hc
    rcases Nat.lt_or_ge ((i + j) / 2) k with hk2 | hk2
    ·have := xm ho hk2 (List.getElem?_eq_getElem hm) e; omega
    ·have : k = (i + j) / 2 := by omega
     subst this
     rw [List.getElem?_eq_getElem hm] at e
     obtain rfl := Option.some.inj e
     omega
   ·show (((((i + j) / 2 : Nat) : Int) - (i : Int)).toNat) < ((j : Int) - (i : Int)).toNat
    omega
 ·have hie : i = j := by
   have : ¬ ((i : Int) < (j : Int)) := of_decide_eq_false hb
   omega
  subst hie
  refine ab _ (aB _ _) (ak (fun hb => ?_) (fun hb => ?_))
  ·have hlt : i < l.length := by simpa using hb
   obtain ⟨a, h1, h2, _, h3, h4⟩ := (h.le hle).idx .i64 i (Ob.row l[i]) (by simp [hlt])
   have hm1 := hv _ (List.getElem_mem hlt)
   refine ab _ h1 (ap h2 h3 h4 (eQ rfl (jF aE (by decide)) (EH l[i] id H' O') rfl ⟨rfl, trivial⟩ fun H2 l2 => ab _ (aF _ _) (ah ⟨⟨i, (IntKind.i64.wrap (l[i].id - id) == 0), rfl, fun hc => ?_, fun hc => ?_⟩, rfl⟩)))
   ·rw [sF hid hm1.1 hm1.2] at hc
    exact ⟨l[i], List.getElem?_eq_getElem hlt, by simpa using hc⟩
   ·rw [sF hid hm1.1 hm1.2] at hc
    have hne : l[i].id ≠ id := by simpa using hc
    intro o hmem e
    have hob := hv o hmem
    obtain ⟨i1, i2⟩ := hinv (by omega) (by omega)
    obtain ⟨k, hk⟩ := List.mem_iff_getElem?.1 hmem
    rcases Nat.lt_trichotomy k i with hki | hki | hki
    ·have := i1 k o hki hk; omega
    ·subst hki
     rw [List.getElem?_eq_getElem hlt] at hk
     obtain rfl := Option.some.inj hk
     exact hne e
    ·have := xm ho hki (List.getElem?_eq_getElem hlt) hk
     have := i2 i l[i] (Nat.le_refl _) (List.getElem?_eq_getElem hlt)
     omega
  ·have hge : l.length ≤ i := by simpa using hb
   refine ah ⟨⟨i, false, rfl, fun hc => (by cases hc), fun _ o hmem e => ?_⟩, rfl⟩
   have hob := hv o hmem
   obtain ⟨i1, _⟩ := hinv (by omega) (by omega)
   obtain ⟨k, hk⟩ := List.mem_iff_getElem?.1 hmem
   have := i1 k o (by have := (List.getElem?_eq_some_iff.1 hk).1; omega) hk
   omega
end Go.Proofs.YtieaihgbjikggaaGreat
namespace Go.Proofs.YtieaihgbjikggaaGreat
open Go Go.Sx
set_option maxRecDepth 100000
set_option maxHeartbeats 1000000
theorem xu {te ti : TypeId} {v : Value} {l : List It} {O : Own} (h : OIts te ti v l O) : ∃ rows A T, O.Perm (A ++ T) ∧ OSl ti 5 v rows A ∧ rows.length = l.length ∧
  ∀ v' A' (x : It) s, OSl ti 5 v' (rows ++ [[iV x.player, iV x.id, iV x.card, iV x.trig, s]]) A' → OSlE te 2 s (x.tgs.map Tg.row) [] → OIts te ti v' (l ++ [x]) (A' ++ T) := by
 obtain ⟨rows, A, Ts, h1, h2, h3, h4, h5⟩ := h
 refine ⟨rows, A, List.flatten Ts, h1, h2, h3, fun v' A' x s k1 k2 => ⟨_, A', Ts ++ [[]], by simp, k1, by simp [h3], by simp [h4], fun i r y T a b c => ?_⟩⟩
 rcases Nat.lt_or_ge i l.length with hi | hi
 ·rw [List.getElem?_append_left (by omega)] at a b c
  exact h5 i r y T a b c
 ·rw [List.getElem?_append_right (by omega)] at a b c
  have hi0 : i = l.length := by
   have := (List.getElem?_eq_some_iff.1 b).1
   simp at this; omega
  rw [hi0, h3, Nat.sub_self] at a
  rw [hi0, Nat.sub_self] at b
  rw [hi0, h4, Nat.sub_self] at c
  simp only [List.getElem?_cons_zero, Option.some.injEq] at a b c
  subst a; subst b; subst c
  exact ⟨s, rfl, k2⟩
def sg (x : It) : Bool := aq x.player 0 1 && (aq x.id 1 500 && (aq x.card 0 399 && aq x.trig 0 1))
def ki (b : Bd) (x : It) : Bd × Int := if (!aw b || (!sg x || decide ((x.tgs.length : Int) > 0))) = true then (zBd, 2) else if decide ((b.stack.length : Int) ≥ 200) = true then (zBd, 7) else ({ b with stack := b.stack ++ [x] }, 0)
theorem Jb {H : Heap} {v : d8} {b : Bd} (h : BdS H v b) (hB : bdB b) (x : It) {s : Value} (hs : Sl H 2 s (bA x.tgs)) :
  Triple PP qJ [.agg (ay v b).toArray, .agg #[iV x.player, iV x.id, iV x.card, iV x.trig, s]] H [] fun r _ O' => ∃ w, r = .tuple #[.agg (ay w (ki b x).1).toArray, iV (ki b x).2] ∧ OwnB tys w (ki b x).1 O' := by
 by_cases hv : aw b = true
 case neg =>
  have hv : aw b = false := by simpa using hv
  have e : ki b x = (zBd, 2) := by simp [ki, hv]
  rw [e]
  refine (Ia h hv x.player x.id x.card x.trig hs).mono ?_
  rintro r H' O' _ ⟨rfl, rfl⟩
  exact ⟨AK, rfl, OwnB.zero tys⟩
 refine rz (vs := ay v b ++ [iV x.player, iV x.id, iV x.card, iV x.trig, s]) (by kernel_rfl) (aP (au (h.r [])) ⟨rfl, rfl, rfl, rfl, hs.one, trivial⟩) ?_
 simp only [lX]
 have slen : al .len [s] = some (iV x.tgs.length) := by have := hs.len; rwa [aT] at this
 have klen : al .len [v.s] = some (iV b.stack.length) := ItsR.len (h.stack.r [])
 refine ai fun r0 => ai fun r1 => ai fun r2 => ?_
 refine ae ?_
 refine aj (lV x.player 0 1 _ _) rfl ⟨rfl, trivial⟩ fun H1 l1 => ak (fun w1 => ?_) (fun w1 => ?_)
 rotate_left
 ·skip
  have w1 : aq x.player 0 1 = false := w1
  have e : ki b x = (zBd, 2) := by simp [ki, sg, w1]
  refine ae ?_
  refine aj (bg ((h.le l1).r [])) rfl ⟨rfl, trivial⟩ fun H5 l5 => ?_
  rw [hv]
  refine ab _ (az _) (af (af (ab _ (aA _ _) (ae (af (af ?_))))))
  refine ab _ slen ?_
  refine af (ab _ (aB _ _) (af (ab _ (aA _ _) ?_)))
  refine ak (fun _ => ?_) (fun hd => by cases hd)
  refine ae (ae ?_)
  exact ah ⟨AK, by rw [e]; rfl, by rw [e]; exact OwnB.zero tys⟩
 refine ae ?_
 refine aj (lV x.id 1 500 _ _) rfl ⟨rfl, trivial⟩ fun H2 l2 => ak (fun w2 => ?_) (fun w2 => ?_)
 rotate_left
 ·skip
  have w2 : aq x.id 1 500 = false := w2
  have e : ki b x = (zBd, 2) := by simp [ki, sg, w2]
  refine ae ?_
  refine aj (bg ((h.le (Heap.le_trans l1 l2)).r [])) rfl ⟨rfl, trivial⟩ fun H5 l5 => ?_
  rw [hv]
  refine ab _ (az _) (af (af (ab _ (aA _ _) (ae (af (af ?_))))))
  refine ab _ slen ?_
  refine af (ab _ (aB _ _) (af (ab _ (aA _ _) ?_)))
  refine ak (fun _ => ?_) (fun hd => by cases hd)
  refine ae (ae ?_)
  exact ah ⟨AK, by rw [e]; rfl, by rw [e]; exact OwnB.zero tys⟩
 refine ae ?_
 refine aj (lV x.card 0 399 _ _) rfl ⟨rfl, trivial⟩ fun H3 l3 => ak (fun w3 => ?_) (fun w3 => ?_)
 rotate_left
 ·skip
  have w3 : aq x.card 0 399 = false := w3
  have e : ki b x = (zBd, 2) := by simp [ki, sg, w3]
  refine ae ?_
  refine aj (bg ((h.le (Heap.le_trans l1 (Heap.le_trans l2 l3))).r [])) rfl ⟨rfl, trivial⟩ fun H5 l5 => ?_
  rw [hv]
  refine ab _ (az _) (af (af (ab _ (aA _ _) (ae (af (af ?_))))))
  refine ab _ slen ?_
  refine af (ab _ (aB _ _) (af (ab _ (aA _ _) ?_)))
  refine ak (fun _ => ?_) (fun hd => by cases hd)
  refine ae (ae ?_)
  exact ah ⟨AK, by rw [e]; rfl, by rw [e]; exact OwnB.zero tys⟩
 refine ae ?_
 refine aj (lV x.trig 0 1 _ _) rfl ⟨rfl, trivial⟩ fun H4 l4 => ?_
 have l14 := Heap.le_trans l1 (Heap.le_trans l2 (Heap.le_trans l3 l4))
 refine ae ?_
 refine aj (bg ((h.le l14).r [])) rfl ⟨rfl, trivial⟩ fun H5 l5 => ?_
 have h := h.le (Heap.le_trans l14 l5)
 have hs := hs.le (Heap.le_trans l14 l5)
 rw [hv]
 refine ab _ (az _) ?_
 refine af ?_
 refine ab _ (az _) ?_
 refine af ?_
 refine ab _ (aA _ _) ?_
 refine ae (af (af ?_))
 refine ab _ slen ?_
 refine af ?_
 refine ab _ (cR _ _) ?_
 refine af ?_
 refine ab _ (aA _ _) (ak (fun hb => ?_) (fun hb => ?_))
 ·have hb : ((!true || !aq x.trig 0 1) || decide ((x.tgs.length : Int) > 0)) = true := hb
  have e : ki b x = (zBd, 2) := by
   refine if_pos ?_
   have w1 : aq x.player 0 1 = true := w1
   have w2 : aq x.id 1 500 = true := w2
   have w3 : aq x.card 0 399 = true := w3
   simp only [sg, w1, w2, w3, hv, Bool.true_and, Bool.not_true, Bool.false_or] at hb ⊢
   exact hb
  refine ae (ae ?_)
  exact ah ⟨AK, by rw [e]; rfl, by rw [e]; exact OwnB.zero tys⟩
 have hb : ((!true || !aq x.trig 0 1) || decide ((x.tgs.length : Int) > 0)) = false := hb
 have hcond : ¬ ((!aw b || (!sg x || decide ((x.tgs.length : Int) > 0))) = true) := by
  have w1 : aq x.player 0 1 = true := w1
  have w2 : aq x.id 1 500 = true := w2
  have w3 : aq x.card 0 399 = true := w3
  simp only [sg, w1, w2, w3, hv, Bool.true_and, Bool.not_true, Bool.false_or] at hb ⊢
  rw [hb]; simp
 have ht0 : x.tgs = [] := by
  simp only [Bool.or_eq_false_iff, decide_eq_false_iff_not] at hb
  exact List.length_eq_zero_iff.1 (by omega)
 refine ae ?_
 refine ab _ klen ?_
 refine ab _ (dS _ _) (ak (fun hb => ?_) (fun hb2 => ?_))
 ·have e : ki b x = (zBd, 7) := by rw [ki, if_neg hcond, if_pos hb]
  refine ae (ae ?_)
  exact ah ⟨AK, by rw [e]; rfl, by rw [e]; exact OwnB.zero tys⟩
 have e : ki b x = ({ b with stack := b.stack ++ [x] }, 0) := by rw [ki, if_neg hcond, if_neg (by rw [show decide ((b.stack.length : Int) ≥ 200) = false from hb2]; simp)]
 have hl200 : b.stack.length < 200 := by have := of_decide_eq_false hb2; omega
 rw [e]
 refine ae ?_
 refine aC (Hn h hB) ?_
 rintro _ H6 O6 ⟨w, rfl, ho⟩ l6
 refine ⟨ay w b, rfl, kM H6 ho, ?_⟩
 rw [List.append_nil]
 refine ai fun r3 => ?_
 refine ae (ae (ae ?_))
 refine ai fun r4 => ?_
 obtain ⟨A2, R2, hp2, hA2, back2⟩ := OwnB.pick_stack ho
 obtain ⟨rows, A3, T3, hp3, hA3, hl3, back3⟩ := xu hA2
 have hs6 := hs.le l6
 refine aI (rows := rows) (news := [[iV x.player, iV x.id, iV x.card, iV x.trig, s]]) (O1 := A3) (O2 := T3 ++ R2) (e := bB) (size := 5) (bytes := 56) (by kernel_rfl) (hp2.trans ((hp3.append_right R2).trans (List.Perm.of_eq (List.append_assoc _ _ _)))) hA3 (fun Hf _ hf => Sl.block1 (hf _ List.mem_cons_self) rfl ⟨rfl, rfl, rfl, rfl, hs.one, trivial⟩) (by rw [hl3, List.length_singleton]; omega) (by rw [hl3, List.length_singleton]; omega) ?_
 intro v2 A4 H8 l8 hA4
 have hE : OSlE ar 2 s (x.tgs.map Tg.row) [] := by
  rw [ht0] at hs6 ⊢
  exact OSlE.empty hs6
 have hfin := back2 _ _ _ (back3 v2 A4 x s hA4 hE)
 rw [List.append_assoc] at hfin
 refine ae (ae (ae (ae ?_)))
 exact ah ⟨_, rfl, hfin⟩
theorem GO : ∀ {l : List Int} {x i : Int}, 0 ≤ i → 0 ≤ re l x i → ∃ j : Nat, re l x i = i + j ∧ l[j]? = some x
 | [], x, i, _, h => by simp [re] at h
 | a :: l, x, i, h0, h => by
  simp only [re] at h ⊢
  by_cases hx : x = a
  ·subst hx; exact ⟨0, by simp, rfl⟩
  ·have hb : (x == a) = false := by simpa using hx
   rw [hb] at h ⊢
   simp only [Bool.false_eq_true, if_false] at h ⊢
   obtain ⟨j, h1, h2⟩ := GO (by omega) h
   exact ⟨j + 1, by rw [h1]; omega, h2⟩
theorem Am {id : Int} : ∀ {l : List (Int × Int × List Int)} {s : Int × Int × Int}, oN id l = some s → ∃ x ∈ l, s.1 = x.1 ∧ s.2.1 = x.2.1 ∧ ∃ j : Nat, s.2.2 = j ∧ x.2.2[j]? = some id
 | [], _, h => by simp [oN] at h
 | a :: l, s, h => by
  simp only [oN] at h
  split at h
  ·rename_i hi
   obtain ⟨j, h1, h2⟩ := GO (by omega) hi
   rw [← Option.some.inj h]
   exact ⟨a, by simp, rfl, rfl, j, by show re a.2.2 id 0 = _; rw [h1]; omega, h2⟩
  ·obtain ⟨x, hx, hm⟩ := Am h
   exact ⟨x, by simp [hx], hm⟩
theorem ye {b : Bd} {id : Int} (hb : (cF b id != 0) = false) (hz : (jO b id).2.1 = 1) {k : Nat} {o : Ob} (e1 : b.objs[k]? = some o) (e2 : o.id = id) : ∃ j : Nat, (jO b id).2.2 = j ∧ (dt b o.owner).hand[j]? = some id := by
 obtain ⟨hval, _⟩ := qk hb
 have hpl := (aM hval).1
 have own : ∀ {p : Int}, (id, p) ∈ aH b → p = o.owner := by
  intro p hm
  obtain ⟨k', o', a1, a2, a3⟩ := GP hpl hm
  have i1 := (co hpl e1).2.2.1
  have i2 := (co hpl a1).2.2.1
  rw [a2] at i2
  rw [e2] at i1
  have : k = k' := by omega
  subst this
  rw [e1] at a1
  rw [← Option.some.inj a1] at a3
  exact a3.symm
 rw [jO, if_neg (by rw [hb]; simp)] at hz ⊢
 obtain ⟨s, hs⟩ := tU hval e1
 rw [e2] at hs
 rw [hs] at hz ⊢
 simp only [F3, Option.getD_some] at hz ⊢
 unfold rq at hs
 split at hs
 ·rename_i s' hL
  rw [Option.some.inj hs] at hL
  obtain ⟨x, hx, x1, x2, j, x3, x4⟩ := Am hL
  refine ⟨j, x3, ?_⟩
  rw [hz] at x2
  simp only [jN, List.mem_cons, List.not_mem_nil, or_false] at hx
  rcases hx with rfl | rfl | rfl | rfl | rfl | rfl | rfl | rfl
  ·simp at x2
  ·have hm : (id, (0 : Int)) ∈ aH b := by
    simp only [aH, bF, List.map_append, List.mem_append, List.mem_map, Prod.mk.injEq]
    exact .inl (.inr (.inl ⟨id, List.mem_of_getElem? x4, rfl, trivial⟩))
   rw [← own hm]; exact x4
  ·simp at x2
  ·simp at x2
  ·simp at x2
  ·have hm : (id, (1 : Int)) ∈ aH b := by
    simp only [aH, bF, List.map_append, List.mem_append, List.mem_map, Prod.mk.injEq]
    exact .inr (.inl (.inr (.inl ⟨id, List.mem_of_getElem? x4, rfl, trivial⟩)))
   rw [← own hm]; exact x4
  ·simp at x2
  ·simp at x2
 ·split at hs
  ·rw [← Option.some.inj hs] at hz
   simp at hz
  ·cases hs
def iF (b : Bd) (k j : Nat) (o : Ob) : Bd := { eL (cZ b o.owner { dt b o.owner with hand := (dt b o.owner).hand.eraseIdx j }) k (bD o 4) with stack := b.stack ++ [⟨o.owner, o.id, o.card, -1, []⟩] }
def nN (b : Bd) (id : Int) : Bd × Int := if (cF b id != 0) = true then (zBd, cF b id) else if ((jO b id).2.1 != 1 || decide ((AZ b id).card < 0)) = true then (zBd, 8) else
 if decide ((b.stack.length : Int) ≥ 200) = true then (zBd, 7) else (iF b (gI b id).toNat (jO b id).2.2.toNat (AZ b id), 0)
theorem Jc {H : Heap} {v : d8} {b : Bd} (h : BdS H v b) (hB : bdB b) {id : Int} (hid : i64 id) : Triple PP vq [.agg (ay v b).toArray, iV id] H [] fun r _ O' => ∃ w, r = .tuple #[.agg (ay w (nN b id).1).toArray, iV (nN b id).2] ∧ OwnB tys w (nN b id).1 O' := by
 refine yF (vs := ay v b ++ [iV id]) (by kernel_rfl) (aP (au (h.r [])) ⟨rfl, trivial⟩) ?_
 simp only [qC]
 refine ai fun r0 => ai fun r1 => ?_
 refine ae ?_
 refine aj (Bn h hid []) rfl (vs := CZ (jO b id) ++ [iV (cF b id)]) ⟨rfl, rfl, rfl, rfl, trivial⟩ fun H1 l1 => ai fun r2 => ?_
 refine ae ?_
 refine ab _ (aX _ _) (ak (fun hb => ?_) (fun hb => ?_))
 ·have e : nN b id = (zBd, cF b id) := by rw [nN, if_pos hb]
  refine ae (ae ?_)
  exact ah ⟨AK, by rw [e]; rfl, by rw [e]; exact OwnB.zero tys⟩
 have hb : (cF b id != 0) = false := hb
 replace h := h.le l1
 obtain ⟨hval, k, o, e1, e2, e3, e4⟩ := qk hb
 have hfo := rf hb e1 e3
 have hown := (co (aM hval).1 e1).2.2.2
 refine ae ?_
 refine aj (KP (h.r []) hid) rfl (vs := (AZ b id).row ++ [iV (cF b id)]) (aP (dY _) ⟨rfl, trivial⟩) fun H2 l2 => ai fun r3 => ?_
 replace h := h.le l2
 have klen : al .len [v.s] = some (iV b.stack.length) := ItsR.len (h.stack.r [])
 rw [hfo]
 refine ae (ae ?_)
 refine ab _ (aX _ _) ?_
 refine ae (af (af ?_))
 refine ab _ (aB _ _) ?_
 refine af ?_
 refine ab _ (aA _ _) (ak (fun hc => ?_) (fun hc => ?_))
 ·have e : nN b id = (zBd, 8) := by rw [nN, if_neg (by rw [hb]; simp), hfo, if_pos hc]
  refine ae (ae ?_)
  exact ah ⟨AK, by rw [e]; rfl, by rw [e]; exact OwnB.zero tys⟩
 have hc : ((jO b id).2.1 != 1 || decide (o.card < 0)) = false := hc
 have hz1 : (jO b id).2.1 = 1 := by
  simp only [Bool.or_eq_false_iff] at hc
  simpa using hc.1
 obtain ⟨j, hj1, hj⟩ := ye hb hz1 e1 e2
 refine ae ?_
 refine ab _ klen ?_
 refine ab _ (dS _ _) (ak (fun hd => ?_) (fun hd => ?_))
 ·have e : nN b id = (zBd, 7) := by rw [nN, if_neg (by rw [hb]; simp), hfo, if_neg (by rw [hc]; simp), if_pos hd]
  refine ae (ae ?_)
  exact ah ⟨AK, by rw [e]; rfl, by rw [e]; exact OwnB.zero tys⟩
 have e : nN b id = (iF b k j o, 0) := by
  rw [nN, if_neg (by rw [hb]; simp), hfo, if_neg (by rw [hc]; simp), if_neg (by rw [show decide ((b.stack.length : Int) ≥ 200) = false from hd]; simp), e3, hj1]
  rfl
 have hl200 : b.stack.length < 200 := by have := of_decide_eq_false hd; omega
 have el : g (CZ (jO b id) ++ [iV (cF b id)]) 2 = iV j := by rw [← hj1]; rfl
 rw [e]
 refine ae ?_
 refine aC (Hn h hB) ?_
 rintro _ H3 O3 ⟨w, rfl, ho⟩ l3
 refine ⟨ay w b, rfl, kM H3 ho, ?_⟩
 rw [List.append_nil]
 refine ai fun r4 => ?_
 refine ae (ae ?_)
 rw [el]
 rcases hown with hown | hown
 ·rw [hown] at hj
  have hj : b.s0.hand[j]? = some id := hj
  refine ⟨.i64, o.owner, rfl, fun _ => ?_, fun e => absurd hown e⟩
  refine ae (ae (ae ?_))
  obtain ⟨A, R, hp, hA, back⟩ := OwnB.pick_h0 ho
  have hjl : j < (aO b.s0.hand).length := by rw [aO, List.length_map]; exact (List.getElem?_eq_some_iff.1 hj).1
  have hB63 := hA.lenB
  refine ab _ (ax (by omega)) ?_
  refine yf (O1 := A) (O2 := R) (by simpa using hp) (tt hA hjl) ?_
  intro v' H5 A' hA' l5
  refine ⟨[v'], rfl, ⟨hA'.one, trivial⟩, ?_⟩
  have hA2 : OSl be 1 v' (aO (b.s0.hand.eraseIdx j)) A' := by rw [aO, ← qn]; exact hA'
  have ho := back _ _ _ hA2
  refine ae (ae ?_)
  refine kY (qz (l := b.objs) (ho.r (fun _ h => h) H5).objs hid (kD hval).1 (kD hval).2 (pm hval)) ?_
  rintro _ H6 ⟨i, f, rfl, f1, f2⟩ l6
  refine ⟨[iV i, .bool f], rfl, ⟨rfl, rfl, trivial⟩, ?_⟩
  have hi : i = k := by
   cases f with
   | false => exact absurd e2 (f2 rfl o (List.mem_of_getElem? e1))
   | true =>
    obtain ⟨o', q1, q2⟩ := f1 rfl
    have n1 := AW (ir (kD hval).2).2 q1
    rw [q2, e3] at n1
    omega
  subst hi
  refine ae (ae ?_)
  refine aj (DO o 4 H6 _) rfl (vs := (bD o 4).row) (dY _) fun H7 l7 => ?_
  obtain ⟨a', q1, O1, q2, O2, q3, q4⟩ := OwnB.store_ob ho (X := []) (O' := A' ++ R) (by simp) e1 (bD o 4)
  rw [List.append_nil] at q3
  refine ab _ q1 ?_
  refine aL rfl ?_
  refine ⟨_, q2, ?_⟩
  have ho := OwnB.perm q4 q3
  refine ae (ae (ae ?_))
  refine ai fun r5 => ?_
  obtain ⟨A2, R2, hp2, hA2, back2⟩ := OwnB.pick_stack ho
  obtain ⟨rows, A3, T3, hp3, hA3, hl3, back3⟩ := xu hA2
  have hl3' : rows.length = b.stack.length := hl3
  refine aI (rows := rows) (news := [[iV o.owner, iV id, iV o.card, iV (-1), .slice none 0 0]]) (O1 := A3) (O2 := T3 ++ R2) (e := bB) (size := 5) (bytes := 56) (by kernel_rfl) (hp2.trans ((hp3.append_right R2).trans (List.Perm.of_eq (List.append_assoc _ _ _)))) hA3 (fun Hf _ hf => Sl.block1 (hf _ List.mem_cons_self) rfl ⟨rfl, rfl, rfl, rfl, rfl, trivial⟩) (by rw [hl3', List.length_singleton]; omega) (by rw [hl3', List.length_singleton]; omega) ?_
  intro v2 A4 H8 l8 hA4
  have hfin := back2 _ _ _ (back3 v2 A4 ⟨o.owner, id, o.card, -1, []⟩ (.slice none 0 0) hA4 (.inl (OSl.nil _ _)))
  refine ae (ae (ae (ae ?_)))
  rw [List.append_assoc] at hfin
  have ec : iF b i j o = { eL { b with s0 := { b.s0 with hand := b.s0.hand.eraseIdx j } } i (bD o 4) with stack := b.stack ++ [⟨o.owner, id, o.card, -1, []⟩] } := by
   simp [iF, cZ, dt, hown, e2, eL]
  rw [ec]
  exact ah ⟨_, rfl, hfin⟩
 ·rw [hown] at hj
  have hj : b.s1.hand[j]? = some id := hj
  refine ⟨.i64, o.owner, rfl, fun e => absurd e (by omega), fun _ => ⟨.i64, o.owner, rfl, fun _ => ?_, fun e => absurd hown e⟩⟩
  refine ae (ae (ae ?_))
  obtain ⟨A, R, hp, hA, back⟩ := OwnB.pick_h1 ho
  have hjl : j < (aO b.s1.hand).length := by rw [aO, List.length_map]; exact (List.getElem?_eq_some_iff.1 hj).1
  have hB63 := hA.lenB
  refine ab _ (ax (by omega)) ?_
  refine yf (O1 := A) (O2 := R) (by simpa using hp) (tt hA hjl) ?_
  intro v' H5 A' hA' l5
  refine ⟨[v'], rfl, ⟨hA'.one, trivial⟩, ?_⟩
  have hA2 : OSl be 1 v' (aO (b.s1.hand.eraseIdx j)) A' := by rw [aO, ← qn]; exact hA'
  have ho := back _ _ _ hA2
  refine ae (ae ?_)
  refine kY (qz (l := b.objs) (ho.r (fun _ h => h) H5).objs hid (kD hval).1 (kD hval).2 (pm hval)) ?_
  rintro _ H6 ⟨i, f, rfl, f1, f2⟩ l6
  refine ⟨[iV i, .bool f], rfl, ⟨rfl, rfl, trivial⟩, ?_⟩
  have hi : i = k := by
   cases f with
   | false => exact absurd e2 (f2 rfl o (List.mem_of_getElem? e1))
   | true =>
    obtain ⟨o', q1, q2⟩ := f1 rfl
    have n1 := AW (ir (kD hval).2).2 q1
    rw [q2, e3] at n1
    omega
  subst hi
  refine ae (ae ?_)
  refine aj (DO o 4 H6 _) rfl (vs := (bD o 4).row) (dY _) fun H7 l7 => ?_
  obtain ⟨a', q1, O1, q2, O2, q3, q4⟩ := OwnB.store_ob ho (X := []) (O' := A' ++ R) (by simp) e1 (bD o 4)
  rw [List.append_nil] at q3
  refine ab _ q1 ?_
  refine aL rfl ?_
  refine ⟨_, q2, ?_⟩
  have ho := OwnB.perm q4 q3
  refine ae (ae (ae ?_))
  refine ai fun r5 => ?_
  obtain ⟨A2, R2, hp2, hA2, back2⟩ := OwnB.pick_stack ho
  obtain ⟨rows, A3, T3, hp3, hA3, hl3, back3⟩ := xu hA2
  have hl3' : rows.length = b.stack.length := hl3
  refine aI (rows := rows) (news := [[iV o.owner, iV id, iV o.card, iV (-1), .slice none 0 0]]) (O1 := A3) (O2 := T3 ++ R2) (e := bB) (size := 5) (bytes := 56) (by kernel_rfl) (hp2.trans ((hp3.append_right R2).trans (List.Perm.of_eq (List.append_assoc _ _ _)))) hA3 (fun Hf _ hf => Sl.block1 (hf _ List.mem_cons_self) rfl ⟨rfl, rfl, rfl, rfl, rfl, trivial⟩) (by rw [hl3', List.length_singleton]; omega) (by rw [hl3', List.length_singleton]; omega) ?_
  intro v2 A4 H8 l8 hA4
  have hfin := back2 _ _ _ (back3 v2 A4 ⟨o.owner, id, o.card, -1, []⟩ (.slice none 0 0) hA4 (.inl (OSl.nil _ _)))
  refine ae (ae (ae (ae ?_)))
  rw [List.append_assoc] at hfin
  have ec : iF b i j o = { eL { b with s1 := { b.s1 with hand := b.s1.hand.eraseIdx j } } i (bD o 4) with stack := b.stack ++ [⟨o.owner, id, o.card, -1, []⟩] } := by
   simp [iF, cZ, dt, hown, e2, eL]
  rw [ec]
  exact ah ⟨_, rfl, hfin⟩
end Go.Proofs.YtieaihgbjikggaaGreat
namespace Go.Proofs.YtieaihgbjikggaaGreat
open Go Go.Sx
set_option maxRecDepth 100000
set_option maxHeartbeats 1000000
theorem wi {b c : Bd} (h : aw b = true) (hpl : bm ba c = true) (hf : fX c = true) (h0 : bu c.s0 = bu b.s0) (h1 : bu c.s1 = bu b.s1)
  (e1 : c.active = b.active) (e2 : c.turn = b.turn) (e3 : c.phase = b.phase) (e4 : c.holder = b.holder) (e5 : c.passes = b.passes) (e7 : c.queue = b.queue) (e8 : c.objs.length = b.objs.length)
  (hs : c.stack.length ≤ 200) (hfine : ∀ x ∈ c.stack, ct x false = true) : aw c = true := by
 have hany : (c.stack.any fun x => !ct x false) = false := by
  rw [List.any_eq_false]
  intro x hx
  rw [hfine x hx]; simp
 simp only [aw, rA, Bool.and_eq_true, Bool.not_eq_true', Bool.or_eq_false_iff, decide_eq_false_iff_not] at h ⊢
 obtain ⟨a1, a2, a3, a4, ⟨⟨⟨a5, a6⟩, a7⟩, a8⟩, a9, a10, a11, a12, a13⟩ := h
 rw [e1, e2, e3, e4, e5, e7, e8, h0, h1]
 exact ⟨a1, a2, a3, a4, ⟨⟨⟨a5, a6⟩, by omega⟩, a8⟩, a9, a10, hany, a12, hpl, hf⟩
theorem hP {b : Bd} (h : aw b = true) {x : It} (hx : x ∈ b.stack) : ct x false = true := List.all_eq_true.1 (aM h).2.2.2 x hx
theorem qR {b : Bd} (h : aw b = true) : b.stack.length ≤ 200 := by
 simp only [aw, rA, Bool.and_eq_true, Bool.not_eq_true', Bool.or_eq_false_iff, decide_eq_false_iff_not] at h
 obtain ⟨a1, a2, a3, a4, ⟨⟨⟨a5, a6⟩, a7⟩, a8⟩, _⟩ := h
 omega
theorem He {b : Bd} (h : bm ba b = true) : ∀ o ∈ b.objs, ∀ v, cn (aU b.stack) o.id = some v → v = o.card := by
 obtain ⟨_, p2, _⟩ := ej h
 intro o ho v hv
 have := List.all_eq_true.1 p2 o ho
 simp only [ok1, hv, Option.isSome_some, Option.getD_some, Bool.true_and, Bool.and_eq_true, Bool.not_eq_true', bne_eq_false_iff_eq] at this
 exact this.2.2.2
theorem zk {b c : Bd} (h : bm ba b = true) (hp : (aH b).Perm (aH c)) (ho : c.objs = b.objs) (hc : ∀ o ∈ b.objs, ∀ v, cn (aU c.stack) o.id = some v → v = o.card) : bm ba c = true := by
 obtain ⟨p1, p2, p3⟩ := ej h
 have hn := dJ h
 rw [← js] at hn
 simp only [bm, Bool.and_eq_true, decide_eq_true_eq, kR, ho]
 refine ⟨(hp.map _).nodup_iff.1 hn, ⟨p1, ?_⟩, by rw [← hp.length_eq]; exact p3⟩
 rw [List.all_eq_true] at p2 ⊢
 intro o hm
 have h1 := p2 o hm
 have h2 := hc o hm
 simp only [ok1, Bool.and_eq_true, Bool.not_eq_true', ← ue hn hp] at h1 ⊢
 refine ⟨h1.1, h1.2.1, h1.2.2.1, ?_⟩
 cases hv : cn (aU c.stack) o.id with
 | none => rfl
 | some v =>
  have := h2 v hv
  simp [this]
theorem zf {b : Bd} (h : aw b = true) {x : It} (hx : sg x = true) (ht : x.tgs = []) (hl : b.stack.length < 200) : aw { b with stack := b.stack ++ [x] } = true := by
 have hf := hx
 simp only [sg, Bool.and_eq_true] at hf
 obtain ⟨f1, f2, f3, f4⟩ := hf
 have htr : 0 ≤ x.trig ∧ x.trig ≤ 1 := of_decide_eq_true f4
 have hc : bz (b.stack ++ [x]) = bz b.stack := by
  rw [bz, List.filter_append, List.filter_cons, if_neg (by simp; omega)]
  simp [bz]
 have e1 : cJ (b.stack ++ [x]) = cJ b.stack := by rw [cJ, hc, cJ]
 have e2 : aU (b.stack ++ [x]) = aU b.stack := by rw [aU, hc, aU]
 refine wi h (xj (aM h).1 (by simp only [aH]; rw [e1]) rfl e2) (aM h).2.1 rfl rfl rfl rfl rfl rfl rfl rfl rfl (by simp; omega) fun y hy => ?_
 rcases List.mem_append.1 hy with hy | hy
 ·exact hP h hy
 ·rw [List.mem_singleton.1 hy]
  have f5 : aq x.trig (-1) 1 = true := by simp only [aq, decide_eq_true_eq]; omega
  simp [ct, f1, f2, f3, f5, ht]
theorem zN {α : Type} {a : α} : ∀ {l : List α} {j : Nat}, l[j]? = some a → l.Perm (a :: l.eraseIdx j)
 | [], _, h => by simp at h
 | b :: l, 0, h => by
  simp at h; subst h
  simp
 | b :: l, j + 1, h => by
  have := zN (l := l) (j := j) (by simpa using h)
  rw [List.eraseIdx_cons_succ]
  exact (this.cons b).trans (List.Perm.swap _ _ _)
theorem Cw {s : St} {j : Nat} {id p : Int} (hj : s.hand[j]? = some id) : (bF s p).Perm ((id, p) :: bF { s with hand := s.hand.eraseIdx j } p) := by
 have h1 := zN hj
 rw [bF, bF, ← List.map_cons (f := fun i => (i, p))]
 refine List.Perm.map _ ?_
 show (s.lib ++ (s.hand ++ (s.field ++ s.grave))).Perm (id :: (s.lib ++ (s.hand.eraseIdx j ++ (s.field ++ s.grave))))
 refine ((h1.append_right _).append_left _).trans ?_
 exact List.perm_middle
theorem zT {b : Bd} (h : aw b = true) {k j : Nat} {o : Ob} (hk : b.objs[k]? = some o) (hj : (dt b o.owner).hand[j]? = some o.id) (hc : 0 ≤ o.card) (hl : b.stack.length < 200) : aw (iF b k j o) = true := by
 have hpl := (aM h).1
 obtain ⟨hvo, hmem, _, hown⟩ := co hpl hk
 have hset := zi (o' := bD o 4) hpl hk rfl rfl rfl (uN 4 hvo)
 have ec : bz (b.stack ++ [⟨o.owner, o.id, o.card, -1, []⟩]) = bz b.stack ++ [⟨o.owner, o.id, o.card, -1, []⟩] := by
  rw [bz, List.filter_append, List.filter_cons, if_pos (by simp), bz]; rfl
 have e1 : cJ (b.stack ++ [⟨o.owner, o.id, o.card, -1, []⟩]) = cJ b.stack ++ [(o.id, o.owner)] := by rw [cJ, ec, List.map_append, cJ]; rfl
 have e2 : aU (b.stack ++ [⟨o.owner, o.id, o.card, -1, []⟩]) = aU b.stack ++ [(o.id, o.card)] := by rw [aU, ec, List.map_append, aU]; rfl
 have hid := pn hvo
 have hcard : o.card < 400 := by
  simp only [ba, Bool.and_eq_true, decide_eq_true_eq] at hvo
  exact hvo.1.2.2
 have hfine : ∀ x ∈ b.stack ++ [(⟨o.owner, o.id, o.card, -1, []⟩ : It)], ct x false = true := by
  intro x hx
  rcases List.mem_append.1 hx with hx | hx
  ·exact hP h hx
  ·rw [List.mem_singleton.1 hx]
   have f1 : aq o.owner 0 1 = true := by simp only [aq, decide_eq_true_eq]; omega
   have f2 : aq o.id 1 500 = true := by simp only [aq, decide_eq_true_eq]; omega
   have f3 : aq o.card 0 399 = true := by simp only [aq, decide_eq_true_eq]; omega
   have f4 : aq (-1) (-1) 1 = true := by decide
   simp [ct, f1, f2, f3, f4]
 have hlook : ∀ y ∈ (eL b k (bD o 4)).objs, ∀ v, cn (aU (b.stack ++ [⟨o.owner, o.id, o.card, -1, []⟩])) y.id = some v → v = y.card := by
  intro y hy v hv
  rw [e2, cn, List.find?_append] at hv
  cases hf : (aU b.stack).find? fun p => y.id == p.1 with
  | some q =>
   rw [hf] at hv
   exact He hset y hy v (by rw [cn]; show Option.map _ ((aU b.stack).find? fun p => y.id == p.1) = _; rw [hf]; simpa using hv)
  | none =>
   rw [hf] at hv
   simp only [Option.none_or, List.find?_cons] at hv
   split at hv
   ·rename_i he
    have he : y.id = o.id := by simpa using he
    have hv : o.card = v := by simpa using hv
    obtain ⟨k', hk'⟩ := List.mem_iff_getElem?.1 hy
    have hk2 : (eL b k (bD o 4)).objs[k]? = some (bD o 4) := by
     have := (List.getElem?_eq_some_iff.1 hk).1
     simp [eL, this]
    have i1 := (co hset hk').2.2.1
    have i2 := (co hset hk2).2.2.1
    have i3 : gI (eL b k (bD o 4)) y.id = k := by rw [he]; exact i2
    have : k' = k := by omega
    subst this
    rw [hk'] at hk2
    rw [Option.some.inj hk2, ← hv]; rfl
   ·simp at hv
 have hlen : (iF b k j o).objs.length = b.objs.length := by
  have : (iF b k j o).objs = b.objs.set k (bD o 4) := by simp only [iF, eL, cZ]; split <;> rfl
  rw [this, List.length_set]
 have hst : (iF b k j o).stack = b.stack ++ [⟨o.owner, o.id, o.card, -1, []⟩] := rfl
 rcases hown with hown | hown
 ·have ecb : iF b k j o = { eL { b with s0 := { b.s0 with hand := b.s0.hand.eraseIdx j } } k (bD o 4) with stack := b.stack ++ [⟨o.owner, o.id, o.card, -1, []⟩] } := by simp [iF, cZ, dt, hown, eL]
  rw [hown] at hj
  have hj : b.s0.hand[j]? = some o.id := hj
  rw [ecb] at hlen hst ⊢
  refine wi h (zk hset ?_ rfl hlook) (aM h).2.1 rfl rfl rfl rfl rfl rfl rfl rfl hlen (by rw [hst]; simp; omega) (by rw [hst]; exact hfine)
  show (bF b.s0 0 ++ (bF b.s1 1 ++ cJ b.stack)).Perm (bF { b.s0 with hand := b.s0.hand.eraseIdx j } 0 ++ (bF b.s1 1 ++ cJ (b.stack ++ [⟨o.owner, o.id, o.card, -1, []⟩])))
  rw [e1, hown]
  have assoc : ∀ {X Z W Y : List (Int × Int)}, X ++ (Z ++ (W ++ Y)) = (X ++ (Z ++ W)) ++ Y := by simp
  rw [assoc]
  exact ((Cw hj).append_right _).trans (List.perm_append_singleton _ _).symm
 ·have ecb : iF b k j o = { eL { b with s1 := { b.s1 with hand := b.s1.hand.eraseIdx j } } k (bD o 4) with stack := b.stack ++ [⟨o.owner, o.id, o.card, -1, []⟩] } := by simp [iF, cZ, dt, hown, eL]
  rw [hown] at hj
  have hj : b.s1.hand[j]? = some o.id := hj
  rw [ecb] at hlen hst ⊢
  refine wi h (zk hset ?_ rfl hlook) (aM h).2.1 rfl rfl rfl rfl rfl rfl rfl rfl hlen (by rw [hst]; simp; omega) (by rw [hst]; exact hfine)
  show (bF b.s0 0 ++ (bF b.s1 1 ++ cJ b.stack)).Perm (bF b.s0 0 ++ (bF { b.s1 with hand := b.s1.hand.eraseIdx j } 1 ++ cJ (b.stack ++ [⟨o.owner, o.id, o.card, -1, []⟩])))
  rw [e1, hown]
  refine List.Perm.append_left _ ?_
  have assoc : ∀ {Z W Y : List (Int × Int)}, Z ++ (W ++ Y) = (Z ++ W) ++ Y := by simp
  rw [assoc]
  exact ((Cw hj).append_right _).trans (List.perm_append_singleton _ _).symm
def FI (x : It) (t : Tg) : It := { x with tgs := x.tgs ++ [t] }
theorem Hr {b : Bd} (h : aw b = true) {l : List It} {x : It} (hl : b.stack = l ++ [x]) (hx : x.trig < 0) (h4 : x.tgs.length < 4) {t : Tg} (ht : d6 t = true) : aw { b with stack := l ++ [FI x t] } = true := by
 have e1 : cJ (l ++ [FI x t]) = cJ b.stack := by
  rw [hl, cJ, cJ, bz, bz, List.filter_append, List.filter_append, List.filter_cons, List.filter_cons, if_pos (decide_eq_true (show (FI x t).trig < 0 from hx)), if_pos (decide_eq_true hx)]
  simp [FI]
 have e2 : aU (l ++ [FI x t]) = aU b.stack := by
  rw [hl, aU, aU, bz, bz, List.filter_append, List.filter_append, List.filter_cons, List.filter_cons, if_pos (decide_eq_true (show (FI x t).trig < 0 from hx)), if_pos (decide_eq_true hx)]
  simp [FI]
 have hlen := qR h
 have hxf := hP h (x := x) (by rw [hl]; simp)
 refine wi h (xj (aM h).1 (by simp only [aH]; rw [e1]) rfl e2) (aM h).2.1 rfl rfl rfl rfl rfl rfl rfl rfl rfl (by rw [hl] at hlen; simpa using hlen) fun y hy => ?_
 rcases List.mem_append.1 hy with hy | hy
 ·exact hP h (by rw [hl]; exact List.mem_append_left _ hy)
 ·rw [List.mem_singleton.1 hy]
  simp only [ct, Bool.and_eq_true, Bool.not_eq_true', Bool.or_eq_false_iff, decide_eq_false_iff_not, List.any_eq_false, FI, List.length_append, List.length_singleton, List.mem_append, List.mem_singleton] at hxf ⊢
  obtain ⟨g1, g2, g3, g4, ⟨⟨g5, g6⟩, g7⟩, g8⟩ := hxf
  refine ⟨g1, g2, g3, g4, ⟨⟨by omega, ?_⟩, g7⟩, fun q hq => ?_⟩
  ·have : ¬ (0 ≤ x.trig) := by omega
   simp [this]
  ·rcases hq with hq | rfl
   ·exact g8 q hq
   ·rw [ht]; simp
end Go.Proofs.YtieaihgbjikggaaGreat
namespace Go.Proofs.YtieaihgbjikggaaGreat
open Go Go.Sx
set_option maxRecDepth 100000
set_option maxHeartbeats 1000000
end Go.Proofs.YtieaihgbjikggaaGreat
namespace Go.Sx
open Go
set_option maxRecDepth 100000
set_option maxHeartbeats 1000000
end Go.Sx
namespace Go.Proofs.YtieaihgbjikggaaGreat
open Go Go.Sx
set_option maxRecDepth 100000
set_option maxHeartbeats 1000000
theorem Hc {n : Int} (h : 0 ≤ n ∧ n ≤ 255) : al (.conv .i64) [.int .u8 n] = some (iV n) := by
 simp only [al]
 rw [no (by omega) (by omega)]
theorem Gh {n : Int} {m : Nat} (h : 0 ≤ n) (hm : 0 < m) : al (.bin .rem .int) [iV n, iV (m : Int)] = some (iV ((n.toNat % m : Nat) : Int)) := by
 simp only [al, fe, dP]
 have h2 : (m : Int) ≠ 0 := by omega
 have h3 : n.tmod (m : Int) = ((n.toNat % m : Nat) : Int) := by
  rw [Int.tmod_eq_emod_of_nonneg h, Int.natCast_emod, Int.toNat_of_nonneg h]
 simp [h2, h3]
 omega
end Go.Proofs.YtieaihgbjikggaaGreat
namespace Go.Proofs.YtieaihgbjikggaaGreat
open Go Go.Sx
set_option maxRecDepth 100000
set_option maxHeartbeats 1000000
theorem Triple.frozen2 {P : Program} {f : FuncId} {args : List Value} {H : Heap} {t : Tys} {b : Bd} {e : Int} (h : Triple P f args H [] fun r _ O' => ∃ w, r = .tuple #[.agg (ay w b).toArray, iV e] ∧ OwnB t w b O') :
  Triple P f args H [] fun r H' O' => (∃ w, r = .tuple #[.agg (ay w b).toArray, iV e] ∧ BdS H' w b) ∧ O' = [] := by
 refine Triple.ghost h ?_
 rintro v H' O' _ hc ⟨w, rfl, ho⟩
 obtain ⟨H'', g, k, _⟩ := ho.freeze (X := []) (by simpa using hc)
 exact ⟨H'', [], by simpa using g, ⟨w, rfl, k⟩, rfl⟩
end Go.Proofs.YtieaihgbjikggaaGreat
namespace Go.Proofs.YtieaihgbjikggaaGreat
open Go Go.Sx
set_option maxRecDepth 100000
set_option maxHeartbeats 1000000
theorem GB (x y : Int) : al .min2 [iV x, iV y] = some (iV (min x y)) := by
 simp only [al]
 congr 2
 split <;> omega
theorem oH {H : Heap} {O : Own} {v : Value} {l : List It} (h : ItsS H v l) {i : Nat} {x : It} (hx : l[i]? = some x) :
  ∃ a s, al (.idx 5) [v, iV i] = some (.pointer (some a)) ∧ Sl H 2 s (bA x.tgs) ∧ Reads H O (.pointer (some a)) 5 [iV x.player, iV x.id, iV x.card, iV x.trig, s] ∧
   ∀ off m, off + m ≤ 5 → Reads H O (bc (.pointer (some a)) off) m (([iV x.player, iV x.id, iV x.card, iV x.trig, s].drop off).take m) := by
 obtain ⟨rows, h1, h2, h3⟩ := h
 have hlt := (List.getElem?_eq_some_iff.1 hx).1
 have hr : rows[i]? = some (rows[i]'(by omega)) := List.getElem?_eq_getElem (by omega)
 obtain ⟨s, e, hs⟩ := h3 i _ x hr hx
 obtain ⟨a, k1, k2, k3, _⟩ := (h1.rsl O).idx .i64 i _ hr
 rw [e] at k2 k3
 exact ⟨a, s, k1, hs, k2, k3⟩
theorem d5 {α : Type} (l : List α) (x : α) : (l ++ [x])[l.length]? = some x := by simp
def bG (cs : List CdX) (x : It) : List Int := bo ((lS cs x.card x.trig).map (·.target))
def yO (cs : List CdX) (x : It) : Int := if x.trig = -1 ∧ (x.tgs.length : Int) < min 4 ((bG cs x).length : Int) then (bG cs x).getD x.tgs.length 0 else 0
def jc (cs : List CdX) (b : Bd) : Int := match b.stack.getLast? with
 | none => 0
 | some x => yO cs x
theorem qb {cs : List CdX} {b : Bd} {l : List It} {x : It} (hl : b.stack = l ++ [x]) : jc cs b = yO cs x := by
 simp [jc, hl]
theorem sX {cs : List CdX} {b : Bd} (hl : b.stack = []) : jc cs b = 0 := by
 simp [jc, hl]
theorem BH {b : Bd} (h : b.stack ≠ []) : ∃ l x, b.stack = l ++ [x] := ⟨b.stack.dropLast, b.stack.getLast h, (List.dropLast_concat_getLast h).symm⟩
theorem tj {cs : List CdX} (hli : dR (cs.map CdX.base) = true) (c t : Int) : (lS cs c t).length ≤ 5 := by
 have h := wo hli c
 rw [← ED] at h
 simp only [gn, CdX.base, Bool.and_eq_true, Bool.not_eq_true', Bool.or_eq_false_iff, decide_eq_false_iff_not, List.all_eq_true, List.length_map] at h
 obtain ⟨⟨h1, h2⟩, h3⟩ := h
 rw [lS]
 split
 ·omega
 split
 ·simp
 ·rename_i hn
  have hlt : t.toNat < (cdX cs c).trs.length := by omega
  rw [List.getD_eq_getElem?_getD, List.getElem?_eq_getElem hlt, Option.getD_some]
  have := h3 _ (List.mem_map.2 ⟨_, List.getElem_mem hlt, rfl⟩)
  omega
theorem qY {cs : List CdX} (hli : dR (cs.map CdX.base) = true) (x : It) : (bG cs x).length ≤ 5 := by
 have := tj hli x.card x.trig
 have h2 : (bG cs x).length ≤ ((lS cs x.card x.trig).map (·.target)).length := List.length_filter_le _ _
 rw [List.length_map] at h2
 omega
theorem yh {H : Heap} {cv : Value} {cs : List CdX} (hk : CardsX H cv cs) (hli : dR (cs.map CdX.base) = true) {v : d8} {b : Bd} (h : BdS H v b) (hv : aw b = true) : RetO PP vp [cv, .agg (ay v b).toArray] H [] (iV (jc cs b)) := by
  refine yE (vs := cv :: ay v b) (by kernel_rfl) ⟨hk.one, au (h.r [])⟩ ?_
  simp only [qB]
  have slen : al .len [v.s] = some (iV b.stack.length) := ItsR.len (h.stack.r [])
  have h200 := qR hv
  refine ai fun r0 => ?_
  refine ae ?_
  refine ab _ slen ?_
  refine ab _ (aF _ _) (ak (fun h0 => ?_) (fun h0 => ?_))
  · have h0 : b.stack = [] := List.length_eq_zero_iff.1 (by have : (b.stack.length : Int) = 0 := by simpa using h0
                                                            omega)
    exact ah ⟨by rw [sX h0], rfl⟩
  have hne : b.stack ≠ [] := fun e => by rw [e] at h0; simp at h0
  obtain ⟨l, x, hl⟩ := BH hne
  have hlen : b.stack.length = l.length + 1 := by rw [hl]; simp
  have hxf := hP hv (x := x) (by rw [hl]; simp)
  rw [qb hl]
  refine ae ?_
  refine aj (bg (h.r [])) rfl ⟨rfl, trivial⟩ fun H1 l1 => ?_
  rw [hv]
  have h := h.le l1
  have hk := hk.le l1
  obtain ⟨a, s, k1, hs, k2, k3⟩ := oH (O := []) h.stack (i := l.length) (x := x) (by rw [hl]; exact d5 l x)
  have esub : ((b.stack.length : Int) - 1) = (l.length : Int) := by omega
  refine ab _ (az _) ?_
  refine ae (af (af ?_))
  refine ab _ (za (by omega) (by omega)) ?_
  rw [esub]
  refine af (af ?_)
  refine ⟨_, fun _ => k1, .inr rfl, ?_⟩
  refine ⟨fun _ => rfl, ?_⟩
  refine af (af ?_)
  refine ⟨[iV x.trig], rfl, ⟨rfl, trivial⟩, fun _ => k3 3 1 (by omega), ?_⟩
  refine af ?_
  refine ab _ (aX _ _) ?_
  refine af ?_
  refine ab _ (aA _ _) (ak (fun ht => ?_) (fun ht => ?_))
  · have ht : (!true || x.trig != -1) = true := ht
    have ht : x.trig ≠ -1 := by simpa using ht
    exact ah ⟨by rw [yO, if_neg (fun h => ht h.1)], rfl⟩
  have ht : (!true || x.trig != -1) = false := ht
  have ht : x.trig = -1 := by simpa using ht
  refine ae ?_
  refine ab _ (za (by omega) (by omega)) ?_
  rw [esub]
  refine ab _ k1 (ap k2 rfl ⟨rfl, rfl, rfl, rfl, hs.one, trivial⟩ (ai fun r1 => ?_))
  refine ae (ae ?_)
  refine aC (Triple.frozenS (uu hk hli x.player x.id x.card x.trig hs.one)) ?_
  rintro ev H2 _ ⟨hev, rfl⟩ l2
  refine ⟨[ev], rfl, ⟨hev.one, trivial⟩, ?_⟩
  have hn5 := qY hli x
  refine aC (Triple.frozenS (J6 (xU hev) (by rw [List.length_map]; have := tj hli x.card x.trig; omega))) ?_
  rintro nv H3 _ ⟨hnv, rfl⟩ l3
  have hnv : Sl H3 1 nv (aO (bG cs x)) := hnv
  refine ⟨[nv], rfl, ⟨hnv.one, trivial⟩, ?_⟩
  have tlen : al .len [s] = some (iV x.tgs.length) := by have := hs.len; rwa [aT] at this
  have nlen : al .len [nv] = some (iV (bG cs x).length) := by have := hnv.len; rwa [aO, List.length_map] at this
  have ht4 : x.tgs.length ≤ 4 := by
    simp only [ct, Bool.and_eq_true, Bool.not_eq_true', Bool.or_eq_false_iff, decide_eq_false_iff_not] at hxf
    have := hxf.2.2.2.2.1.1.1
    omega
  refine ae ?_
  refine ab _ tlen ?_
  refine ab _ nlen ?_
  refine ab _ (aB _ _) ?_
  refine af ?_
  refine ab _ (aB _ _) ?_
  refine af ?_
  refine ab _ (bE _ _) (ak (fun hc => ?_) (fun hc => ?_))
  · have hc : (decide ((x.tgs.length : Int) < ((bG cs x).length : Int)) && decide ((x.tgs.length : Int) < 4)) = true := hc
    have hc : (x.tgs.length : Int) < ((bG cs x).length : Int) ∧ (x.tgs.length : Int) < 4 := by simpa using hc
    have hlt : x.tgs.length < (bG cs x).length := by omega
    obtain ⟨a2, i1, i2, _, i3, i4⟩ := (hnv.rsl ([] : Own)).idx .i64 x.tgs.length [iV (bG cs x)[x.tgs.length]] (by simp [aO, hlt])
    refine ab _ i1 (ap i2 rfl ⟨rfl, trivial⟩ ?_)
    refine ah ⟨?_, rfl⟩
    rw [yO, if_pos ⟨ht, by omega⟩, List.getD_eq_getElem?_getD, List.getElem?_eq_getElem hlt]; rfl
  · have hc : (decide ((x.tgs.length : Int) < ((bG cs x).length : Int)) && decide ((x.tgs.length : Int) < 4)) = false := hc
    have hc : ¬ ((x.tgs.length : Int) < ((bG cs x).length : Int) ∧ (x.tgs.length : Int) < 4) := by
      intro hh
      rw [decide_eq_true hh.1, decide_eq_true hh.2] at hc
      cases hc
    exact ah ⟨by rw [yO, if_neg (fun h => hc (by omega))], rfl⟩
theorem Kt {H : Heap} {cv : Value} {cs : List CdX} (hk : CardsX H cv cs) (hli : dR (cs.map CdX.base) = true) {v : d8} {b : Bd} (h : BdS H v b) (hv : aw b = true) : RetO PP ln [cv, .agg (ay v b).toArray] H [] (iV (jc cs b)) := by
  refine pC (vs := cv :: ay v b) (by kernel_rfl) ⟨hk.one, au (h.r [])⟩ ?_
  simp only [gU]
  have slen : al .len [v.s] = some (iV b.stack.length) := ItsR.len (h.stack.r [])
  have h200 := qR hv
  refine ai fun r0 => ?_
  refine ae ?_
  refine ab _ slen ?_
  refine ab _ (aF _ _) (ak (fun h0 => ?_) (fun h0 => ?_))
  · have h0 : b.stack = [] := List.length_eq_zero_iff.1 (by have : (b.stack.length : Int) = 0 := by simpa using h0
                                                            omega)
    exact ah ⟨by rw [sX h0], rfl⟩
  have hne : b.stack ≠ [] := fun e => by rw [e] at h0; simp at h0
  obtain ⟨l, x, hl⟩ := BH hne
  have hlen : b.stack.length = l.length + 1 := by rw [hl]; simp
  rw [qb hl]
  obtain ⟨a, s, k1, hs, k2, k3⟩ := oH (O := []) h.stack (i := l.length) (x := x) (by rw [hl]; exact d5 l x)
  have esub : ((b.stack.length : Int) - 1) = (l.length : Int) := by omega
  refine ae (ae ?_)
  refine ab _ slen ?_
  refine ab _ (za (by omega) (by omega)) ?_
  rw [esub]
  refine ab _ k1 (ap k2 rfl ⟨rfl, rfl, rfl, rfl, hs.one, trivial⟩ (ai fun r1 => ?_))
  refine ae (ae ?_)
  refine aC (EX hk x.player x.id x.card x.trig hs.one) ?_
  rintro ev H2 _ ⟨hev, rfl⟩ l2
  refine ⟨[ev], rfl, ⟨hev.one, trivial⟩, ?_⟩
  have hn5 := qY hli x
  refine aC (Triple.frozenS (Gl (xU hev) (by rw [List.length_map]; have := tj hli x.card x.trig; omega))) ?_
  rintro nv H3 _ ⟨hnv, rfl⟩ l3
  have hnv : Sl H3 1 nv (aO (bG cs x)) := hnv
  refine ⟨[nv], rfl, ⟨hnv.one, trivial⟩, ?_⟩
  have tlen : al .len [s] = some (iV x.tgs.length) := by have := hs.len; rwa [aT] at this
  have nlen : al .len [nv] = some (iV (bG cs x).length) := by have := hnv.len; rwa [aO, List.length_map] at this
  refine ae ?_
  refine ab _ (aX _ _) ?_
  refine ae (af (af ?_))
  refine ab _ tlen ?_
  refine af ?_
  refine ab _ nlen ?_
  refine af ?_
  refine ab _ (GB _ _) ?_
  refine af (af ?_)
  refine ab _ (dS _ _) ?_
  refine af ?_
  refine ab _ (aA _ _) (ak (fun hc => ?_) (fun hc => ?_))
  · have hc : ((x.trig != -1) || decide ((x.tgs.length : Int) ≥ min 4 ((bG cs x).length : Int))) = true := hc
    have hc : ¬ (x.trig = -1 ∧ (x.tgs.length : Int) < min 4 ((bG cs x).length : Int)) := by
      intro hh
      rw [hh.1, decide_eq_false (by omega)] at hc
      cases hc
    exact ah ⟨by rw [yO, if_neg hc], rfl⟩
  · have hc : ((x.trig != -1) || decide ((x.tgs.length : Int) ≥ min 4 ((bG cs x).length : Int))) = false := hc
    have hc : x.trig = -1 ∧ (x.tgs.length : Int) < min 4 ((bG cs x).length : Int) := by
      rw [Bool.or_eq_false_iff] at hc
      exact ⟨by simpa using hc.1, by have := of_decide_eq_false hc.2; omega⟩
    have hlt : x.tgs.length < (bG cs x).length := by omega
    obtain ⟨a2, i1, i2, _, i3, i4⟩ := (hnv.rsl ([] : Own)).idx .i64 x.tgs.length [iV (bG cs x)[x.tgs.length]] (by simp [aO, hlt])
    refine ae ?_
    refine ab _ tlen ?_
    refine ab _ i1 (ap i2 rfl ⟨rfl, trivial⟩ ?_)
    refine ah ⟨?_, rfl⟩
    rw [yO, if_pos hc, List.getD_eq_getElem?_getD, List.getElem?_eq_getElem hlt]; rfl
def Jl (b : Bd) : Int := match b.stack.getLast? with
 | none => 0
 | some x => x.player
theorem Ae {b : Bd} {l : List It} {x : It} (hl : b.stack = l ++ [x]) : Jl b = x.player := by
 simp [Jl, hl]
def eh (cs : List CdX) (b : Bd) : List Tg := if jc cs b = 0 then [] else tI (cs.map CdX.base) b (Jl b) (jc cs b)
theorem BY {H : Heap} {cv : Value} {cs : List CdX} (hk : CardsX H cv cs) (hli : dR (cs.map CdX.base) = true) {v : d8} {b : Bd} (h : BdS H v b) (hv : aw b = true) (hB : bdB b) (hfit : FB b) :
  Triple PP iW [cv, .agg (ay v b).toArray] H [] fun r H' O' => Sl H' 2 r (bA (eh cs b)) ∧ O' = [] := by
 refine mO (vs := cv :: ay v b) (by kernel_rfl) ⟨hk.one, au (h.r [])⟩ ?_
 simp only [ff]
 have h200 := qR hv
 refine ai fun r0 => ?_
 refine ae ?_
 refine aj (Kt hk hli h hv) rfl ⟨rfl, trivial⟩ fun H1 l1 => ?_
 have h := h.le l1
 have hk := hk.le l1
 have slen : al .len [v.s] = some (iV b.stack.length) := ItsR.len (h.stack.r [])
 refine ab _ (aF _ _) (ak (fun h0 => ?_) (fun h0 => ?_))
 ·have h0 : jc cs b = 0 := by simpa using h0
  exact ah ⟨by rw [eh, if_pos h0]; exact Sl.nil _ _, rfl⟩
 have h0 : jc cs b ≠ 0 := by simpa using h0
 have hne : b.stack ≠ [] := fun e => h0 (sX e)
 obtain ⟨l, x, hl⟩ := BH hne
 have hlen : b.stack.length = l.length + 1 := by rw [hl]; simp
 obtain ⟨a, s, k1, hs, k2, k3⟩ := oH (O := []) h.stack (i := l.length) (x := x) (by rw [hl]; exact d5 l x)
 have esub : ((b.stack.length : Int) - 1) = (l.length : Int) := by omega
 have etop := Ae hl
 refine ae (ae (ae ?_))
 refine ab _ slen ?_
 refine ab _ (za (by omega) (by omega)) ?_
 rw [esub]
 refine ab _ k1 (aL rfl (ap (k3 0 1 (by omega)) rfl ⟨rfl, trivial⟩ ?_))
 refine aC (Jx hk.base hli h hB hfit (by omega) x.player (jc cs b)) ?_
 rintro rv H2 _ ⟨hrv, rfl⟩ l2
 refine ⟨[rv], rfl, ⟨hrv.one, trivial⟩, ?_⟩
 exact ah ⟨by rw [eh, if_neg h0, etop]; exact hrv, rfl⟩
end Go.Proofs.YtieaihgbjikggaaGreat
