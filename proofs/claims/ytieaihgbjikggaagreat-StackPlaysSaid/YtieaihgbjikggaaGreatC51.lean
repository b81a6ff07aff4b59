/- Legal targets; light cards; lists that are equal. -/
import Derived.Test.YtieaihgbjikggaaGreatC48
import Derived.Test.YtieaihgbjikggaaGreatKT
import Derived.Test.YtieaihgbjikggaaGreatKN2
import Derived.Test.YtieaihgbjikggaaGreatM17
import Derived.Test.YtieaihgbjikggaaGreatC31
import Derived.Test.YtieaihgbjikggaaGreatC1
import Derived.Test.YtieaihgbjikggaaGreatC20
namespace Go.Proofs.YtieaihgbjikggaaGreat
open Go Go.Sx
set_option maxRecDepth 100000
set_option maxHeartbeats 1000000
theorem Nh (o p : Tg) : Ge PP (.eqv .eql ar false) [.agg o.row.toArray, .agg p.row.toArray] = some (.bool (o == p)) := by
 have e : Ge PP (.eqv .eql ar false) [.agg o.row.toArray, .agg p.row.toArray] = (Dt [o.id == p.id, o.player == p.player]).map fun b => .bool b := by kernel_rfl
 rw [e, oK]
 simp only [Option.map_some, Option.some.injEq, Value.bool.injEq]
 cases o; cases p
 rw [Bool.eq_iff_iff]
 simp
theorem DQ {l : List Tg} {i : Nat} (h : i < l.length) : (be l)[i]? = some l[i].row := by simp [be, h]
theorem wj (t : Tg) : Ones t.row := ⟨rfl, rfl, trivial⟩
theorem Lg {H : Heap} {O : Own} {v : Value} {l : List Tg} (h : Sl H 2 v (be l)) (t : Tg) : RetO PP dw [v, .agg t.row.toArray] H O (iV (fq (fun y => t == y) l 0)) := by
 refine gj (vs := v :: t.row) (by kernel_rfl) ⟨h.one, wj t⟩ ?_
 simp only [ce]
 have hlen : al .len [v] = some (iV l.length) := by have := h.len; rwa [aY] at this
 have hlB := h.lenB
 rw [aY] at hlB
 refine ah fun r0 => ?_
 refine ab _ hlen ?_
 refine aQ l.length (fun i H' O' => O' = O ∧ Heap.le H H' ∧ fq (fun y => t == y) l 0 = fq (fun y => t == y) (l.drop i) i) ⟨rfl, Heap.le_refl H, by simp⟩ ?_
 rintro i H' O' hi - ⟨rfl, hle, hor⟩
 refine ab _ (aC _ _) (ak (fun hb => ?_) (fun hb => ?_))
 ·have hlt : i < l.length := by simpa using hb
  obtain ⟨a, h1, h2, h3, h4⟩ := (h.le hle).idx (k := .i64) (DQ hlt)
  refine ae ?_
  refine ab _ h1 (d9 h2 h3 h4 ?_)
  refine pc (Nh t l[i]) (ak (fun hc => ?_) (fun hc => ?_))
  ·refine ai ⟨?_, rfl⟩
   rw [hor, List.drop_eq_getElem_cons hlt, fq, if_pos hc]; rfl
  ·refine ab _ (az (by omega)) (aJ (by simp [Eqs, E]) hlt ⟨rfl, hle, ?_⟩)
   rw [hor, List.drop_eq_getElem_cons hlt, fq, if_neg (by rw [hc]; simp)]; rfl
 ·have hge : l.length ≤ i := by simpa using hb
  refine ai ⟨?_, rfl⟩
  rw [hor, List.drop_of_length_le hge]; rfl
theorem FI {H : Heap} {O : Own} {v : Value} {l : List Tg} (h : Sl H 2 v (be l)) (t : Tg) : RetO PP cW [v, .agg t.row.toArray] H O (.bool (l.any fun y => t == y)) := by
 refine fj (vs := v :: t.row) (by kernel_rfl) ⟨h.one, wj t⟩ ?_
 simp only [bO]
 refine ah fun r0 => ?_
 refine ae ?_
 refine aj (Lg h t) rfl ⟨rfl, trivial⟩ fun H1 _ => ?_
 refine ab _ (du _ _) (ai ⟨?_, rfl⟩)
 rw [← wJ _ l 0 (by omega)]
def vx (cs : List Cd) (b : Bd) (p k : Int) (t : Tg) : Bool := (uK cs b p k).any fun y => t == y
theorem MN {H : Heap} {cv : Value} {cs : List Cd} (hk : CardsS H cv cs) (hli : dT cs = true) {v : dG} {b : Bd} (h : BdS H v b) (hst : b.stack.length ≤ 1000000) (p k : Int) (t : Tg) :
  RetO PP tZ [cv, .agg (aq v b).toArray, iV p, iV k, .agg t.row.toArray] H [] (.bool (vx cs b p k t)) := by
 refine xS (vs := cv :: (aq v b ++ (iV p :: iV k :: t.row))) (by kernel_rfl) ⟨hk.one, aL (au (h.r [])) ⟨rfl, rfl, wj t⟩⟩ ?_
 simp only [nQ]
 refine ah fun r0 => ah fun r1 => ?_
 refine ae (ae ?_)
 refine ay (ML hk hli h hst p k) ?_
 rintro x H1 _ ⟨hx, rfl⟩ l1
 refine ⟨[x], rfl, ⟨hx.one, trivial⟩, ?_⟩
 refine aj (FI hx t) rfl ⟨rfl, trivial⟩ fun H2 _ => ?_
 exact ai ⟨rfl, rfl⟩
theorem Me {H : Heap} {cv : Value} {cs : List Cd} (hk : CardsS H cv cs) (hli : dT cs = true) {v : dG} {b : Bd} (h : BdS H v b) (hB : bdB b) (hfit : Bk b) (hst : b.stack.length ≤ 1000000) (p k : Int) (t : Tg) :
  RetO PP lc [cv, .agg (aq v b).toArray, iV p, iV k, .agg t.row.toArray] H [] (.bool (vx cs b p k t)) := by
 refine qH (vs := cv :: (aq v b ++ (iV p :: iV k :: t.row))) (by kernel_rfl) ⟨hk.one, aL (au (h.r [])) ⟨rfl, rfl, wj t⟩⟩ ?_
 simp only [gI]
 refine ah fun r0 => ah fun r1 => ?_
 refine ae ?_
 refine ay (IS hk hli h hB hfit hst p k) ?_
 rintro x H1 _ ⟨hx, rfl⟩ l1
 refine ⟨[x], rfl, ⟨hx.one, trivial⟩, ?_⟩
 rw [vx]
 generalize uK cs b p k = l at hx
 have hlen : al .len [x] = some (iV l.length) := by have := hx.len; rwa [aY] at this
 have hlB := hx.lenB
 rw [aY] at hlB
 refine aQ l.length (fun i H' O' => O' = [] ∧ Heap.le H1 H' ∧ (l.any fun y => t == y) = ((l.drop i).any fun y => t == y)) ⟨rfl, Heap.le_refl _, by simp⟩ ?_
 rintro i H' O' hi - ⟨rfl, hle, hor⟩
 refine ab _ hlen ?_
 refine ab _ (aC _ _) (ak (fun hb => ?_) (fun hb => ?_))
 ·have hlt : i < l.length := by simpa using hb
  obtain ⟨a, h1, h2, h3, h4⟩ := (hx.le hle).idx (k := .i64) (DQ hlt)
  refine ab _ h1 (d9 h2 h3 h4 ?_)
  refine ae ?_
  have hcm : (t == l[i]) = (l[i] == t) := Bool.eq_iff_iff.2 (by rw [beq_iff_eq, beq_iff_eq]; exact eq_comm)
  refine pc (Nh l[i] t) (ak (fun hc => ?_) (fun hc => ?_))
  ·refine ai ⟨?_, rfl⟩
   rw [hor, List.drop_eq_getElem_cons hlt, List.any_cons, hcm, hc]; rfl
  ·refine ab _ (az (by omega)) (aJ (by simp [Eqs, E]) hlt ⟨rfl, hle, ?_⟩)
   rw [hor, List.drop_eq_getElem_cons hlt, List.any_cons, hcm, hc]; rfl
 ·have hge : l.length ≤ i := by simpa using hb
  refine ai ⟨?_, rfl⟩
  rw [hor, List.drop_of_length_le hge]; rfl
end Go.Proofs.YtieaihgbjikggaaGreat
namespace Go.Proofs.YtieaihgbjikggaaGreat
open Go Go.Sx
set_option maxRecDepth 100000
set_option maxHeartbeats 1000000
theorem Lb {H : Heap} (O : Own) {v : Value} {cs : List Cd} (h : CardsS H v cs) {i : Nat} (hi : i < cs.length) :
  ∃ a r, al (.idx 14) [v, iV i] = some (.pointer (some a)) ∧ CdR H r cs[i] ∧ Reads H O (aS (.pointer (some a)) 11) 1 [g r 11] ∧ Reads H O (aS (.pointer (some a)) 12) 1 [g r 12] := by
 obtain ⟨rows, h1, h2, h3⟩ := h
 have hlt : i < rows.length := by omega
 obtain ⟨a, k1, k2, k3, k4, k5⟩ := (h1.rsl O).idx .i64 i rows[i] (by simp [hlt])
 refine ⟨a, rows[i], k1, h3 i _ _ (List.getElem?_eq_getElem hlt) (List.getElem?_eq_getElem hi), ?_, ?_⟩
 ·have e : ((rows[i]).drop 11).take 1 = [g rows[i] 11] := by
   rw [g, List.getD_eq_getElem?_getD, List.getElem?_eq_getElem (by omega), List.drop_eq_getElem_cons (by omega)]; rfl
  rw [← e]; exact k3 11 1 (by omega)
 ·have e : ((rows[i]).drop 12).take 1 = [g rows[i] 12] := by
   rw [g, List.getD_eq_getElem?_getD, List.getElem?_eq_getElem (by omega), List.drop_eq_getElem_cons (by omega)]; rfl
  rw [← e]; exact k3 12 1 (by omega)
theorem Kf {H : Heap} (O : Own) {v : Value} {tr : List Nat} (h : TrigsS H v tr) {i : Nat} (hi : i < tr.length) :
  ∃ a r, al (.idx 2) [v, iV i] = some (.pointer (some a)) ∧ TrigR H r tr[i] ∧ Reads H O (aS (.pointer (some a)) 1) 1 [g r 1] := by
 obtain ⟨rows, h1, h2, h3⟩ := h
 have hlt : i < rows.length := by omega
 obtain ⟨a, k1, k2, k3, k4, k5⟩ := (h1.rsl O).idx .i64 i rows[i] (by simp [hlt])
 refine ⟨a, rows[i], k1, h3 i _ _ (List.getElem?_eq_getElem hlt) (List.getElem?_eq_getElem hi), ?_⟩
 have e : ((rows[i]).drop 1).take 1 = [g rows[i] 1] := by
  rw [g, List.getD_eq_getElem?_getD, List.getElem?_eq_getElem (by omega), List.drop_eq_getElem_cons (by omega)]; rfl
 rw [← e]; exact k3 1 1 (by omega)
theorem MI {H : Heap} {v : Value} {cs : List Cd} (h : CardsS H v cs) : RetO PP lB [v] H [] (.bool (dT cs)) := by
 refine qU (vs := [v]) (by kernel_rfl) ⟨h.one, trivial⟩ ?_
 simp only [gV]
 have hB : cs.length < 2 ^ 63 := by
  obtain ⟨rows, h1, h2, _⟩ := h
  have := h1.lenB; omega
 refine aQ cs.length (fun i H' O' => O' = [] ∧ Heap.le H H' ∧ i ≤ 13 ∧ ((cs.take i).all gE) = true) ⟨rfl, Heap.le_refl H, by omega, rfl⟩ ?_
 rintro i H' O' hi - ⟨rfl, hle, hi13, hor⟩
 replace h := h.le hle
 refine ab _ h.len ?_
 refine ab _ (aC _ _) ?_
 refine af ?_
 refine ab _ (aC _ _) ?_
 refine af ?_
 refine ab _ (bg _ _) (ak (fun hb => ?_) (fun hb => ?_))
 ·have hb : (decide ((i : Int) < (cs.length : Int)) && decide ((i : Int) < 13)) = true := hb
  rw [Bool.and_eq_true, decide_eq_true_eq, decide_eq_true_eq] at hb
  have hlt : i < cs.length := by omega
  have hl13 : i < 13 := by omega
  obtain ⟨a, r, k1, k2, k3, k4⟩ := Lb [] h hlt
  have hst : dT cs = false ∨ gE cs[i] = true := by
   cases hc : gE cs[i]
   ·refine .inl ?_
    rw [dT, Bool.and_eq_false_iff]
    refine .inl ?_
    rw [List.all_eq_false]
    exact ⟨cs[i], List.mem_take_iff_getElem.2 ⟨i, by omega, rfl⟩, by rw [hc]; simp⟩
   ·exact .inr rfl
  have hbad : ∀ {x : Bool}, gE cs[i] = false → x = false → (x = dT cs) := fun h1 h2 => by
   rcases hst with e | e
   ·rw [h2, e]
   ·rw [h1] at e; cases e
  refine ab _ k1 ?_
  refine aD rfl ?_
  refine ap k3 rfl ⟨k2.eff.one, trivial⟩ ?_
  refine ab _ k2.eff.len ?_
  refine ab _ (cZ _ _) ?_
  refine af (af ?_)
  refine ⟨.pointer (some a), fun _ => k1, .inr rfl, ?_⟩
  refine aD rfl (af (af ?_))
  refine ⟨[g r 12], rfl, ⟨k2.trig.one, trivial⟩, fun _ => k4, ?_⟩
  refine af ?_
  refine ab _ k2.trig.len ?_
  refine af ?_
  refine ab _ (cZ _ _) ?_
  refine af ?_
  refine ab _ (aO _ _) (ak (fun hc => ?_) (fun hc => ?_))
  ·have hc : (decide ((cs[i].tg.length : Int) > 5) || decide ((cs[i].tr.length : Int) > 3)) = true := hc
   refine ai ⟨?_, rfl⟩
   congr 1
   exact hbad (by rw [gE, hc]; rfl) rfl
  ·have hc : (decide ((cs[i].tg.length : Int) > 5) || decide ((cs[i].tr.length : Int) > 3)) = false := hc
   have hc3 : cs[i].tr.length ≤ 3 := by
    rw [Bool.or_eq_false_iff, decide_eq_false_iff_not, decide_eq_false_iff_not] at hc; omega
   refine aQ cs[i].tr.length (fun j H2 O2 => O2 = [] ∧ Heap.le H' H2 ∧ (cs[i].tr.all fun n => !decide ((n : Int) > 5)) = ((cs[i].tr.drop j).all fun n => !decide ((n : Int) > 5))) ⟨rfl, Heap.le_refl _, rfl⟩ ?_
   rintro j H2 O2 hj - ⟨rfl, hle2, hor2⟩
   refine ab _ k1 ?_
   refine aD rfl ?_
   refine ap (yC k4 hle2) rfl ⟨k2.trig.one, trivial⟩ ?_
   refine ab _ k2.trig.len ?_
   refine ab _ (aC _ _) (ak (fun hd => ?_) (fun hd => ?_))
   ·have hjlt : j < cs[i].tr.length := by simpa using hd
    obtain ⟨a2, r2, m1, m2, m3⟩ := Kf [] (k2.trig.le hle2) hjlt
    obtain ⟨er, m4, m5⟩ := m2
    have el : al .len [g r2 1] = some (iV cs[i].tr[j]) := by have := m4.len; rwa [m5] at this
    refine ab _ k1 ?_
    refine aD rfl ?_
    refine ap (yC k4 hle2) rfl ⟨k2.trig.one, trivial⟩ ?_
    refine ab _ m1 ?_
    refine aD rfl ?_
    refine ap m3 rfl ⟨m4.one, trivial⟩ ?_
    refine ab _ el ?_
    refine ab _ (cZ _ _) (ak (fun he => ?_) (fun he => ?_))
    ·have he : decide ((cs[i].tr[j] : Int) > 5) = true := he
     refine ai ⟨?_, rfl⟩
     congr 1
     exact hbad (by rw [gE, hor2, List.drop_eq_getElem_cons hjlt, List.all_cons, he]; simp) rfl
    ·have he : decide ((cs[i].tr[j] : Int) > 5) = false := he
     refine ab _ (az (by omega)) (aJ (by simp [Eqs, E]) hjlt ⟨rfl, hle2, ?_⟩)
     rw [hor2, List.drop_eq_getElem_cons hjlt, List.all_cons, he]; rfl
   ·have hjge : cs[i].tr.length ≤ j := by simpa using hd
    rw [List.drop_of_length_le hjge] at hor2
    refine ab _ (az (by omega)) (aJ (by simp [Eqs, E]) hlt ⟨rfl, Heap.le_trans hle hle2, by omega, ?_⟩)
    rw [List.take_add_one, List.getElem?_eq_getElem hlt, List.all_append, hor]
    simp only [Option.toList_some, List.all_cons, List.all_nil, Bool.and_true, Bool.true_and]
    rw [gE, hc, hor2]; rfl
 ·have hb : (decide ((i : Int) < (cs.length : Int)) && decide ((i : Int) < 13)) = false := hb
  rw [Bool.and_eq_false_iff, decide_eq_false_iff_not, decide_eq_false_iff_not] at hb
  refine ab _ h.len ?_
  refine ab _ (eB _ _) (ai ⟨?_, rfl⟩)
  congr 1
  rw [dT]
  rcases hb with hb | hb
  ·have e1 : cs.take i = cs := List.take_of_length_le (by omega)
   have e2 : cs.take 13 = cs := List.take_of_length_le (by omega)
   rw [e1] at hor
   rw [e2, hor, Bool.true_and]
  ·obtain rfl : i = 13 := by omega
   rw [hor, Bool.true_and]
end Go.Proofs.YtieaihgbjikggaaGreat
namespace Go.Proofs.YtieaihgbjikggaaGreat
open Go Go.Sx
set_option maxRecDepth 100000
set_option maxHeartbeats 1000000
theorem MM {H : Heap} {v : Value} {tg : List Int} (h : EffsS H v tg) (hb : tg.length ≤ 1000000) : Triple PP tY [v] H [] fun r _ O' => OSl dF 1 r (aG (dk tg)) O' := by
 refine xR (vs := [v]) (by kernel_rfl) ⟨h.one, trivial⟩ ?_
 simp only [nP]
 refine ab _ h.len ?_
 refine dc tg.length (fun i x H' O' => Heap.le H H' ∧ OSl dF 1 x (aG (dk (tg.take i))) O') ⟨Heap.le_refl _, OSl.nil _ _⟩ ?_
 rintro i x H' O' hi - ⟨hle, hx⟩
 refine ab _ (aC _ _) (ak (fun hb => ?_) (fun hb => ?_))
 ·have hlt : i < tg.length := by simpa using hb
  obtain ⟨a, r, k1, k2, k3, k4, k5, _⟩ := Fy (O := O') (h.le hle) hlt
  have hft := eJ (p := fun t : Int => t != 0) hlt
  refine ab _ k1 (ap (ep k2) k3 k4 (ah fun r0 => ?_))
  refine ae (ae ?_)
  rw [k5]
  refine ab _ (bG _ _) ?_
  refine ak (fun hc => ?_) (fun hc => ?_)
  ·have hc : (tg[i] != 0) = true := hc
   have hlen : (dk (tg.take i)).length ≤ 1000000 := by rw [dk]; exact Nat.le_trans (List.length_filter_le _ _) (by rw [List.length_take]; omega)
   refine ae ?_
   refine ah fun r2 => ?_
   refine aA (rows := aG (dk (tg.take i))) (news := [[iV tg[i]]]) (O1 := O') (O2 := []) (e := dF) (size := 1) (bytes := 8) (by kernel_rfl) (by simp) hx (fun Hf _ hf => Sl.block1 (hf _ List.mem_cons_self) rfl ⟨rfl, trivial⟩) (by rw [aG, List.length_map, List.length_singleton]; omega) (by rw [aG, List.length_map, List.length_singleton]; omega) ?_
   intro v' A' H6 l6 hA'
   refine ab _ (az (by omega)) (aR (by simp [Eqs]) hlt ⟨Heap.le_trans hle l6, ?_⟩)
   rw [List.append_nil, dk, hft, if_pos hc, aG, List.map_append]; exact hA'
  ·have hc : (tg[i] != 0) = false := hc
   refine ab _ (az (by omega)) (aR (by simp [Eqs]) hlt ⟨hle, ?_⟩)
   rw [dk, hft, if_neg (by rw [hc]; simp), List.append_nil]; exact hx
 ·have hge : tg.length ≤ i := by simpa using hb
  rw [List.take_of_length_le hge] at hx
  exact ai hx
end Go.Proofs.YtieaihgbjikggaaGreat
namespace Go.Proofs.YtieaihgbjikggaaGreat
open Go Go.Sx
set_option maxRecDepth 100000
set_option maxHeartbeats 1000000
theorem Li {cs : List Cd} {b : Bd} {p x : Int} : x ∈ vP cs b p ↔ x ∈ qz cs b p ∨ x ∈ qz cs b (1 - p) := by
 rw [vP, (s8 _).mem_iff, List.mem_append]
end Go.Proofs.YtieaihgbjikggaaGreat
namespace Go.Proofs.YtieaihgbjikggaaGreat
open Go Go.Sx
set_option maxRecDepth 100000
set_option maxHeartbeats 1000000
theorem Ee : ∀ {l : List (Int × Int)} {a p : Int}, (l.map (·.1)).Nodup → (a, p) ∈ l → l.Perm ((a, p) :: l.filter fun q => q.1 != a)
 | [], _, _, _, h => by simp at h
 | q :: l, a, p, hn, h => by
  rw [List.map_cons, List.nodup_cons] at hn
  rcases List.mem_cons.1 h with rfl | h
  ·have e : l.filter (fun q => q.1 != a) = l := by
    rw [List.filter_eq_self]
    intro x hx
    simp only [bne_iff_ne, ne_eq]
    rintro rfl
    exact hn.1 (List.mem_map.2 ⟨x, hx, rfl⟩)
   rw [List.filter_cons, if_neg (by simp), e]
  ·have hne : q.1 ≠ a := fun e => hn.1 (List.mem_map.2 ⟨(a, p), h, e.symm⟩)
   rw [List.filter_cons, if_pos (by simpa using hne)]
   exact ((Ee hn.2 h).cons q).trans (List.Perm.swap _ _ _)
theorem Eh (s : St) (id p : Int) : bK (KB s id) p = (bK s p).filter fun q => q.1 != id := by
 simp only [bK, KB, bS, List.filter_map, List.filter_append, List.map_append, Function.comp_def]
theorem EP (l : List It) (id : Int) : bh (l.filter fun x => !mQ id x) = (bh l).filter fun x => x.id != id := by
 rw [bh, bh, List.filter_filter, List.filter_filter]
 refine List.filter_congr fun x _ => ?_
 simp only [mQ]
 cases decide (x.trig < 0)
 ·simp
 ·simp [bne]
theorem I7 (l : List It) (id : Int) : cG (l.filter fun x => !mQ id x) = (cG l).filter fun q => q.1 != id := by
 rw [cG, cG, EP, List.filter_map]; rfl
theorem HI (l : List It) (id : Int) : aX (l.filter fun x => !mQ id x) = (aX l).filter fun q => q.1 != id := by
 rw [aX, aX, EP, List.filter_map]; rfl
theorem Hj (b : Bd) (id : Int) : aM (nb b id) = (aM b).filter fun q => q.1 != id := by
 have e0 : (nb b id).s0 = KB b.s0 id := rfl
 have e1 : (nb b id).s1 = KB b.s1 id := rfl
 have e2 : (nb b id).stack = b.stack.filter fun x => !mQ id x := rfl
 rw [aM, aM, e0, e1, e2, Eh, Eh, I7, List.filter_append, List.filter_append]
theorem Eg (s : St) {z : Int} (hz : z = 0 ∨ z = 1 ∨ z = 2 ∨ z = 3) (id p : Int) : (bK (Fd s z id) p).Perm ((id, p) :: bK s p) := by
 have key : ∀ {a b c d : List Int}, (a ++ ([id] ++ (b ++ (c ++ d)))).Perm (id :: (a ++ (b ++ (c ++ d)))) := fun {a b c d} => List.perm_middle
 rcases hz with rfl | rfl | rfl | rfl
 ·have e : (Fd s 0 id) = { s with lib := s.lib ++ [id] } := rfl
  rw [e, bK, bK, ← List.map_cons (f := fun i => (i, p))]
  refine List.Perm.map _ ?_
  show (s.lib ++ [id] ++ (s.hand ++ (s.field ++ s.grave))).Perm _
  rw [List.append_assoc]; exact List.perm_middle
 ·have e : (Fd s 1 id) = { s with hand := s.hand ++ [id] } := rfl
  rw [e, bK, bK, ← List.map_cons (f := fun i => (i, p))]
  refine List.Perm.map _ ?_
  show (s.lib ++ (s.hand ++ [id] ++ (s.field ++ s.grave))).Perm _
  rw [List.append_assoc, ← List.append_assoc s.lib]
  refine List.perm_middle.trans ?_
  rw [List.append_assoc]
  exact List.Perm.refl _
 ·have e : (Fd s 2 id) = { s with field := s.field ++ [id] } := rfl
  rw [e, bK, bK, ← List.map_cons (f := fun i => (i, p))]
  refine List.Perm.map _ ?_
  show (s.lib ++ (s.hand ++ (s.field ++ [id] ++ s.grave))).Perm _
  rw [List.append_assoc, ← List.append_assoc s.hand, ← List.append_assoc s.lib]
  refine List.perm_middle.trans ?_
  rw [List.append_assoc, List.append_assoc]
  exact List.Perm.refl _
 ·have e : (Fd s 3 id) = { s with grave := s.grave ++ [id] } := rfl
  rw [e, bK, bK, ← List.map_cons (f := fun i => (i, p))]
  refine List.Perm.map _ ?_
  show (s.lib ++ (s.hand ++ (s.field ++ (s.grave ++ [id])))).Perm _
  rw [← List.append_assoc, ← List.append_assoc, ← List.append_assoc]
  refine List.perm_append_comm.trans ?_
  show (id :: _).Perm _
  rw [List.append_assoc, List.append_assoc]
  exact List.Perm.refl _
theorem Hi (b : Bd) {p : Int} (hp : p = 0 ∨ p = 1) {z : Int} (hz : z = 0 ∨ z = 1 ∨ z = 2 ∨ z = 3) (id : Int) : (aM (oS b p z id)).Perm ((id, p) :: aM b) := by
 rcases hp with rfl | rfl
 ·exact (Eg b.s0 hz id 0).append_right _
 ·refine List.Perm.trans ((((Eg b.s1 hz id 1).append_right _).append_left _)) ?_
  exact List.perm_middle
theorem Fn {l : List (Int × Int)} {id x v : Int} (h : cw (l.filter fun q => q.1 != id) x = some v) : cw l x = some v := by
 induction l with
 | nil => exact h
 | cons q l ih =>
  by_cases hq : q.1 = id
  ·rw [List.filter_cons, if_neg (by simp [hq])] at h
   have h2 := ih h
   have hx : x ≠ id := by
    rintro rfl
    have : cw (l.filter fun q => q.1 != x) x = none := by
     rw [fg]
     intro hm
     obtain ⟨y, hy, e⟩ := List.mem_map.1 hm
     have := (List.mem_filter.1 hy).2
     simp [e] at this
    rw [this] at h; cases h
   have hne : (x == q.1) = false := by rw [hq]; simpa using hx
   simp only [cw, List.find?_cons, hne] at h2 ⊢
   exact h2
  ·rw [List.filter_cons, if_pos (by simpa using hq)] at h
   simp only [cw, List.find?_cons] at h ih ⊢
   cases hxq : (x == q.1)
   ·rw [hxq] at h
    exact ih h
   ·rw [hxq] at h
    exact h
theorem Ec {b c : Bd} (h : bz bd b = true) (hp : (aM b).Perm (aM c)) (ho : c.objs = b.objs) (hc : ∀ x v, cw (aX c.stack) x = some v → cw (aX b.stack) x = some v) : bz bd c = true := by
 obtain ⟨p1, p2, p3⟩ := eE h
 have hn := eA h
 rw [← ji] at hn
 simp only [bz, Bool.and_eq_true, decide_eq_true_eq, mj, ho]
 refine ⟨(hp.map _).nodup_iff.1 hn, ⟨p1, ?_⟩, by rw [← hp.length_eq]; exact p3⟩
 rw [List.all_eq_true] at p2 ⊢
 intro o hm
 have h1 := p2 o hm
 simp only [ok1, Bool.and_eq_true] at h1 ⊢
 rw [← wE hn hp]
 refine ⟨h1.1, h1.2.1, h1.2.2.1, ?_⟩
 have h2 := h1.2.2.2
 cases e : cw (aX c.stack) o.id with
 | none => rfl
 | some v => rw [hc _ _ e] at h2; exact h2
theorem FQ {att other att' other' : List Int} {id : Int} (ha : ∀ y ∈ att, y ≠ id → y ∈ att') (ho : ∀ y ∈ other, y ≠ id → y ∈ other') :
  ∀ {bl : List Bl} {ua ub ua' ub' : List Int}, (∀ y ∈ ua', y ∈ ua) → (∀ y ∈ ub', y ∈ ub) → uE att other ua ub bl = true → uE att' other' ua' ub' (bl.filter fun x => !eh id x) = true
 | [], _, _, _, _, _, _, _ => rfl
 | x :: bl, ua, ub, ua', ub', h1, h2, h => by
  simp only [uE, Bool.and_eq_true, Bool.not_eq_true', List.contains_iff_mem, ← Bool.not_eq_true] at h
  obtain ⟨⟨⟨q1, q2⟩, q3, q4⟩, q5⟩ := h
  by_cases hx : eh id x = true
  ·rw [List.filter_cons, if_neg (by simp [hx])]
   exact FQ ha ho (fun y hy => List.mem_cons_of_mem _ (h1 y hy)) (fun y hy => List.mem_cons_of_mem _ (h2 y hy)) q5
  ·rw [List.filter_cons, if_pos (by simpa using hx)]
   simp only [eh, Bool.or_eq_true, beq_iff_eq, not_or] at hx
   simp only [uE, Bool.and_eq_true, Bool.not_eq_true', List.contains_iff_mem, ← Bool.not_eq_true]
   refine ⟨⟨⟨fun hy => q1 (h1 _ hy), ha _ q2 hx.2⟩, fun hy => q3 (h2 _ hy), ho _ q4 hx.1⟩, ?_⟩
   refine FQ ha ho (fun y hy => ?_) (fun y hy => ?_) q5
   ·rcases List.mem_cons.1 hy with rfl | hy
    ·exact List.mem_cons_self
    ·exact List.mem_cons_of_mem _ (h1 y hy)
   ·rcases List.mem_cons.1 hy with rfl | hy
    ·exact List.mem_cons_self
    ·exact List.mem_cons_of_mem _ (h2 y hy)
theorem up {l : List Int} {id y : Int} : y ∈ bS l id ↔ y ∈ l ∧ y ≠ id := by rw [bS, List.mem_filter, bne_iff_ne]
theorem Aa {own other own' other' att : List Int} {bl : List Bl} {id : Int} (ha : ∀ y ∈ own, y ≠ id → y ∈ own') (ho : ∀ y ∈ other, y ≠ id → y ∈ other') (h : jj own other att bl = true) :
  jj own' other' (bS att id) (bl.filter fun x => !eh id x) = true := by
 simp only [jj, Bool.and_eq_true, decide_eq_true_eq, List.all_eq_true, List.contains_iff_mem] at h ⊢
 refine ⟨h.1.filter _, fun x hx => ?_, FQ (fun y hy hne => up.2 ⟨hy, hne⟩) ho (fun _ h => h) (fun _ h => h) h.2.2⟩
 obtain ⟨h1, h2⟩ := up.1 hx
 exact ha x (h.2.1 x h1) h2
theorem BO {b : Bd} {k : Nat} {o : Ob} {z : Int} (ho : o.owner = 0 ∨ o.owner = 1) (hz : z = 0 ∨ z = 1 ∨ z = 2 ∨ z = 3) {q : Int} (hq : q = 0 ∨ q = 1) (y : Int) :
  y ∈ (dt (gq b k o z) q).field ↔ (y ∈ (dt b q).field ∧ y ≠ o.id) ∨ (y = o.id ∧ z = 2 ∧ q = o.owner) := by
 rw [gq]
 generalize o.id = id
 rcases ho with h | h <;> rw [h] <;> rcases hq with rfl | rfl <;> rcases hz with rfl | rfl | rfl | rfl <;> simp [oS, cM, dt, Fd, dD, nb, KB, up]
theorem Eo {b : Bd} {k : Nat} {o : Ob} {z : Int} : (gq b k o z).objs = b.objs.set k o := by
 rw [gq, oS, cM]; split <;> rfl
theorem wD {b : Bd} {k : Nat} {o : Ob} {z : Int} : (gq b k o z).stack = b.stack.filter fun x => !mQ o.id x := by
 rw [gq, oS, cM]; split <;> rfl
theorem Hp {b : Bd} {k : Nat} {o : Ob} {z : Int} : bE (gq b k o z).s0 = bE b.s0 ∧ bE (gq b k o z).s1 = bE b.s1 := by
 have hz : ∀ (s : St) (id : Int), bE (Fd s z id) = bE s := fun s id => by
  rw [Fd]
  split
  ·rfl
  split
  ·rfl
  split
  ·rfl
  split
  ·rfl
  ·rfl
 rw [gq, oS, cM]
 split
 ·rename_i h
  refine ⟨?_, rfl⟩
  show bE (Fd (dt (dD (nb b o.id) k o) o.owner) z o.id) = _
  rw [hz, dt, if_pos h]; rfl
 ·rename_i h
  refine ⟨rfl, ?_⟩
  show bE (Fd (dt (dD (nb b o.id) k o) o.owner) z o.id) = _
  rw [hz, dt, if_neg h]; rfl
theorem Ji {b : Bd} {k : Nat} {o : Ob} {z : Int} : (gq b k o z).att = bS b.att o.id ∧ (gq b k o z).blocks = b.blocks.filter (fun x => !eh o.id x) ∧ (gq b k o z).active = b.active ∧ (gq b k o z).turn = b.turn ∧ (gq b k o z).phase = b.phase ∧ (gq b k o z).holder = b.holder ∧ (gq b k o z).passes = b.passes ∧ (gq b k o z).queue = b.queue := by
 rw [gq, oS, cM]; split <;> exact ⟨rfl, rfl, rfl, rfl, rfl, rfl, rfl, rfl⟩
theorem Ho {b : Bd} (h : ax b = true) {k : Nat} {o : Ob} (hk : b.objs[k]? = some o) {z : Int} (hz : z = 0 ∨ z = 1 ∨ z = 2 ∨ z = 3) : ax (gq b k (bD o z) z) = true := by
 have hpl := (aN h).1
 obtain ⟨hvo, hmem, _, hown⟩ := cH hpl hk
 generalize hob : bD o z = o'
 have i1 : o'.id = o.id := by rw [← hob]; rfl
 have i2 : o'.owner = o.owner := by rw [← hob]; rfl
 have i3 : o'.card = o.card := by rw [← hob]; rfl
 have hvo' : bd o' = true := by rw [← hob]; exact xi z hvo
 have hown' : o'.owner = 0 ∨ o'.owner = 1 := by rw [i2]; exact hown
 have hset := BB hpl hk i1 i2 i3 hvo'
 obtain ⟨r1, r2, r3, r4, r5, r6, r7, r8⟩ := Ji (b := b) (k := k) (o := o') (z := z)
 obtain ⟨s0, s1⟩ := Hp (b := b) (k := k) (o := o') (z := z)
 have hplm : bz bd (gq b k o' z) = true := by
  refine Ec hset ?_ Eo fun x v hx => ?_
  ·have hn := eA hpl
   rw [← ji] at hn
   have e : aM (dD (nb b o'.id) k o') = (aM b).filter fun q => q.1 != o'.id := by rw [show aM (dD (nb b o'.id) k o') = aM (nb b o'.id) from rfl, Hj]
   have p1 := Ee hn hmem
   have p2 := Hi (dD (nb b o'.id) k o') hown' hz o'.id
   rw [e, i1, i2] at p2
   rw [gq, i1, i2]
   exact p1.trans p2.symm
  ·rw [wD, HI] at hx
   exact Fn hx
 have hf : eK (gq b k o' z) = true := by
  have h0 := (aN h).2.1
  have f0 : ∀ y ∈ b.s0.field, y ≠ o'.id → y ∈ (gq b k o' z).s0.field := fun y hy hne => (BO (b := b) (k := k) hown' hz (q := 0) (.inl rfl) y).2 (.inl ⟨hy, hne⟩)
  have f1 : ∀ y ∈ b.s1.field, y ≠ o'.id → y ∈ (gq b k o' z).s1.field := fun y hy hne => (BO (b := b) (k := k) hown' hz (q := 1) (.inr rfl) y).2 (.inl ⟨hy, hne⟩)
  rw [eK] at h0 ⊢
  rw [r1, r2, r3]
  split
  ·rename_i ha
   rw [if_pos ha] at h0
   exact Aa f0 f1 h0
  ·rename_i ha
   rw [if_neg ha] at h0
   exact Aa f1 f0 h0
 have hlen : (gq b k o' z).objs.length = b.objs.length := by rw [Eo, List.length_set]
 have hsl : (gq b k o' z).stack.length ≤ b.stack.length := by rw [wD]; exact List.length_filter_le _ _
 have hany : ((gq b k o' z).stack.any fun x => !cd x false) = false := by
  rw [List.any_eq_false]
  intro x hx
  rw [wD] at hx
  have h4 := (aN h).2.2.2
  rw [List.all_eq_true] at h4
  rw [h4 x (List.mem_filter.1 hx).1]; simp
 simp only [ax, tN, Bool.and_eq_true, Bool.not_eq_true', Bool.or_eq_false_iff, decide_eq_false_iff_not] at h ⊢
 obtain ⟨a1, a2, a3, a4, ⟨⟨⟨a5, a6⟩, a7⟩, a8⟩, a9, a10, a11, a12, a13⟩ := h
 rw [r3, r4, r5, r6, r7, r8, hlen, s0, s1]
 exact ⟨a1, a2, a3, a4, ⟨⟨⟨a5, a6⟩, by omega⟩, a8⟩, a9, a10, hany, a12, hplm, hf⟩
theorem oG : ∀ {l m : List Int}, l.Nodup → (∀ x ∈ l, x ∈ m) → l.length ≤ m.length
 | [], _, _, _ => Nat.zero_le _
 | a :: l, m, h, hs => by
  rw [List.nodup_cons] at h
  have ha := hs a List.mem_cons_self
  have ih := oG (m := m.erase a) h.2 fun x hx => (List.mem_erase_of_ne (fun e => by rw [e] at hx; exact h.1 hx)).2 (hs x (List.mem_cons_of_mem _ hx))
  rw [List.length_erase_of_mem ha] at ih
  have := List.length_pos_of_mem ha
  rw [List.length_cons]; omega
section
variable {cs : List Cd} {b : Bd} (h : ax b = true) {k : Nat} {o : Ob} (hk : b.objs[k]? = some o) {z : Int} (hz : z = 0 ∨ z = 1 ∨ z = 2 ∨ z = 3)
include h hk hz
end
end Go.Proofs.YtieaihgbjikggaaGreat
namespace Go.Proofs.YtieaihgbjikggaaGreat
open Go Go.Sx
set_option maxRecDepth 100000
set_option maxHeartbeats 1000000
theorem Nf (H : Heap) : CdRX H DL N4 := ⟨rfl, Sl.nil H 5, ⟨[], Sl.nil H 2, rfl, fun i r t h => by simp at h⟩⟩
theorem Et {H : Heap} {v : Value} {cs : List CdX} (h : CardsX H v cs) (c : Int) (hn : ¬ (c < 0 ∨ c ≥ (cs.length : Int))) :
  ∃ a r, al (.idx 14) [v, iV c] = some (.pointer (some a)) ∧ H.read (.pointer (some a)) 14 = some r ∧ r.length = 14 ∧ Ones r ∧ CdRX H r (cdX cs c) := by
 obtain ⟨rows, h1, h2, h3⟩ := h
 have hlt : c.toNat < rows.length := by omega
 obtain ⟨a, k1, k2, k3, k4⟩ := h1.idx (k := .i64) (i := c.toNat) (List.getElem?_eq_getElem hlt)
 have hk : cs[c.toNat]? = some (cdX cs c) := by
  rw [cdX, if_neg hn, List.getD_eq_getElem?_getD, List.getElem?_eq_getElem (by omega)]; rfl
 refine ⟨a, _, ?_, k2, k3, k4, h3 c.toNat _ _ (List.getElem?_eq_getElem hlt) hk⟩
 rw [show iV c = iV (c.toNat : Int) by rw [Int.toNat_of_nonneg (by omega)]]; exact k1
def NU (cs : List CdX) (c : Int) (v : Value) (H : Heap) : Prop := ∃ cells : List Value, v = .agg cells.toArray ∧ cells.length = 14 ∧ Ones cells ∧ CdRX H cells (cdX cs c)
theorem MG {H : Heap} {O : Own} {v : Value} {cs : List CdX} (h : CardsX H v cs) (o : Ob) : Triple PP lS [v, .agg o.row.toArray] H O fun r H' O' => NU cs o.card r H' ∧ O' = O := by
 refine md (vs := v :: o.row) (by kernel_rfl) ⟨h.one, cO o⟩ ?_
 simp only [ju]
 refine ah fun r0 => ah fun r1 => ?_
 refine ae ?_
 refine ab _ (aC _ _) ?_
 refine ae (af (af ?_))
 refine ab _ h.len ?_
 refine af (af (ab _ (eB _ _) (af (ab _ (aO _ _) ?_))))
 refine ak (fun hb => ?_) (fun hb => ?_)
 ·have hb : (decide (o.card < 0) || decide (o.card ≥ (cs.length : Int))) = true := hb
  refine ae (ae ?_)
  refine ai ⟨⟨DL, rfl, rfl, ⟨rfl, rfl, rfl, rfl, rfl, rfl, rfl, rfl, rfl, rfl, rfl, rfl, rfl, rfl, trivial⟩, ?_⟩, rfl⟩
  rw [cdX, if_pos (by simpa using hb)]; exact Nf H
 ·have hb : (decide (o.card < 0) || decide (o.card ≥ (cs.length : Int))) = false := hb
  obtain ⟨a, r, k1, k2, k3, k4, k5⟩ := Et h o.card (by simpa [Bool.or_eq_false_iff] using hb)
  refine ae ?_
  refine ab _ k1 (ap (ep k2) k3 k4 ?_)
  refine ae (ae ?_)
  exact ai ⟨⟨r, by rw [← yc k3]; rfl, k3, k4, k5⟩, rfl⟩
theorem Mf {H : Heap} {O : Own} {v : Value} {cs : List CdX} (h : CardsX H v cs) (o : Ob) : Triple PP eV [v, .agg o.row.toArray] H O fun r H' O' => NU cs o.card r H' ∧ O' = O := by
 refine fQ (vs := v :: o.row) (by kernel_rfl) ⟨h.one, cO o⟩ ?_
 simp only [dK]
 refine ah fun r0 => ah fun r1 => ?_
 refine ae ?_
 refine ab _ (aC _ _) ?_
 refine ae (af (af ?_))
 refine ab _ h.len ?_
 refine af (af (ab _ (eB _ _) (af (ab _ (aO _ _) ?_))))
 refine ak (fun hb => ?_) (fun hb => ?_)
 ·have hb : (decide (o.card < 0) || decide (o.card ≥ (cs.length : Int))) = true := hb
  refine ae (ae ?_)
  refine ai ⟨⟨DL, rfl, rfl, ⟨rfl, rfl, rfl, rfl, rfl, rfl, rfl, rfl, rfl, rfl, rfl, rfl, rfl, rfl, trivial⟩, ?_⟩, rfl⟩
  rw [cdX, if_pos (by simpa using hb)]; exact Nf H
 ·have hb : (decide (o.card < 0) || decide (o.card ≥ (cs.length : Int))) = false := hb
  obtain ⟨a, r, k1, k2, k3, k4, k5⟩ := Et h o.card (by simpa [Bool.or_eq_false_iff] using hb)
  refine ae ?_
  refine ab _ k1 (ap (ep k2) k3 k4 ?_)
  refine ae (ae ?_)
  exact ai ⟨⟨r, by rw [← yc k3]; rfl, k3, k4, k5⟩, rfl⟩
def OB (v : Value) (trs : List (List Eff)) (O : Own) : Prop := ∃ rows A Ts, O.Perm (A ++ List.flatten Ts) ∧ OSl fh 2 v rows A ∧ rows.length = trs.length ∧ Ts.length = trs.length ∧
 ∀ (i : Nat) (r : List Value) (l : List Eff) (T : Own), rows[i]? = some r → trs[i]? = some l → Ts[i]? = some T → OSl dW 5 (g r 1) (jG l) T
def NX (c : CdX) (v : Value) (O : Own) : Prop := ∃ (cells : List Value) (A B : Own), v = .agg cells.toArray ∧ cells.length = 14 ∧ Ones cells ∧ g cells 1 = iV c.kind ∧ OSl dW 5 (g cells 11) (jG c.effs) A ∧ OB (g cells 12) c.trs B ∧ O.Perm (A ++ B)
theorem FN {H : Heap} {cells : List Value} {c : CdX} (h : CdRX H cells c) (hl : cells.length = 14) (ho : Ones cells) (hli : gE c.base = true) :
  Triple PP uM [.agg cells.toArray] H [] fun r _ O' => NX c r O' := by
 simp only [gE, CdX.base, Bool.and_eq_true, Bool.not_eq_true', Bool.or_eq_false_iff, decide_eq_false_iff_not, List.all_eq_true, List.length_map, List.mem_map, forall_exists_index, and_imp, forall_apply_eq_imp_iff₂] at hli
 obtain ⟨⟨b1, b2⟩, b3⟩ := hli
 obtain ⟨hk, he, ⟨trows, t1, t2, t3⟩⟩ := h
 refine u6 (vs := cells) (by rw [← yc hl]; kernel_rfl) ho ?_
 simp only [qk]
 refine ah fun r0 => ah fun r1 => ?_
 refine ae (ae ?_)
 refine ay (yQ he (by rw [wO]; omega)) fun x H1 O1 hx l1 => ⟨[x], rfl, ⟨hx.one, trivial⟩, ?_⟩
 refine ay (GI (t1.le l1) (by omega)) fun y H2 O2 hy l2 => ⟨[y], rfl, ⟨hy.one, trivial⟩, ?_⟩
 have ylen := hy.len
 rw [t2] at ylen
 refine ae (ae (ae ?_))
 refine ab _ ylen ?_
 refine aQ c.trs.length (fun i H' O' => Heap.le H2 H' ∧ ∃ rows' A Ts, O'.Perm (A ++ (List.flatten Ts ++ O1)) ∧ OSl fh 2 y rows' A ∧ rows'.length = c.trs.length ∧ Ts.length = i ∧
  (∀ (j : Nat) (r : List Value) (l : List Eff) (T : Own), rows'[j]? = some r → c.trs[j]? = some l → Ts[j]? = some T → OSl dW 5 (g r 1) (jG l) T) ∧ ∀ j, i ≤ j → rows'[j]? = trows[j]?)
  ⟨Heap.le_refl _, trows, O2, [], by simp, hy, t2, rfl, fun j r l T _ _ h => by simp at h, fun _ _ => rfl⟩ ?_
 rintro i H' O' hi - ⟨hle, rows', A, Ts, hp, hA, hrl, htl, hspec, hrest⟩
 refine ab _ (aC _ _) (ak (fun hb => ?_) (fun hb => ?_))
 ·have hlt : i < c.trs.length := by simpa using hb
  have hri : rows'[i]? = some trows[i] := by rw [hrest i (Nat.le_refl _)]; exact List.getElem?_eq_getElem (by omega)
  have k1 := t3 i trows[i] c.trs[i] (List.getElem?_eq_getElem (by omega)) (List.getElem?_eq_getElem hlt)
  have hb3 := b3 _ (List.getElem_mem hlt)
  obtain ⟨a, i1, i2, i3, i4⟩ := hA.idx (fun p h => hp.mem_iff.2 (List.mem_append_left _ h)) H' (k := .i64) hri
  obtain ⟨w1, w2⟩ := hA.rows_ok hri
  refine ab _ i1 (ap i3 w1 w2 (ah fun r2 => ?_))
  refine ae (ae (ae ?_))
  refine ay (yQ (k1.le (Heap.le_trans l1 (Heap.le_trans l2 hle))) (by rw [wO]; omega)) fun z H3 T hz l3 => ⟨[z], rfl, ⟨hz.one, trivial⟩, ?_⟩
  have hp2 : (T ++ O').Perm (A ++ (T ++ (List.flatten Ts ++ O1))) := (hp.append_left T).trans (List.perm_append_comm_assoc _ _ _)
  obtain ⟨a2, j1, j2⟩ := hA.store hp2 (k := .i64) hri
  obtain ⟨A', hst, hA'⟩ := j2 1 [z] (by simp [w1]) ⟨hz.one, trivial⟩
  have hsp : g (ct trows[i] 1 [z]) 1 = z := by
   match hm : trows[i], w1 with
   | [_, _], _ => rfl
  refine ab _ j1 ?_
  refine aD rfl (aD rfl ?_)
  refine ⟨_, hst, ?_⟩
  refine ab _ (az (by omega)) (aJ (by simp [Eqs]) hlt ⟨Heap.le_trans hle l3, _, A', Ts ++ [T], ?_, hA', by simp [hrl], by simp [htl], ?_, ?_⟩)
  ·refine List.Perm.append_left A' ?_
   rw [List.flatten_append, ← List.append_assoc]
   refine List.Perm.append_right O1 ?_
   simpa using List.perm_append_comm
  ·intro j r x T' h1 h2 h3
   by_cases hj : j = i
   ·subst hj
    rw [List.getElem?_set_self (by omega)] at h1
    rw [List.getElem?_eq_getElem hlt] at h2
    rw [List.getElem?_append_right (by omega), htl, Nat.sub_self] at h3
    simp only [Option.some.injEq, List.getElem?_cons_zero] at h1 h2 h3
    subst h1; subst h2; subst h3
    rw [hsp]; exact hz
   ·rw [List.getElem?_set_ne (by omega)] at h1
    have hjlt : j < Ts.length := by
     have := (List.getElem?_eq_some_iff.1 h3).1
     simp at this; omega
    rw [List.getElem?_append_left hjlt] at h3
    exact hspec j r x T' h1 h2 h3
  ·intro j hj
   rw [List.getElem?_set_ne (by omega)]
   exact hrest j (by omega)
 ·have hie : i = c.trs.length := by
   have : ¬ ((i : Int) < (c.trs.length : Int)) := by simpa using hb
   omega
  subst hie
  refine ae (ae (ae ?_))
  refine ai ⟨[g cells 0, g cells 1, g cells 2, g cells 3, g cells 4, g cells 5, g cells 6, g cells 7, g cells 8, g cells 9, g cells 10, x, y, g cells 13], O1, A ++ List.flatten Ts, rfl, rfl, ?_, hk, hx, ⟨rows', A, Ts, List.Perm.refl _, hA, hrl, htl, hspec⟩, ?_⟩
  ·exact ⟨dj ho (by omega), dj ho (by omega), dj ho (by omega), dj ho (by omega), dj ho (by omega), dj ho (by omega), dj ho (by omega), dj ho (by omega), dj ho (by omega), dj ho (by omega), dj ho (by omega), hx.one, hy.one, dj ho (by omega), trivial⟩
  ·refine hp.trans ?_
   rw [← List.append_assoc]
   exact List.perm_append_comm
theorem HO {H : Heap} {v : Value} {cs : List CdX} (h : CardsX H v cs) (hli : dT (cs.map CdX.base) = true) (o : Ob) : Triple PP qw [v, .agg o.row.toArray] H [] fun r _ O' => NX (cdX cs o.card) r O' := by
 refine rQ (vs := v :: o.row) (by kernel_rfl) ⟨h.one, cO o⟩ ?_
 simp only [lR]
 refine ah fun r0 => ah fun r1 => ?_
 refine ae ?_
 refine ay (MG (O := []) h o) ?_
 rintro _ H1 _ ⟨⟨cells, rfl, k1, k2, k3⟩, rfl⟩ l1
 refine ⟨cells, by simp [Shp.open, k1], k2, ?_⟩
 have hrow := yc k1
 have hlc : gE (cdX cs o.card).base = true := by rw [GE]; exact yH hli _
 refine ay (FN (cells := [g cells 0, g cells 1, g cells 2, g cells 3, g cells 4, g cells 5, g cells 6, g cells 7, g cells 8, g cells 9, g cells 10, g cells 11, g cells 12, g cells 13]) (by rw [hrow]; exact k3) rfl (by rw [hrow]; exact k2) hlc) ?_
 rintro _ H2 O2 ⟨cells2, A, B, rfl, m1, m2, m3⟩ l2
 refine ⟨cells2, by simp [Shp.open, m1], m2, ?_⟩
 refine ae (ae ?_)
 refine vd (O' := O2) (by simp) ⟨cells2, A, B, by rw [← yc m1]; rfl, m1, m2, m3⟩
end Go.Proofs.YtieaihgbjikggaaGreat
namespace Go.Proofs.YtieaihgbjikggaaGreat
open Go Go.Sx
set_option maxRecDepth 100000
set_option maxHeartbeats 1000000
theorem Im {r : List Value} (h : r.length = 2) : (r.drop 1).take 1 = [g r 1] := by
 match r, h with
 | [_, _], _ => rfl
theorem HP {H : Heap} {v : Value} {cs : List CdX} (h : CardsX H v cs) (hli : dT (cs.map CdX.base) = true) (player id card trig : Int) {s : Value} (hs : s.oneCell' = true) :
  Triple PP sS [v, .agg #[iV player, iV id, iV card, iV trig, s]] H [] fun r _ O' => OSl dW 5 r (jG (Ig cs card trig)) O' := by
 refine wn (vs := [v, iV player, iV id, iV card, iV trig, s]) (by kernel_rfl) ⟨h.one, rfl, rfl, rfl, rfl, hs, trivial⟩ ?_
 simp only [my]
 refine ah fun r0 => ?_
 refine ae ?_
 refine ay (HO h hli (N0 card)) ?_
 rintro _ H1 O1 ⟨cells, A, B, rfl, k1, k2, k3, k4, k5, k6⟩ l1
 refine ⟨cells, by simp [Shp.open, k1], k2, ah fun r1 => ?_⟩
 have k4 : OSl dW 5 (g cells 11) (jG (cdX cs card).effs) A := k4
 obtain ⟨rows, A', Ts, q1, q2, q3, q4, q5⟩ : OB (g cells 12) (cdX cs card).trs B := k5
 have hlen : al .len [g cells 12] = some (iV (cdX cs card).trs.length) := by have := q2.len; rwa [q3] at this
 refine ae (ae ?_)
 refine ab _ (aH _ _) (ak (fun hb => ?_) (fun hb => ?_))
 ·have hb : trig = -1 := by simpa using hb
  refine ae ?_
  refine CF (O' := A) (Y := B) (by simpa using k6) ?_
  rw [Ig, if_pos hb]; exact k4
 have hb : trig ≠ -1 := by simpa using hb
 refine ae ?_
 refine ab _ (aC _ _) ?_
 repeat (first | refine ae ?_ | refine af ?_)
 refine ab _ hlen ?_
 refine af (af (ab _ (eB _ _) (af (ab _ (aO _ _) ?_))))
 refine ak (fun hc => ?_) (fun hc => ?_)
 ·have hc : (decide (trig < 0) || decide (trig ≥ ((cdX cs card).trs.length : Int))) = true := hc
  refine ve ?_
  rw [Ig, if_neg hb, if_pos (by simpa using hc)]; exact OSl.nil _ _
 ·have hc : (decide (trig < 0) || decide (trig ≥ ((cdX cs card).trs.length : Int))) = false := hc
  have hn : ¬ (trig < 0 ∨ trig ≥ ((cdX cs card).trs.length : Int)) := by simpa [Bool.or_eq_false_iff] using hc
  have hlt : trig.toNat < (cdX cs card).trs.length := by omega
  have ecast : ((trig.toNat : Nat) : Int) = trig := by omega
  have hri : rows[trig.toNat]? = some (rows[trig.toNat]'(by omega)) := List.getElem?_eq_getElem (by omega)
  have hTi : trig.toNat < Ts.length := by omega
  have hT := q5 _ _ _ _ hri (List.getElem?_eq_getElem hlt) (List.getElem?_eq_getElem hTi)
  obtain ⟨w1, w2⟩ := q2.rows_ok hri
  obtain ⟨p1, _⟩ := nk hTi
  have hmem : ∀ p ∈ A', p ∈ O1 ++ [] := fun p hp => by
   rw [List.append_nil]
   exact k6.mem_iff.2 (List.mem_append_right _ (q1.mem_iff.2 (List.mem_append_left _ hp)))
  obtain ⟨a, i1, i2, i3, i4⟩ := q2.idx hmem H1 (k := .i64) hri
  have i5 := i4 1 1 (by omega)
  rw [Im w1] at i5
  rw [ecast] at i1
  refine ae (ae ?_)
  refine ab _ i1 ?_
  refine aD rfl ?_
  refine ap i5 rfl ⟨hT.one, trivial⟩ ?_
  have hperm : (O1 ++ []).Perm (Ts[trig.toNat] ++ (A ++ (A' ++ List.flatten (Ts.eraseIdx trig.toNat)))) := by
   rw [List.append_nil]
   refine k6.trans ?_
   refine ((q1.trans (p1.append_left A')).append_left A).trans ?_
   refine ((List.perm_append_comm_assoc A' _ _).append_left A).trans ?_
   exact List.perm_append_comm_assoc A _ _
  refine CF hperm ?_
  rw [Ig, if_neg hb, if_neg hn, List.getD_eq_getElem?_getD, List.getElem?_eq_getElem hlt]
  exact hT
theorem GY {H : Heap} {v : Value} {cs : List CdX} (h : CardsX H v cs) (player id card trig : Int) {s : Value} (hs : s.oneCell' = true) :
  Triple PP jM [v, .agg #[iV player, iV id, iV card, iV trig, s]] H [] fun r H' O' => Sl H' 5 r (jG (Ig cs card trig)) ∧ O' = [] := by
 refine oo (vs := [v, iV player, iV id, iV card, iV trig, s]) (by kernel_rfl) ⟨h.one, rfl, rfl, rfl, rfl, hs, trivial⟩ ?_
 simp only [fw]
 refine ah fun r0 => ?_
 refine ae ?_
 refine ay (Mf (O := []) h (N0 card)) ?_
 rintro _ H1 _ ⟨⟨cells, rfl, k1, k2, k3⟩, rfl⟩ l1
 refine ⟨cells, by simp [Shp.open, k1], k2, ah fun r1 => ?_⟩
 have k4 : Sl H1 5 (g cells 11) (jG (cdX cs card).effs) := k3.eff
 obtain ⟨rows, q2, q3, q5⟩ : TrsX H1 (g cells 12) (cdX cs card).trs := k3.trig
 have hlen : al .len [g cells 12] = some (iV (cdX cs card).trs.length) := by have := q2.len; rwa [q3] at this
 refine ae (ae ?_)
 refine ab _ (aH _ _) (ak (fun hb => ?_) (fun hb => ?_))
 ·have hb : trig = -1 := by simpa using hb
  refine ae ?_
  refine ai ⟨?_, rfl⟩
  rw [Ig, if_pos hb]; exact k4
 have hb : trig ≠ -1 := by simpa using hb
 refine ae ?_
 refine ab _ (aC _ _) ?_
 repeat (first | refine ae ?_ | refine af ?_)
 refine ab _ hlen ?_
 refine af (af (ab _ (eB _ _) (af (ab _ (aO _ _) ?_))))
 refine ak (fun hc => ?_) (fun hc => ?_)
 ·have hc : (decide (trig < 0) || decide (trig ≥ ((cdX cs card).trs.length : Int))) = true := hc
  refine ai ⟨?_, rfl⟩
  rw [Ig, if_neg hb, if_pos (by simpa using hc)]; exact Sl.nil _ _
 ·have hc : (decide (trig < 0) || decide (trig ≥ ((cdX cs card).trs.length : Int))) = false := hc
  have hn : ¬ (trig < 0 ∨ trig ≥ ((cdX cs card).trs.length : Int)) := by simpa [Bool.or_eq_false_iff] using hc
  have hlt : trig.toNat < (cdX cs card).trs.length := by omega
  have ecast : ((trig.toNat : Nat) : Int) = trig := by omega
  have hri : rows[trig.toNat]? = some (rows[trig.toNat]'(by omega)) := List.getElem?_eq_getElem (by omega)
  have hT := q5 _ _ _ hri (List.getElem?_eq_getElem hlt)
  obtain ⟨a, i1, i2, i3, w1, w2⟩ := (q2.rsl []).idx .i64 trig.toNat (rows[trig.toNat]'(by omega)) hri
  have i5 := i3 1 1 (by omega)
  rw [Im w1] at i5
  rw [ecast] at i1
  refine ae (ae ?_)
  refine ab _ i1 ?_
  refine aD rfl ?_
  refine ap i5 rfl ⟨hT.one, trivial⟩ ?_
  refine ai ⟨?_, rfl⟩
  rw [Ig, if_neg hb, if_neg hn, List.getD_eq_getElem?_getD, List.getElem?_eq_getElem hlt]
  exact hT
end Go.Proofs.YtieaihgbjikggaaGreat
namespace Go.Proofs.YtieaihgbjikggaaGreat
open Go Go.Sx
set_option maxRecDepth 100000
set_option maxHeartbeats 1000000
abbrev OJ (e : Int) : Value := .tuple #[.agg (aq un zBd).toArray, iV e]
theorem Mk {H : Heap} {v : dG} {b : Bd} (h : BdS H v b) (hv : ax b = false) : RetO PP uL [.agg (aq v b).toArray] H [] (.tuple #[.agg (aq un zBd).toArray, .agg #[iV 0, iV 0, iV 0, iV 0, .slice none 0 0], iV 2]) := by
 refine u3 (vs := aq v b) (by kernel_rfl) (au (h.r [])) ?_
 simp only [qh]
 refine ah fun r0 => ah fun r1 => ah fun r2 => ?_
 refine ae ?_
 refine aj (bp (h.r [])) rfl ⟨rfl, trivial⟩ fun H1 l1 => ?_
 rw [hv]
 refine ab _ (aI _) (ak (fun _ => ?_) (fun hd => by cases hd))
 refine ae (ae (ae (ae ?_)))
 exact ai ⟨rfl, rfl⟩
theorem nn (n a c : Int) (H : Heap) (O : Own) : RetO PP t6 [iV n, iV a, iV c] H O (.bool (aw n a c)) := by
 refine xT (vs := [iV n, iV a, iV c]) (by kernel_rfl) ⟨rfl, rfl, rfl, trivial⟩ ?_
 simp only [nR]
 refine ab _ (eB _ _) (af (af (ab _ (eB _ _) (af (ab _ (bg _ _) ?_)))))
 refine ai ⟨?_, rfl⟩
 simp only [aw, Value.bool.injEq]
 rw [Bool.eq_iff_iff]; simp
theorem Kz {H : Heap} {v : dG} {b : Bd} (h : BdS H v b) (hv : ax b = false) (player id card trig : Int) {s : Value} {tg : List Tg} (hs : Sl H 2 s (be tg)) :
  RetO PP sR [.agg (aq v b).toArray, .agg #[iV player, iV id, iV card, iV trig, s]] H [] (OJ 2) := by
 refine tL (vs := aq v b ++ [iV player, iV id, iV card, iV trig, s]) (by kernel_rfl) (aL (au (h.r [])) ⟨rfl, rfl, rfl, rfl, hs.one, trivial⟩) ?_
 simp only [nq]
 have slen : al .len [s] = some (iV tg.length) := by have := hs.len; rwa [aY] at this
 refine ah fun r0 => ah fun r1 => ah fun r2 => ?_
 refine ae ?_
 refine aj (nn player 0 1 _ _) rfl ⟨rfl, trivial⟩ fun H1 l1 => ak (fun _ => ?_) (fun _ => ?_)
 ·refine ae ?_
  refine aj (nn id 1 500 _ _) rfl ⟨rfl, trivial⟩ fun H2 l2 => ak (fun _ => ?_) (fun _ => ?_)
  ·refine ae ?_
   refine aj (nn card 0 399 _ _) rfl ⟨rfl, trivial⟩ fun H3 l3 => ak (fun _ => ?_) (fun _ => ?_)
   ·refine ae ?_
    refine aj (nn trig 0 1 _ _) rfl ⟨rfl, trivial⟩ fun H4 l4 => ?_
    refine ae ?_
    refine aj (bp ((h.le (Heap.le_trans l1 (Heap.le_trans l2 (Heap.le_trans l3 l4)))).r [])) rfl ⟨rfl, trivial⟩ fun H5 l5 => ?_
    rw [hv]
    refine ab _ (aI _) (af (ab _ (aI _) (af (ab _ (aO _ _) (ae (af (af ?_)))))))
    refine ab _ slen ?_
    refine af (ab _ (aC _ _) (af (ab _ (aO _ _) ?_)))
    refine ak (fun _ => ?_) (fun hd => by cases hd)
    refine ae (ae ?_)
    exact ai ⟨rfl, rfl⟩
   ·refine ae ?_
    refine aj (bp ((h.le (Heap.le_trans l1 (Heap.le_trans l2 l3))).r [])) rfl ⟨rfl, trivial⟩ fun H5 l5 => ?_
    rw [hv]
    refine ab _ (aI _) (af (af (ab _ (aO _ _) (ae (af (af ?_))))))
    refine ab _ slen ?_
    refine af (ab _ (aC _ _) (af (ab _ (aO _ _) ?_)))
    refine ak (fun _ => ?_) (fun hd => by cases hd)
    refine ae (ae ?_)
    exact ai ⟨rfl, rfl⟩
  ·refine ae ?_
   refine aj (bp ((h.le (Heap.le_trans l1 l2)).r [])) rfl ⟨rfl, trivial⟩ fun H5 l5 => ?_
   rw [hv]
   refine ab _ (aI _) (af (af (ab _ (aO _ _) (ae (af (af ?_))))))
   refine ab _ slen ?_
   refine af (ab _ (aC _ _) (af (ab _ (aO _ _) ?_)))
   refine ak (fun _ => ?_) (fun hd => by cases hd)
   refine ae (ae ?_)
   exact ai ⟨rfl, rfl⟩
 ·refine ae ?_
  refine aj (bp ((h.le l1).r [])) rfl ⟨rfl, trivial⟩ fun H5 l5 => ?_
  rw [hv]
  refine ab _ (aI _) (af (af (ab _ (aO _ _) (ae (af (af ?_))))))
  refine ab _ slen ?_
  refine af (ab _ (aC _ _) (af (ab _ (aO _ _) ?_)))
  refine ak (fun _ => ?_) (fun hd => by cases hd)
  refine ae (ae ?_)
  exact ai ⟨rfl, rfl⟩
end Go.Proofs.YtieaihgbjikggaaGreat
namespace Go.Proofs.YtieaihgbjikggaaGreat
open Go Go.Sx
set_option maxRecDepth 100000
set_option maxHeartbeats 1000000
theorem vL {H : Heap} {A : Own} {v : Value} {rows : List (List Value)} (h : OSl aK 1 v rows A) {k : Nat} (hk : k < rows.length) :
  Triple PP jC [v, iV k, iV ((k + 1 : Nat) : Int)] H A fun v' _ O' => OSl aK 1 v' (rows.eraseIdx k) O' := by
 have hz := FW
 obtain ⟨hu, inf, hinf, hsz⟩ := HX (P := PP) (t := 26) (e := aK) (size := 1) (bytes := 8) (by kernel_rfl)
 rcases h with ⟨⟨a, rfl⟩, rfl, rfl⟩ | ⟨r, cs, cap, rfl, rfl, hcl, hlc, hcap, hl, ho, ht⟩
 ·simp at hk
 refine nB (vs := [.slice (some ⟨r, 0, none⟩) rows.length cap, iV k, iV ((k + 1 : Nat) : Int)]) (by kernel_rfl) ⟨rfl, rfl, rfl, trivial⟩ ?_
 simp only [eS]
 generalize hn : rows.length = n at *
 obtain ⟨d1, d2⟩ := EL hn hk hl ht (by omega)
 have b1 : bA n cap (some (iV k)) (some (iV ((k + 1 : Nat) : Int))) (some (iV n)) = some (k, k + 1, n) := by
  have x1 : k + 1 ≤ n := hk
  have x2 : ((k : Int) + 1).toNat = k + 1 := by omega
  have x3 : (k : Int) + 1 ≤ (n : Int) := by omega
  have x4 : (0 : Int) ≤ (k : Int) + 1 := by omega
  simp [bA, cC, dJ, mu, asI, hlc, x2, x3, x4]
 have b2 : bA n cap none (some (iV k)) none = some (0, k, cap) := by
  have x1 : k ≤ cap := by omega
  simp [bA, cC, dJ, mu, asI, x1]
 have b3 : bA n cap (some (iV ((k + 1 : Nat) : Int))) none none = some (k + 1, n, cap) := by
  have x2 : ((k : Int) + 1).toNat = k + 1 := by omega
  have x3 : (k : Int) + 1 ≤ (n : Int) := by omega
  have x4 : (0 : Int) ≤ (k : Int) + 1 := by omega
  simp [bA, cC, dJ, mu, asI, x2, x3, x4]
 have b4 : bA (n - 1) cap (some (iV ((n - 1 : Nat) : Int))) (some (iV n)) none = some (n - 1, n, cap) := by
  have x1 : n ≤ cap := hlc
  have x2 : n - 1 ≤ n := by omega
  simp [bA, cC, dJ, mu, asI, x1, x2]
 have v1 : al (.slc 1 true true true) [.slice (some ⟨r, 0, none⟩) n cap, iV k, iV ((k + 1 : Nat) : Int), iV n] = some (.slice (if n = k then some ⟨r, 0, none⟩ else (some (⟨r, 0, none⟩ : Addr)).map (·.add (k * 1))) (k + 1 - k) (n - k)) := by
  simp only [al, dR, gD, b1, Option.map_some]
 have v2 : al (.slc 1 false true false) [.slice (some ⟨r, 0, none⟩) n cap, iV k] = some (.slice (some ⟨r, 0, none⟩) k cap) := by
  simp only [al, dR, gD, b2, Option.map_some]
  simp [Addr.add]
 have v3 : al (.slc 1 true false false) [.slice (some ⟨r, 0, none⟩) n cap, iV ((k + 1 : Nat) : Int)] = some (.slice (some ⟨r, if cap = k + 1 then 0 else (k + 1) * 1, none⟩) (n - (k + 1)) (cap - (k + 1))) := by
  simp only [al, dR, gD, b3, Option.map_some]
  split
  ·rfl
  ·show some (Value.slice (some ((⟨r, 0, none⟩ : Addr).add ((k + 1) * 1))) (n - (k + 1)) (cap - (k + 1))) = _
   rw [cB, Nat.zero_add]
 have v4 : al (.slc 1 true true false) [.slice (some ⟨r, 0, none⟩) (n - 1) cap, iV ((n - 1 : Nat) : Int), iV n] = some (.slice (some ⟨r, (n - 1) * 1, none⟩) (n - (n - 1)) (cap - (n - 1))) := by
  simp only [al, dR, gD, b4, Option.map_some]
  rw [if_neg (by omega)]
  show some (Value.slice (some ((⟨r, 0, none⟩ : Addr).add ((n - 1) * 1))) (n - (n - 1)) (cap - (n - 1))) = _
  rw [cB, Nat.zero_add]
 refine ab (.int .i64 n) rfl ?_
 refine ab _ v1 ?_
 refine ab _ (aH _ _) (ak (fun hb => ?_) (fun _ => ?_))
 ·exfalso; simp at hb; omega
 refine ab (.int .i64 n) rfl ?_
 refine ab _ v2 (ab _ v3 ?_)
 have hnl : ((cs.drop ((k + 1) * 1)).take ((n - (k + 1)) * 1)).length = (n - (k + 1)) * 1 := by rw [List.length_take, List.length_drop, hcl]; omega
 have hones : ∀ u ∈ (cs.drop ((k + 1) * 1)).take ((n - (k + 1)) * 1), u.oneCell' = true := by
  obtain ⟨_, q⟩ := zk (size := 1) (rows := rows) (cs := cs) hl (by rw [hn]; exact ht) (i := k + 1) (by omega)
  rw [hn] at q
  rw [← q]
  intro u hu'
  obtain ⟨row, hr, hu2⟩ := List.mem_flatten.1 hu'
  exact lI (ho row (List.mem_of_mem_drop hr)) u hu2
 refine GG (r := r) (cs := cs) (e := aK) (O2 := []) (cs' := cs.take (0 + k * inf.size) ++ (cs.drop ((k + 1) * 1)).take ((n - (k + 1)) * 1) ++ cs.drop (0 + k * inf.size + ((cs.drop ((k + 1) * 1)).take ((n - (k + 1)) * 1)).length)) (by simp)
  (v := .slice (some ⟨r, 0, none⟩) (k + (n - (k + 1))) cap) (fun w F hm => ?_) rfl ⟨rfl, trivial⟩ ?_
 ·have hrow := (hm.own (r, .cells cs.toArray aK (0, 0)) (by simp)).1
  have hsrc : Src PP inf.size 26 (.slice (some ⟨r, if cap = k + 1 then 0 else (k + 1) * 1, none⟩) (n - (k + 1)) (cap - (k + 1))) (n - (k + 1)) ((cs.drop ((k + 1) * 1)).take ((n - (k + 1)) * 1)) w := by
   rw [hsz]
   refine Src.ofSlice w hu _ _ _ _ hnl (fun j u hj => ?_) hones
   have hjlt : j < (n - (k + 1)) * 1 := by rw [← hnl]; exact (List.getElem?_eq_some_iff.1 hj).1
   have hne : ¬ cap = k + 1 := by intro e; rw [show n - (k + 1) = 0 by omega] at hjlt; omega
   rw [if_neg hne, cB]
   refine KA hm ?_
   rw [List.getElem?_take, if_pos hjlt, List.getElem?_drop] at hj
   exact hj
  have hrun := o9 (ty := 26) hu hinf (len := k) (cap := cap) (off := 0) hrow hsrc (by omega) (by rw [hsz]; omega)
  simp only [PrimOp.sem, builtin, Sem.run_bind]
  rw [hrun]; rfl
 rw [hsz, hnl, Nat.zero_add]
 generalize hcs1 : cs.take (k * 1) ++ (cs.drop ((k + 1) * 1)).take ((n - (k + 1)) * 1) ++ cs.drop (k * 1 + (n - (k + 1)) * 1) = cs1
 have hlen1 : cs1.length = cs.length := by
  rw [← hcs1, List.length_append, d1, List.length_drop]; omega
 have hkn : k + (n - (k + 1)) = n - 1 := by omega
 rw [hkn]
 refine ab (.int .i64 ((n - 1 : Nat) : Int)) rfl ?_
 refine ab _ v4 ?_
 have hz1 := DK (n := n - (n - 1)) (z := (iV 0).cells) (by simp [Value.cells, Value.oneCell'])
 refine GG (r := r) (cs := cs1) (e := aK) (O2 := []) (cs' := cs1.take ((n - 1) * 1) ++ (Builtin.zeroCells (iV 0).cells (n - (n - 1))).toList ++ cs1.drop ((n - 1) * 1 + (Builtin.zeroCells (iV 0).cells (n - (n - 1))).toList.length)) (List.Perm.refl _)
  (v := .tuple #[]) (fun w F hm => ?_) rfl trivial ?_
 ·have hrow := (hm.own (r, .cells cs1.toArray aK (0, 0)) (by simp)).1
  have hrun := rS (ty := 0) (cap := cap - (n - 1)) (n := n - (n - 1)) (off := (n - 1) * 1) hu hz hrow (by
   show (n - 1) * 1 + (n - (n - 1)) * 1 ≤ cs1.length
   rw [hlen1, hcl]; omega) hz1
  simp only [PrimOp.sem, builtin, Sem.run_bind]
  rw [hrun]; rfl
 have hzl : (Builtin.zeroCells (iV 0).cells (n - (n - 1))).toList.length = (n - (n - 1)) * 1 := by
  rw [Array.length_toList, size_zeroCells]; rfl
 have hel : (rows.eraseIdx k).length = n - 1 := by rw [List.length_eraseIdx_of_lt (by omega), hn]
 refine ai (.inr ⟨r, _, cap, ?_, by simp only [List.append_nil]; rfl, ?_, ?_, hcap, fun x hx => hl x (List.mem_of_mem_eraseIdx hx), fun x hx => ho x (List.mem_of_mem_eraseIdx hx), ?_⟩)
 ·rw [hel]; rfl
 ·rw [List.length_append, List.length_append, List.length_take, List.length_drop, hzl, hlen1, hcl]; omega
 ·rw [hel]; omega
 ·rw [hel, List.append_assoc, List.take_append_of_le_length (by rw [List.length_take, hlen1, hcl]; omega), List.take_take, Nat.min_self, ← hcs1, List.append_assoc, ← List.append_assoc, List.take_append_of_le_length (by rw [d1]; exact Nat.le_refl _), ← d1, List.take_length, d2]
theorem GJ (o : Ob) (id : Int) (H : Heap) (O : Own) : RetO PP kg [.agg o.row.toArray, iV id] H O (iV (IntKind.i64.wrap (o.id - id))) := by
 refine xU (vs := o.row ++ [iV id]) (by kernel_rfl) (aL (cO o) ⟨rfl, trivial⟩) ?_
 simp only [nS]
 exact ah fun r0 => ae (ab _ rfl (ai ⟨rfl, rfl⟩))
theorem sC {H : Heap} {O : Own} {v : Value} {l : List Ob} (h : RSl H O 12 v (l.map Ob.row)) {id : Int} (hid : i64 id) (hv : ∀ o ∈ l, 1 ≤ o.id ∧ o.id ≤ 500) (ho : CM none l = true) (hlen : l.length ≤ 1000000) :
  Triple PP bc [v, iV id, .func (.func kg) #[] #[]] H O fun r _ O' => (∃ (i : Nat) (f : Bool), r = .tuple #[iV i, .bool f] ∧ (f = true → ∃ o, l[i]? = some o ∧ o.id = id) ∧ (f = false → ∀ o ∈ l, o.id ≠ id)) ∧ O' = O := by
 refine bH (vs := [v, iV id, .func (.func kg) #[] #[]]) (by kernel_rfl) ⟨h.one, rfl, rfl, trivial⟩ ?_
 simp only [aV]
 have hl := h.len
 have hB := h.lenB
 rw [List.length_map] at hl hB
 refine ab _ hl ?_
 refine kb (fun vs H' O' => ∃ i j : Nat, vs = [iV i, iV j] ∧ i ≤ j ∧ j ≤ l.length ∧ O' = O ∧ Heap.le H H' ∧ (1 ≤ id → id ≤ 500 → (∀ (k : Nat) (o : Ob), k < i → l[k]? = some o → o.id < id) ∧ ∀ (k : Nat) (o : Ob), j ≤ k → l[k]? = some o → id ≤ o.id))
  (fun vs _ _ => match g vs 0, g vs 1 with | .int _ a, .int _ b => (b - a).toNat | _, _ => 0) ⟨0, l.length, rfl, Nat.zero_le _, Nat.le_refl _, rfl, Heap.le_refl _, fun _ _ => ⟨fun k o hk => absurd hk (Nat.not_lt_zero k), fun k o hk e => by
   have := (List.getElem?_eq_some_iff.1 e).1; omega⟩⟩ ?_
 rintro vs H' O' - - - ⟨i, j, rfl, hij, hj, rfl, hle, hinv⟩
 refine ab _ (aC _ _) (ak (fun hb => ?_) (fun hb => ?_))
 ·have hlt : i < j := by simpa using hb
  have hm : (i + j) / 2 < l.length := by omega
  obtain ⟨a, h1, h2, _, h3, h4⟩ := (h.le hle).idx .i64 ((i + j) / 2) (Ob.row l[(i + j) / 2]) (by simp [hm])
  refine ab _ (GN (by omega)) (ab _ (LF (by omega)) (ab _ (IB (by omega)) (ab _ (LG (by omega)) (ab _ h1 (ap h2 h3 h4 ?_)))))
  refine eZ rfl (kJ aB (by decide)) (GJ l[(i + j) / 2] id H' O') rfl ⟨rfl, trivial⟩ fun H2 l2 => ab _ (aC _ _) (ak (fun hc => ?_) (fun hc => ?_))
  ·refine ab _ (az (by omega)) (eM (by simp [Eqs]) ⟨(i + j) / 2 + 1, j, rfl, by omega, hj, rfl, Heap.le_trans hle l2, fun a1 a2 => ⟨fun k o hk e => ?_, (hinv a1 a2).2⟩⟩ ?_)
   ·have hc := of_decide_eq_true hc
    have hm1 := hv _ (List.getElem_mem hm)
    rw [sZ hm1.1 hm1.2 a1 a2] at hc
    rcases Nat.lt_or_ge k ((i + j) / 2) with hk2 | hk2
    ·have := zy ho hk2 e (List.getElem?_eq_getElem hm); omega
    ·have : k = (i + j) / 2 := by omega
     subst this
     rw [List.getElem?_eq_getElem hm] at e
     obtain rfl := Option.some.inj e
     omega
   ·show (((j : Int) - (((i + j) / 2 + 1 : Nat) : Int)).toNat) < ((j : Int) - (i : Int)).toNat
    omega
  ·refine eM (by simp [Eqs]) ⟨i, (i + j) / 2, rfl, by omega, by omega, rfl, Heap.le_trans hle l2, fun a1 a2 => ⟨(hinv a1 a2).1, fun k o hk e => ?_⟩⟩ ?_
   ·have hc := of_decide_eq_false hc
    have hm1 := hv _ (List.getElem_mem hm)
    rw [sZ hm1.1 hm1.2 a1 a2] at hc
    rcases Nat.lt_or_ge ((i + j) / 2) k with hk2 | hk2
    ·have := zy ho hk2 (List.getElem?_eq_getElem hm) e; omega
    ·have : k = (i + j) / 2 := by omega
     subst this
     rw [List.getElem?_eq_getElem hm] at e
     obtain rfl := Option.some.inj e
     omega
   ·show (((((i + j) / 2 : Nat) : Int) - (i : Int)).toNat) < ((j : Int) - (i : Int)).toNat
    omega
 ·have hie : i = j := by
   have : ¬ ((i : Int) < (j : Int)) := of_decide_eq_false hb
   omega
  subst hie
  refine ab _ (aC _ _) (ak (fun hb => ?_) (fun hb => ?_))
  ·have hlt : i < l.length := by simpa using hb
   obtain ⟨a, h1, h2, _, h3, h4⟩ := (h.le hle).idx .i64 i (Ob.row l[i]) (by simp [hlt])
   have hm1 := hv _ (List.getElem_mem hlt)
   refine ab _ h1 (ap h2 h3 h4 (eZ rfl (kJ aB (by decide)) (GJ l[i] id H' O') rfl ⟨rfl, trivial⟩ fun H2 l2 => ab _ (aH _ _) (ai ⟨⟨i, (IntKind.i64.wrap (l[i].id - id) == 0), rfl, fun hc => ?_, fun hc => ?_⟩, rfl⟩)))
   ·rw [uN hid hm1.1 hm1.2] at hc
    exact ⟨l[i], List.getElem?_eq_getElem hlt, by simpa using hc⟩
   ·rw [uN hid hm1.1 hm1.2] at hc
    have hne : l[i].id ≠ id := by simpa using hc
    intro o hmem e
    have hob := hv o hmem
    obtain ⟨i1, i2⟩ := hinv (by omega) (by omega)
    obtain ⟨k, hk⟩ := List.mem_iff_getElem?.1 hmem
    rcases Nat.lt_trichotomy k i with hki | hki | hki
    ·have := i1 k o hki hk; omega
    ·subst hki
     rw [List.getElem?_eq_getElem hlt] at hk
     obtain rfl := Option.some.inj hk
     exact hne e
    ·have := zy ho hki (List.getElem?_eq_getElem hlt) hk
     have := i2 i l[i] (Nat.le_refl _) (List.getElem?_eq_getElem hlt)
     omega
  ·have hge : l.length ≤ i := by simpa using hb
   refine ai ⟨⟨i, false, rfl, fun hc => (by cases hc), fun _ o hmem e => ?_⟩, rfl⟩
   have hob := hv o hmem
   obtain ⟨i1, _⟩ := hinv (by omega) (by omega)
   obtain ⟨k, hk⟩ := List.mem_iff_getElem?.1 hmem
   have := i1 k o (by have := (List.getElem?_eq_some_iff.1 hk).1; omega) hk
   omega
end Go.Proofs.YtieaihgbjikggaaGreat
namespace Go.Proofs.YtieaihgbjikggaaGreat
open Go Go.Sx
set_option maxRecDepth 100000
set_option maxHeartbeats 1000000
theorem vo {te ti : TypeId} {v : Value} {l : List It} {O : Own} (h : OIts te ti v l O) : ∃ rows A T, O.Perm (A ++ T) ∧ OSl ti 5 v rows A ∧ rows.length = l.length ∧
  ∀ v' A' (x : It) s, OSl ti 5 v' (rows ++ [[iV x.player, iV x.id, iV x.card, iV x.trig, s]]) A' → OSlE te 2 s (x.tgs.map Tg.row) [] → OIts te ti v' (l ++ [x]) (A' ++ T) := by
 obtain ⟨rows, A, Ts, h1, h2, h3, h4, h5⟩ := h
 refine ⟨rows, A, List.flatten Ts, h1, h2, h3, fun v' A' x s k1 k2 => ⟨_, A', Ts ++ [[]], by simp, k1, by simp [h3], by simp [h4], fun i r y T a b c => ?_⟩⟩
 rcases Nat.lt_or_ge i l.length with hi | hi
 ·rw [List.getElem?_append_left (by omega)] at a b c
  exact h5 i r y T a b c
 ·rw [List.getElem?_append_right (by omega)] at a b c
  have hi0 : i = l.length := by
   have := (List.getElem?_eq_some_iff.1 b).1
   simp at this; omega
  rw [hi0, h3, Nat.sub_self] at a
  rw [hi0, Nat.sub_self] at b
  rw [hi0, h4, Nat.sub_self] at c
  simp only [List.getElem?_cons_zero, Option.some.injEq] at a b c
  subst a; subst b; subst c
  exact ⟨s, rfl, k2⟩
def tG (x : It) : Bool := aw x.player 0 1 && (aw x.id 1 500 && (aw x.card 0 399 && aw x.trig 0 1))
def gp (b : Bd) (x : It) : Bd × Int := if (!ax b || (!tG x || decide ((x.tgs.length : Int) > 0))) = true then (zBd, 2) else if decide ((b.stack.length : Int) ≥ 200) = true then (zBd, 7) else ({ b with stack := b.stack ++ [x] }, 0)
theorem NO {H : Heap} {v : dG} {b : Bd} (h : BdS H v b) (hB : bdB b) (x : It) {s : Value} (hs : Sl H 2 s (be x.tgs)) :
  Triple PP sR [.agg (aq v b).toArray, .agg #[iV x.player, iV x.id, iV x.card, iV x.trig, s]] H [] fun r _ O' => ∃ w, r = .tuple #[.agg (aq w (gp b x).1).toArray, iV (gp b x).2] ∧ OwnB tys w (gp b x).1 O' := by
 by_cases hv : ax b = true
 case neg =>
  have hv : ax b = false := by simpa using hv
  have e : gp b x = (zBd, 2) := by simp [gp, hv]
  rw [e]
  refine (Kz h hv x.player x.id x.card x.trig hs).mono ?_
  rintro r H' O' _ ⟨rfl, rfl⟩
  exact ⟨un, rfl, OwnB.zero tys⟩
 refine tL (vs := aq v b ++ [iV x.player, iV x.id, iV x.card, iV x.trig, s]) (by kernel_rfl) (aL (au (h.r [])) ⟨rfl, rfl, rfl, rfl, hs.one, trivial⟩) ?_
 simp only [nq]
 have slen : al .len [s] = some (iV x.tgs.length) := by have := hs.len; rwa [aY] at this
 have klen : al .len [v.s] = some (iV b.stack.length) := ItsR.len (h.stack.r [])
 refine ah fun r0 => ah fun r1 => ah fun r2 => ?_
 refine ae ?_
 refine aj (nn x.player 0 1 _ _) rfl ⟨rfl, trivial⟩ fun H1 l1 => ak (fun w1 => ?_) (fun w1 => ?_)
 rotate_left
 ·skip
  have w1 : aw x.player 0 1 = false := w1
  have e : gp b x = (zBd, 2) := by simp [gp, tG, w1]
  refine ae ?_
  refine aj (bp ((h.le l1).r [])) rfl ⟨rfl, trivial⟩ fun H5 l5 => ?_
  rw [hv]
  refine ab _ (aI _) (af (af (ab _ (aO _ _) (ae (af (af ?_))))))
  refine ab _ slen ?_
  refine af (ab _ (aC _ _) (af (ab _ (aO _ _) ?_)))
  refine ak (fun _ => ?_) (fun hd => by cases hd)
  refine ae (ae ?_)
  exact ai ⟨un, by rw [e]; rfl, by rw [e]; exact OwnB.zero tys⟩
 refine ae ?_
 refine aj (nn x.id 1 500 _ _) rfl ⟨rfl, trivial⟩ fun H2 l2 => ak (fun w2 => ?_) (fun w2 => ?_)
 rotate_left
 ·skip
  have w2 : aw x.id 1 500 = false := w2
  have e : gp b x = (zBd, 2) := by simp [gp, tG, w2]
  refine ae ?_
  refine aj (bp ((h.le (Heap.le_trans l1 l2)).r [])) rfl ⟨rfl, trivial⟩ fun H5 l5 => ?_
  rw [hv]
  refine ab _ (aI _) (af (af (ab _ (aO _ _) (ae (af (af ?_))))))
  refine ab _ slen ?_
  refine af (ab _ (aC _ _) (af (ab _ (aO _ _) ?_)))
  refine ak (fun _ => ?_) (fun hd => by cases hd)
  refine ae (ae ?_)
  exact ai ⟨un, by rw [e]; rfl, by rw [e]; exact OwnB.zero tys⟩
 refine ae ?_
 refine aj (nn x.card 0 399 _ _) rfl ⟨rfl, trivial⟩ fun H3 l3 => ak (fun w3 => ?_) (fun w3 => ?_)
 rotate_left
 ·skip
  have w3 : aw x.card 0 399 = false := w3
  have e : gp b x = (zBd, 2) := by simp [gp, tG, w3]
  refine ae ?_
  refine aj (bp ((h.le (Heap.le_trans l1 (Heap.le_trans l2 l3))).r [])) rfl ⟨rfl, trivial⟩ fun H5 l5 => ?_
  rw [hv]
  refine ab _ (aI _) (af (af (ab _ (aO _ _) (ae (af (af ?_))))))
  refine ab _ slen ?_
  refine af (ab _ (aC _ _) (af (ab _ (aO _ _) ?_)))
  refine ak (fun _ => ?_) (fun hd => by cases hd)
  refine ae (ae ?_)
  exact ai ⟨un, by rw [e]; rfl, by rw [e]; exact OwnB.zero tys⟩
 refine ae ?_
 refine aj (nn x.trig 0 1 _ _) rfl ⟨rfl, trivial⟩ fun H4 l4 => ?_
 have l14 := Heap.le_trans l1 (Heap.le_trans l2 (Heap.le_trans l3 l4))
 refine ae ?_
 refine aj (bp ((h.le l14).r [])) rfl ⟨rfl, trivial⟩ fun H5 l5 => ?_
 have h := h.le (Heap.le_trans l14 l5)
 have hs := hs.le (Heap.le_trans l14 l5)
 rw [hv]
 refine ab _ (aI _) ?_
 refine af ?_
 refine ab _ (aI _) ?_
 refine af ?_
 refine ab _ (aO _ _) ?_
 refine ae (af (af ?_))
 refine ab _ slen ?_
 refine af ?_
 refine ab _ (cZ _ _) ?_
 refine af ?_
 refine ab _ (aO _ _) (ak (fun hb => ?_) (fun hb => ?_))
 ·have hb : ((!true || !aw x.trig 0 1) || decide ((x.tgs.length : Int) > 0)) = true := hb
  have e : gp b x = (zBd, 2) := by
   refine if_pos ?_
   have w1 : aw x.player 0 1 = true := w1
   have w2 : aw x.id 1 500 = true := w2
   have w3 : aw x.card 0 399 = true := w3
   simp only [tG, w1, w2, w3, hv, Bool.true_and, Bool.not_true, Bool.false_or] at hb ⊢
   exact hb
  refine ae (ae ?_)
  exact ai ⟨un, by rw [e]; rfl, by rw [e]; exact OwnB.zero tys⟩
 have hb : ((!true || !aw x.trig 0 1) || decide ((x.tgs.length : Int) > 0)) = false := hb
 have hcond : ¬ ((!ax b || (!tG x || decide ((x.tgs.length : Int) > 0))) = true) := by
  have w1 : aw x.player 0 1 = true := w1
  have w2 : aw x.id 1 500 = true := w2
  have w3 : aw x.card 0 399 = true := w3
  simp only [tG, w1, w2, w3, hv, Bool.true_and, Bool.not_true, Bool.false_or] at hb ⊢
  rw [hb]; simp
 have ht0 : x.tgs = [] := by
  simp only [Bool.or_eq_false_iff, decide_eq_false_iff_not] at hb
  exact List.length_eq_zero_iff.1 (by omega)
 refine ae ?_
 refine ab _ klen ?_
 refine ab _ (du _ _) (ak (fun hb => ?_) (fun hb2 => ?_))
 ·have e : gp b x = (zBd, 7) := by rw [gp, if_neg hcond, if_pos hb]
  refine ae (ae ?_)
  exact ai ⟨un, by rw [e]; rfl, by rw [e]; exact OwnB.zero tys⟩
 have e : gp b x = ({ b with stack := b.stack ++ [x] }, 0) := by rw [gp, if_neg hcond, if_neg (by rw [show decide ((b.stack.length : Int) ≥ 200) = false from hb2]; simp)]
 have hl200 : b.stack.length < 200 := by have := of_decide_eq_false hb2; omega
 rw [e]
 refine ae ?_
 refine ay (JV h hB) ?_
 rintro _ H6 O6 ⟨w, rfl, ho⟩ l6
 refine ⟨aq w b, rfl, cz H6 ho, ?_⟩
 rw [List.append_nil]
 refine ah fun r3 => ?_
 refine ae (ae (ae ?_))
 refine ah fun r4 => ?_
 obtain ⟨A2, R2, hp2, hA2, back2⟩ := OwnB.pick_stack ho
 obtain ⟨rows, A3, T3, hp3, hA3, hl3, back3⟩ := vo hA2
 have hs6 := hs.le l6
 refine aA (rows := rows) (news := [[iV x.player, iV x.id, iV x.card, iV x.trig, s]]) (O1 := A3) (O2 := T3 ++ R2) (e := aU) (size := 5) (bytes := 56) (by kernel_rfl) (hp2.trans ((hp3.append_right R2).trans (List.Perm.of_eq (List.append_assoc _ _ _)))) hA3 (fun Hf _ hf => Sl.block1 (hf _ List.mem_cons_self) rfl ⟨rfl, rfl, rfl, rfl, hs.one, trivial⟩) (by rw [hl3, List.length_singleton]; omega) (by rw [hl3, List.length_singleton]; omega) ?_
 intro v2 A4 H8 l8 hA4
 have hE : OSlE ar 2 s (x.tgs.map Tg.row) [] := by
  rw [ht0] at hs6 ⊢
  exact OSlE.empty hs6
 have hfin := back2 _ _ _ (back3 v2 A4 x s hA4 hE)
 rw [List.append_assoc] at hfin
 refine ae (ae (ae (ae ?_)))
 exact ai ⟨_, rfl, hfin⟩
theorem Jv : ∀ {l : List Int} {x i : Int}, 0 ≤ i → 0 ≤ lK l x i → ∃ j : Nat, lK l x i = i + j ∧ l[j]? = some x
 | [], x, i, _, h => by simp [lK] at h
 | a :: l, x, i, h0, h => by
  simp only [lK] at h ⊢
  by_cases hx : x = a
  ·subst hx; exact ⟨0, by simp, rfl⟩
  ·have hb : (x == a) = false := by simpa using hx
   rw [hb] at h ⊢
   simp only [Bool.false_eq_true, if_false] at h ⊢
   obtain ⟨j, h1, h2⟩ := Jv (by omega) h
   exact ⟨j + 1, by rw [h1]; omega, h2⟩
theorem F3 {id : Int} : ∀ {l : List (Int × Int × List Int)} {s : Int × Int × Int}, iR id l = some s → ∃ x ∈ l, s.1 = x.1 ∧ s.2.1 = x.2.1 ∧ ∃ j : Nat, s.2.2 = j ∧ x.2.2[j]? = some id
 | [], _, h => by simp [iR] at h
 | a :: l, s, h => by
  simp only [iR] at h
  split at h
  ·rename_i hi
   obtain ⟨j, h1, h2⟩ := Jv (by omega) hi
   rw [← Option.some.inj h]
   exact ⟨a, by simp, rfl, rfl, j, by show lK a.2.2 id 0 = _; rw [h1]; omega, h2⟩
  ·obtain ⟨x, hx, hm⟩ := F3 h
   exact ⟨x, by simp [hx], hm⟩
theorem Ao {b : Bd} {id : Int} (hb : (bt b id != 0) = false) (hz : (dQ b id).2.1 = 1) {k : Nat} {o : Ob} (e1 : b.objs[k]? = some o) (e2 : o.id = id) : ∃ j : Nat, (dQ b id).2.2 = j ∧ (dt b o.owner).hand[j]? = some id := by
 obtain ⟨hval, _⟩ := jh hb
 have hpl := (aN hval).1
 have own : ∀ {p : Int}, (id, p) ∈ aM b → p = o.owner := by
  intro p hm
  obtain ⟨k', o', a1, a2, a3⟩ := Jw hpl hm
  have i1 := (cH hpl e1).2.2.1
  have i2 := (cH hpl a1).2.2.1
  rw [a2] at i2
  rw [e2] at i1
  have : k = k' := by omega
  subst this
  rw [e1] at a1
  rw [← Option.some.inj a1] at a3
  exact a3.symm
 rw [dQ, if_neg (by rw [hb]; simp)] at hz ⊢
 obtain ⟨s, hs⟩ := wl hval e1
 rw [e2] at hs
 rw [hs] at hz ⊢
 simp only [AO, Option.getD_some] at hz ⊢
 unfold eD at hs
 split at hs
 ·rename_i s' hL
  rw [Option.some.inj hs] at hL
  obtain ⟨x, hx, x1, x2, j, x3, x4⟩ := F3 hL
  refine ⟨j, x3, ?_⟩
  rw [hz] at x2
  simp only [fI, List.mem_cons, List.not_mem_nil, or_false] at hx
  rcases hx with rfl | rfl | rfl | rfl | rfl | rfl | rfl | rfl
  ·simp at x2
  ·have hm : (id, (0 : Int)) ∈ aM b := by
    simp only [aM, bK, List.map_append, List.mem_append, List.mem_map, Prod.mk.injEq]
    exact .inl (.inr (.inl ⟨id, List.mem_of_getElem? x4, rfl, trivial⟩))
   rw [← own hm]; exact x4
  ·simp at x2
  ·simp at x2
  ·simp at x2
  ·have hm : (id, (1 : Int)) ∈ aM b := by
    simp only [aM, bK, List.map_append, List.mem_append, List.mem_map, Prod.mk.injEq]
    exact .inr (.inl (.inr (.inl ⟨id, List.mem_of_getElem? x4, rfl, trivial⟩)))
   rw [← own hm]; exact x4
  ·simp at x2
  ·simp at x2
 ·split at hs
  ·rw [← Option.some.inj hs] at hz
   simp at hz
  ·cases hs
def iU (b : Bd) (k j : Nat) (o : Ob) : Bd := { dD (cM b o.owner { dt b o.owner with hand := (dt b o.owner).hand.eraseIdx j }) k (bD o 4) with stack := b.stack ++ [⟨o.owner, o.id, o.card, -1, []⟩] }
def hZ (b : Bd) (id : Int) : Bd × Int := if (bt b id != 0) = true then (zBd, bt b id) else if ((dQ b id).2.1 != 1 || decide ((Dj b id).card < 0)) = true then (zBd, 8) else
 if decide ((b.stack.length : Int) ≥ 200) = true then (zBd, 7) else (iU b (fL b id).toNat (dQ b id).2.2.toNat (Dj b id), 0)
theorem NR {H : Heap} {v : dG} {b : Bd} (h : BdS H v b) (hB : bdB b) {id : Int} (hid : i64 id) : Triple PP xK [.agg (aq v b).toArray, iV id] H [] fun r _ O' => ∃ w, r = .tuple #[.agg (aq w (hZ b id).1).toArray, iV (hZ b id).2] ∧ OwnB tys w (hZ b id).1 O' := by
 refine AQ (vs := aq v b ++ [iV id]) (by kernel_rfl) (aL (au (h.r [])) ⟨rfl, trivial⟩) ?_
 simp only [sK]
 refine ah fun r0 => ah fun r1 => ?_
 refine ae ?_
 refine aj (vJ h hid []) rfl (vs := ug (dQ b id) ++ [iV (bt b id)]) ⟨rfl, rfl, rfl, rfl, trivial⟩ fun H1 l1 => ah fun r2 => ?_
 refine ae ?_
 refine ab _ (bG _ _) (ak (fun hb => ?_) (fun hb => ?_))
 ·have e : hZ b id = (zBd, bt b id) := by rw [hZ, if_pos hb]
  refine ae (ae ?_)
  exact ai ⟨un, by rw [e]; rfl, by rw [e]; exact OwnB.zero tys⟩
 have hb : (bt b id != 0) = false := hb
 replace h := h.le l1
 obtain ⟨hval, k, o, e1, e2, e3, e4⟩ := jh hb
 have hfo := th hb e1 e3
 have hown := (cH (aN hval).1 e1).2.2.2
 refine ae ?_
 refine aj (NP (h.r []) hid) rfl (vs := (Dj b id).row ++ [iV (bt b id)]) (aL (cO _) ⟨rfl, trivial⟩) fun H2 l2 => ah fun r3 => ?_
 replace h := h.le l2
 have klen : al .len [v.s] = some (iV b.stack.length) := ItsR.len (h.stack.r [])
 rw [hfo]
 refine ae (ae ?_)
 refine ab _ (bG _ _) ?_
 refine ae (af (af ?_))
 refine ab _ (aC _ _) ?_
 refine af ?_
 refine ab _ (aO _ _) (ak (fun hc => ?_) (fun hc => ?_))
 ·have e : hZ b id = (zBd, 8) := by rw [hZ, if_neg (by rw [hb]; simp), hfo, if_pos hc]
  refine ae (ae ?_)
  exact ai ⟨un, by rw [e]; rfl, by rw [e]; exact OwnB.zero tys⟩
 have hc : ((dQ b id).2.1 != 1 || decide (o.card < 0)) = false := hc
 have hz1 : (dQ b id).2.1 = 1 := by
  simp only [Bool.or_eq_false_iff] at hc
  simpa using hc.1
 obtain ⟨j, hj1, hj⟩ := Ao hb hz1 e1 e2
 refine ae ?_
 refine ab _ klen ?_
 refine ab _ (du _ _) (ak (fun hd => ?_) (fun hd => ?_))
 ·have e : hZ b id = (zBd, 7) := by rw [hZ, if_neg (by rw [hb]; simp), hfo, if_neg (by rw [hc]; simp), if_pos hd]
  refine ae (ae ?_)
  exact ai ⟨un, by rw [e]; rfl, by rw [e]; exact OwnB.zero tys⟩
 have e : hZ b id = (iU b k j o, 0) := by
  rw [hZ, if_neg (by rw [hb]; simp), hfo, if_neg (by rw [hc]; simp), if_neg (by rw [show decide ((b.stack.length : Int) ≥ 200) = false from hd]; simp), e3, hj1]
  rfl
 have hl200 : b.stack.length < 200 := by have := of_decide_eq_false hd; omega
 have el : g (ug (dQ b id) ++ [iV (bt b id)]) 2 = iV j := by rw [← hj1]; rfl
 rw [e]
 refine ae ?_
 refine ay (JV h hB) ?_
 rintro _ H3 O3 ⟨w, rfl, ho⟩ l3
 refine ⟨aq w b, rfl, cz H3 ho, ?_⟩
 rw [List.append_nil]
 refine ah fun r4 => ?_
 refine ae (ae ?_)
 rw [el]
 rcases hown with hown | hown
 ·rw [hown] at hj
  have hj : b.s0.hand[j]? = some id := hj
  refine ⟨.i64, o.owner, rfl, fun _ => ?_, fun e => absurd hown e⟩
  refine ae (ae (ae ?_))
  obtain ⟨A, R, hp, hA, back⟩ := OwnB.pick_h0 ho
  have hjl : j < (aG b.s0.hand).length := by rw [aG, List.length_map]; exact (List.getElem?_eq_some_iff.1 hj).1
  have hB63 := hA.lenB
  refine ab _ (az (by omega)) ?_
  refine Ap (O1 := A) (O2 := R) (by simpa using hp) (vL hA hjl) ?_
  intro v' H5 A' hA' l5
  refine ⟨[v'], rfl, ⟨hA'.one, trivial⟩, ?_⟩
  have hA2 : OSl aK 1 v' (aG (b.s0.hand.eraseIdx j)) A' := by rw [aG, ← sk]; exact hA'
  have ho := back _ _ _ hA2
  refine ae (ae ?_)
  refine mq (sC (l := b.objs) (ho.r (fun _ h => h) H5).objs hid (lX hval).1 (lX hval).2 (ry hval)) ?_
  rintro _ H6 ⟨i, f, rfl, f1, f2⟩ l6
  refine ⟨[iV i, .bool f], rfl, ⟨rfl, rfl, trivial⟩, ?_⟩
  have hi : i = k := by
   cases f with
   | false => exact absurd e2 (f2 rfl o (List.mem_of_getElem? e1))
   | true =>
    obtain ⟨o', q1, q2⟩ := f1 rfl
    have n1 := Dg (jb (lX hval).2).2 q1
    rw [q2, e3] at n1
    omega
  subst hi
  refine ae (ae ?_)
  refine aj (FJ o 4 H6 _) rfl (vs := (bD o 4).row) (cO _) fun H7 l7 => ?_
  obtain ⟨a', q1, O1, q2, O2, q3, q4⟩ := OwnB.store_ob ho (X := []) (O' := A' ++ R) (by simp) e1 (bD o 4)
  rw [List.append_nil] at q3
  refine ab _ q1 ?_
  refine aD rfl ?_
  refine ⟨_, q2, ?_⟩
  have ho := OwnB.perm q4 q3
  refine ae (ae (ae ?_))
  refine ah fun r5 => ?_
  obtain ⟨A2, R2, hp2, hA2, back2⟩ := OwnB.pick_stack ho
  obtain ⟨rows, A3, T3, hp3, hA3, hl3, back3⟩ := vo hA2
  have hl3' : rows.length = b.stack.length := hl3
  refine aA (rows := rows) (news := [[iV o.owner, iV id, iV o.card, iV (-1), .slice none 0 0]]) (O1 := A3) (O2 := T3 ++ R2) (e := aU) (size := 5) (bytes := 56) (by kernel_rfl) (hp2.trans ((hp3.append_right R2).trans (List.Perm.of_eq (List.append_assoc _ _ _)))) hA3 (fun Hf _ hf => Sl.block1 (hf _ List.mem_cons_self) rfl ⟨rfl, rfl, rfl, rfl, rfl, trivial⟩) (by rw [hl3', List.length_singleton]; omega) (by rw [hl3', List.length_singleton]; omega) ?_
  intro v2 A4 H8 l8 hA4
  have hfin := back2 _ _ _ (back3 v2 A4 ⟨o.owner, id, o.card, -1, []⟩ (.slice none 0 0) hA4 (.inl (OSl.nil _ _)))
  refine ae (ae (ae (ae ?_)))
  rw [List.append_assoc] at hfin
  have ec : iU b i j o = { dD { b with s0 := { b.s0 with hand := b.s0.hand.eraseIdx j } } i (bD o 4) with stack := b.stack ++ [⟨o.owner, id, o.card, -1, []⟩] } := by
   simp [iU, cM, dt, hown, e2, dD]
  rw [ec]
  exact ai ⟨_, rfl, hfin⟩
 ·rw [hown] at hj
  have hj : b.s1.hand[j]? = some id := hj
  refine ⟨.i64, o.owner, rfl, fun e => absurd e (by omega), fun _ => ⟨.i64, o.owner, rfl, fun _ => ?_, fun e => absurd hown e⟩⟩
  refine ae (ae (ae ?_))
  obtain ⟨A, R, hp, hA, back⟩ := OwnB.pick_h1 ho
  have hjl : j < (aG b.s1.hand).length := by rw [aG, List.length_map]; exact (List.getElem?_eq_some_iff.1 hj).1
  have hB63 := hA.lenB
  refine ab _ (az (by omega)) ?_
  refine Ap (O1 := A) (O2 := R) (by simpa using hp) (vL hA hjl) ?_
  intro v' H5 A' hA' l5
  refine ⟨[v'], rfl, ⟨hA'.one, trivial⟩, ?_⟩
  have hA2 : OSl aK 1 v' (aG (b.s1.hand.eraseIdx j)) A' := by rw [aG, ← sk]; exact hA'
  have ho := back _ _ _ hA2
  refine ae (ae ?_)
  refine mq (sC (l := b.objs) (ho.r (fun _ h => h) H5).objs hid (lX hval).1 (lX hval).2 (ry hval)) ?_
  rintro _ H6 ⟨i, f, rfl, f1, f2⟩ l6
  refine ⟨[iV i, .bool f], rfl, ⟨rfl, rfl, trivial⟩, ?_⟩
  have hi : i = k := by
   cases f with
   | false => exact absurd e2 (f2 rfl o (List.mem_of_getElem? e1))
   | true =>
    obtain ⟨o', q1, q2⟩ := f1 rfl
    have n1 := Dg (jb (lX hval).2).2 q1
    rw [q2, e3] at n1
    omega
  subst hi
  refine ae (ae ?_)
  refine aj (FJ o 4 H6 _) rfl (vs := (bD o 4).row) (cO _) fun H7 l7 => ?_
  obtain ⟨a', q1, O1, q2, O2, q3, q4⟩ := OwnB.store_ob ho (X := []) (O' := A' ++ R) (by simp) e1 (bD o 4)
  rw [List.append_nil] at q3
  refine ab _ q1 ?_
  refine aD rfl ?_
  refine ⟨_, q2, ?_⟩
  have ho := OwnB.perm q4 q3
  refine ae (ae (ae ?_))
  refine ah fun r5 => ?_
  obtain ⟨A2, R2, hp2, hA2, back2⟩ := OwnB.pick_stack ho
  obtain ⟨rows, A3, T3, hp3, hA3, hl3, back3⟩ := vo hA2
  have hl3' : rows.length = b.stack.length := hl3
  refine aA (rows := rows) (news := [[iV o.owner, iV id, iV o.card, iV (-1), .slice none 0 0]]) (O1 := A3) (O2 := T3 ++ R2) (e := aU) (size := 5) (bytes := 56) (by kernel_rfl) (hp2.trans ((hp3.append_right R2).trans (List.Perm.of_eq (List.append_assoc _ _ _)))) hA3 (fun Hf _ hf => Sl.block1 (hf _ List.mem_cons_self) rfl ⟨rfl, rfl, rfl, rfl, rfl, trivial⟩) (by rw [hl3', List.length_singleton]; omega) (by rw [hl3', List.length_singleton]; omega) ?_
  intro v2 A4 H8 l8 hA4
  have hfin := back2 _ _ _ (back3 v2 A4 ⟨o.owner, id, o.card, -1, []⟩ (.slice none 0 0) hA4 (.inl (OSl.nil _ _)))
  refine ae (ae (ae (ae ?_)))
  rw [List.append_assoc] at hfin
  have ec : iU b i j o = { dD { b with s1 := { b.s1 with hand := b.s1.hand.eraseIdx j } } i (bD o 4) with stack := b.stack ++ [⟨o.owner, id, o.card, -1, []⟩] } := by
   simp [iU, cM, dt, hown, e2, dD]
  rw [ec]
  exact ai ⟨_, rfl, hfin⟩
end Go.Proofs.YtieaihgbjikggaaGreat
namespace Go.Proofs.YtieaihgbjikggaaGreat
open Go Go.Sx
set_option maxRecDepth 100000
set_option maxHeartbeats 1000000
theorem uO {b c : Bd} (h : ax b = true) (hpl : bz bd c = true) (hf : eK c = true) (h0 : bE c.s0 = bE b.s0) (h1 : bE c.s1 = bE b.s1)
  (e1 : c.active = b.active) (e2 : c.turn = b.turn) (e3 : c.phase = b.phase) (e4 : c.holder = b.holder) (e5 : c.passes = b.passes) (e7 : c.queue = b.queue) (e8 : c.objs.length = b.objs.length)
  (hs : c.stack.length ≤ 200) (hfine : ∀ x ∈ c.stack, cd x false = true) : ax c = true := by
 have hany : (c.stack.any fun x => !cd x false) = false := by
  rw [List.any_eq_false]
  intro x hx
  rw [hfine x hx]; simp
 simp only [ax, tN, Bool.and_eq_true, Bool.not_eq_true', Bool.or_eq_false_iff, decide_eq_false_iff_not] at h ⊢
 obtain ⟨a1, a2, a3, a4, ⟨⟨⟨a5, a6⟩, a7⟩, a8⟩, a9, a10, a11, a12, a13⟩ := h
 rw [e1, e2, e3, e4, e5, e7, e8, h0, h1]
 exact ⟨a1, a2, a3, a4, ⟨⟨⟨a5, a6⟩, by omega⟩, a8⟩, a9, a10, hany, a12, hpl, hf⟩
theorem ed {b : Bd} (h : ax b = true) {x : It} (hx : x ∈ b.stack) : cd x false = true := List.all_eq_true.1 (aN h).2.2.2 x hx
theorem lD {b : Bd} (h : ax b = true) : b.stack.length ≤ 200 := by
 simp only [ax, tN, Bool.and_eq_true, Bool.not_eq_true', Bool.or_eq_false_iff, decide_eq_false_iff_not] at h
 obtain ⟨a1, a2, a3, a4, ⟨⟨⟨a5, a6⟩, a7⟩, a8⟩, _⟩ := h
 omega
theorem JL {b : Bd} (h : bz bd b = true) : ∀ o ∈ b.objs, ∀ v, cw (aX b.stack) o.id = some v → v = o.card := by
 obtain ⟨_, p2, _⟩ := eE h
 intro o ho v hv
 have := List.all_eq_true.1 p2 o ho
 simp only [ok1, hv, Option.isSome_some, Option.getD_some, Bool.true_and, Bool.and_eq_true, Bool.not_eq_true', bne_eq_false_iff_eq] at this
 exact this.2.2.2
theorem BC {b c : Bd} (h : bz bd b = true) (hp : (aM b).Perm (aM c)) (ho : c.objs = b.objs) (hc : ∀ o ∈ b.objs, ∀ v, cw (aX c.stack) o.id = some v → v = o.card) : bz bd c = true := by
 obtain ⟨p1, p2, p3⟩ := eE h
 have hn := eA h
 rw [← ji] at hn
 simp only [bz, Bool.and_eq_true, decide_eq_true_eq, mj, ho]
 refine ⟨(hp.map _).nodup_iff.1 hn, ⟨p1, ?_⟩, by rw [← hp.length_eq]; exact p3⟩
 rw [List.all_eq_true] at p2 ⊢
 intro o hm
 have h1 := p2 o hm
 have h2 := hc o hm
 simp only [ok1, Bool.and_eq_true, Bool.not_eq_true', ← wE hn hp] at h1 ⊢
 refine ⟨h1.1, h1.2.1, h1.2.2.1, ?_⟩
 cases hv : cw (aX c.stack) o.id with
 | none => rfl
 | some v =>
  have := h2 v hv
  simp [this]
theorem GZ {b : Bd} (h : ax b = true) {x : It} (hx : tG x = true) (ht : x.tgs = []) (hl : b.stack.length < 200) : ax { b with stack := b.stack ++ [x] } = true := by
 have hf := hx
 simp only [tG, Bool.and_eq_true] at hf
 obtain ⟨f1, f2, f3, f4⟩ := hf
 have htr : 0 ≤ x.trig ∧ x.trig ≤ 1 := of_decide_eq_true f4
 have hc : bh (b.stack ++ [x]) = bh b.stack := by
  rw [bh, List.filter_append, List.filter_cons, if_neg (by simp; omega)]
  simp [bh]
 have e1 : cG (b.stack ++ [x]) = cG b.stack := by rw [cG, hc, cG]
 have e2 : aX (b.stack ++ [x]) = aX b.stack := by rw [aX, hc, aX]
 refine uO h (ul (aN h).1 (by simp only [aM]; rw [e1]) rfl e2) (aN h).2.1 rfl rfl rfl rfl rfl rfl rfl rfl rfl (by simp; omega) fun y hy => ?_
 rcases List.mem_append.1 hy with hy | hy
 ·exact ed h hy
 ·rw [List.mem_singleton.1 hy]
  have f5 : aw x.trig (-1) 1 = true := by simp only [aw, decide_eq_true_eq]; omega
  simp [cd, f1, f2, f3, f5, ht]
theorem Ce {α : Type} {a : α} : ∀ {l : List α} {j : Nat}, l[j]? = some a → l.Perm (a :: l.eraseIdx j)
 | [], _, h => by simp at h
 | b :: l, 0, h => by
  simp at h; subst h
  simp
 | b :: l, j + 1, h => by
  have := Ce (l := l) (j := j) (by simpa using h)
  rw [List.eraseIdx_cons_succ]
  exact (this.cons b).trans (List.Perm.swap _ _ _)
theorem ED {s : St} {j : Nat} {id p : Int} (hj : s.hand[j]? = some id) : (bK s p).Perm ((id, p) :: bK { s with hand := s.hand.eraseIdx j } p) := by
 have h1 := Ce hj
 rw [bK, bK, ← List.map_cons (f := fun i => (i, p))]
 refine List.Perm.map _ ?_
 show (s.lib ++ (s.hand ++ (s.field ++ s.grave))).Perm (id :: (s.lib ++ (s.hand.eraseIdx j ++ (s.field ++ s.grave))))
 refine ((h1.append_right _).append_left _).trans ?_
 exact List.perm_middle
theorem HH {b : Bd} (h : ax b = true) {k j : Nat} {o : Ob} (hk : b.objs[k]? = some o) (hj : (dt b o.owner).hand[j]? = some o.id) (hc : 0 ≤ o.card) (hl : b.stack.length < 200) : ax (iU b k j o) = true := by
 have hpl := (aN h).1
 obtain ⟨hvo, hmem, _, hown⟩ := cH hpl hk
 have hset := BB (o' := bD o 4) hpl hk rfl rfl rfl (xi 4 hvo)
 have ec : bh (b.stack ++ [⟨o.owner, o.id, o.card, -1, []⟩]) = bh b.stack ++ [⟨o.owner, o.id, o.card, -1, []⟩] := by
  rw [bh, List.filter_append, List.filter_cons, if_pos (by simp), bh]; rfl
 have e1 : cG (b.stack ++ [⟨o.owner, o.id, o.card, -1, []⟩]) = cG b.stack ++ [(o.id, o.owner)] := by rw [cG, ec, List.map_append, cG]; rfl
 have e2 : aX (b.stack ++ [⟨o.owner, o.id, o.card, -1, []⟩]) = aX b.stack ++ [(o.id, o.card)] := by rw [aX, ec, List.map_append, aX]; rfl
 have hid := uP hvo
 have hcard : o.card < 400 := by
  simp only [bd, Bool.and_eq_true, decide_eq_true_eq] at hvo
  exact hvo.1.2.2
 have hfine : ∀ x ∈ b.stack ++ [(⟨o.owner, o.id, o.card, -1, []⟩ : It)], cd x false = true := by
  intro x hx
  rcases List.mem_append.1 hx with hx | hx
  ·exact ed h hx
  ·rw [List.mem_singleton.1 hx]
   have f1 : aw o.owner 0 1 = true := by simp only [aw, decide_eq_true_eq]; omega
   have f2 : aw o.id 1 500 = true := by simp only [aw, decide_eq_true_eq]; omega
   have f3 : aw o.card 0 399 = true := by simp only [aw, decide_eq_true_eq]; omega
   have f4 : aw (-1) (-1) 1 = true := by decide
   simp [cd, f1, f2, f3, f4]
 have hlook : ∀ y ∈ (dD b k (bD o 4)).objs, ∀ v, cw (aX (b.stack ++ [⟨o.owner, o.id, o.card, -1, []⟩])) y.id = some v → v = y.card := by
  intro y hy v hv
  rw [e2, cw, List.find?_append] at hv
  cases hf : (aX b.stack).find? fun p => y.id == p.1 with
  | some q =>
   rw [hf] at hv
   exact JL hset y hy v (by rw [cw]; show Option.map _ ((aX b.stack).find? fun p => y.id == p.1) = _; rw [hf]; simpa using hv)
  | none =>
   rw [hf] at hv
   simp only [Option.none_or, List.find?_cons] at hv
   split at hv
   ·rename_i he
    have he : y.id = o.id := by simpa using he
    have hv : o.card = v := by simpa using hv
    obtain ⟨k', hk'⟩ := List.mem_iff_getElem?.1 hy
    have hk2 : (dD b k (bD o 4)).objs[k]? = some (bD o 4) := by
     have := (List.getElem?_eq_some_iff.1 hk).1
     simp [dD, this]
    have i1 := (cH hset hk').2.2.1
    have i2 := (cH hset hk2).2.2.1
    have i3 : fL (dD b k (bD o 4)) y.id = k := by rw [he]; exact i2
    have : k' = k := by omega
    subst this
    rw [hk'] at hk2
    rw [Option.some.inj hk2, ← hv]; rfl
   ·simp at hv
 have hlen : (iU b k j o).objs.length = b.objs.length := by
  have : (iU b k j o).objs = b.objs.set k (bD o 4) := by simp only [iU, dD, cM]; split <;> rfl
  rw [this, List.length_set]
 have hst : (iU b k j o).stack = b.stack ++ [⟨o.owner, o.id, o.card, -1, []⟩] := rfl
 rcases hown with hown | hown
 ·have ecb : iU b k j o = { dD { b with s0 := { b.s0 with hand := b.s0.hand.eraseIdx j } } k (bD o 4) with stack := b.stack ++ [⟨o.owner, o.id, o.card, -1, []⟩] } := by simp [iU, cM, dt, hown, dD]
  rw [hown] at hj
  have hj : b.s0.hand[j]? = some o.id := hj
  rw [ecb] at hlen hst ⊢
  refine uO h (BC hset ?_ rfl hlook) (aN h).2.1 rfl rfl rfl rfl rfl rfl rfl rfl hlen (by rw [hst]; simp; omega) (by rw [hst]; exact hfine)
  show (bK b.s0 0 ++ (bK b.s1 1 ++ cG b.stack)).Perm (bK { b.s0 with hand := b.s0.hand.eraseIdx j } 0 ++ (bK b.s1 1 ++ cG (b.stack ++ [⟨o.owner, o.id, o.card, -1, []⟩])))
  rw [e1, hown]
  have assoc : ∀ {X Z W Y : List (Int × Int)}, X ++ (Z ++ (W ++ Y)) = (X ++ (Z ++ W)) ++ Y := by simp
  rw [assoc]
  exact ((ED hj).append_right _).trans (List.perm_append_singleton _ _).symm
 ·have ecb : iU b k j o = { dD { b with s1 := { b.s1 with hand := b.s1.hand.eraseIdx j } } k (bD o 4) with stack := b.stack ++ [⟨o.owner, o.id, o.card, -1, []⟩] } := by simp [iU, cM, dt, hown, dD]
  rw [hown] at hj
  have hj : b.s1.hand[j]? = some o.id := hj
  rw [ecb] at hlen hst ⊢
  refine uO h (BC hset ?_ rfl hlook) (aN h).2.1 rfl rfl rfl rfl rfl rfl rfl rfl hlen (by rw [hst]; simp; omega) (by rw [hst]; exact hfine)
  show (bK b.s0 0 ++ (bK b.s1 1 ++ cG b.stack)).Perm (bK b.s0 0 ++ (bK { b.s1 with hand := b.s1.hand.eraseIdx j } 1 ++ cG (b.stack ++ [⟨o.owner, o.id, o.card, -1, []⟩])))
  rw [e1, hown]
  refine List.Perm.append_left _ ?_
  have assoc : ∀ {Z W Y : List (Int × Int)}, Z ++ (W ++ Y) = (Z ++ W) ++ Y := by simp
  rw [assoc]
  exact ((ED hj).append_right _).trans (List.perm_append_singleton _ _).symm
theorem I6 {b : Bd} (h : ax b = true) {l : List It} {x : It} (hl : b.stack = l ++ [x]) (hx : ¬ x.trig < 0) : ax { b with stack := l } = true := by
 have hc : bh l = bh b.stack := by
  rw [hl, bh, bh, List.filter_append, List.filter_cons, if_neg (by simpa using hx)]
  simp
 have e1 : cG l = cG b.stack := by rw [cG, hc, cG]
 have e2 : aX l = aX b.stack := by rw [aX, hc, aX]
 have hlen := lD h
 refine uO h (ul (aN h).1 (by simp only [aM]; rw [e1]) rfl e2) (aN h).2.1 rfl rfl rfl rfl rfl rfl rfl rfl rfl (by rw [hl] at hlen; simp at hlen; show l.length ≤ 200; omega) fun y hy => ed h (by rw [hl]; exact List.mem_append_left _ hy)
def Ia (x : It) (t : Tg) : It := { x with tgs := x.tgs ++ [t] }
theorem JY {b : Bd} (h : ax b = true) {l : List It} {x : It} (hl : b.stack = l ++ [x]) (hx : x.trig < 0) (h4 : x.tgs.length < 4) {t : Tg} (ht : eC t = true) : ax { b with stack := l ++ [Ia x t] } = true := by
 have e1 : cG (l ++ [Ia x t]) = cG b.stack := by
  rw [hl, cG, cG, bh, bh, List.filter_append, List.filter_append, List.filter_cons, List.filter_cons, if_pos (decide_eq_true (show (Ia x t).trig < 0 from hx)), if_pos (decide_eq_true hx)]
  simp [Ia]
 have e2 : aX (l ++ [Ia x t]) = aX b.stack := by
  rw [hl, aX, aX, bh, bh, List.filter_append, List.filter_append, List.filter_cons, List.filter_cons, if_pos (decide_eq_true (show (Ia x t).trig < 0 from hx)), if_pos (decide_eq_true hx)]
  simp [Ia]
 have hlen := lD h
 have hxf := ed h (x := x) (by rw [hl]; simp)
 refine uO h (ul (aN h).1 (by simp only [aM]; rw [e1]) rfl e2) (aN h).2.1 rfl rfl rfl rfl rfl rfl rfl rfl rfl (by rw [hl] at hlen; simpa using hlen) fun y hy => ?_
 rcases List.mem_append.1 hy with hy | hy
 ·exact ed h (by rw [hl]; exact List.mem_append_left _ hy)
 ·rw [List.mem_singleton.1 hy]
  simp only [cd, Bool.and_eq_true, Bool.not_eq_true', Bool.or_eq_false_iff, decide_eq_false_iff_not, List.any_eq_false, Ia, List.length_append, List.length_singleton, List.mem_append, List.mem_singleton] at hxf ⊢
  obtain ⟨g1, g2, g3, g4, ⟨⟨g5, g6⟩, g7⟩, g8⟩ := hxf
  refine ⟨g1, g2, g3, g4, ⟨⟨by omega, ?_⟩, g7⟩, fun q hq => ?_⟩
  ·have : ¬ (0 ≤ x.trig) := by omega
   simp [this]
  ·rcases hq with hq | rfl
   ·exact g8 q hq
   ·rw [ht]; simp
end Go.Proofs.YtieaihgbjikggaaGreat
namespace Go.Proofs.YtieaihgbjikggaaGreat
open Go Go.Sx
set_option maxRecDepth 100000
set_option maxHeartbeats 1000000
end Go.Proofs.YtieaihgbjikggaaGreat
namespace Go.Sx
open Go
set_option maxRecDepth 100000
set_option maxHeartbeats 1000000
end Go.Sx
namespace Go.Proofs.YtieaihgbjikggaaGreat
open Go Go.Sx
set_option maxRecDepth 100000
set_option maxHeartbeats 1000000
theorem L9 {n : Int} {m : Nat} (h : 0 ≤ n) (hm : 0 < m) : al (.bin .rem .int) [iV n, iV (m : Int)] = some (iV ((n.toNat % m : Nat) : Int)) := by
 simp only [al, fU, ej]
 have h2 : (m : Int) ≠ 0 := by omega
 have h3 : n.tmod (m : Int) = ((n.toNat % m : Nat) : Int) := by
  rw [Int.tmod_eq_emod_of_nonneg h, Int.natCast_emod, Int.toNat_of_nonneg h]
 simp [h2, h3]
 omega
end Go.Proofs.YtieaihgbjikggaaGreat
namespace Go.Proofs.YtieaihgbjikggaaGreat
open Go Go.Sx
set_option maxRecDepth 100000
set_option maxHeartbeats 1000000
theorem Triple.frozen2 {P : Program} {f : FuncId} {args : List Value} {H : Heap} {t : Tys} {b : Bd} {e : Int} (h : Triple P f args H [] fun r _ O' => ∃ w, r = .tuple #[.agg (aq w b).toArray, iV e] ∧ OwnB t w b O') :
  Triple P f args H [] fun r H' O' => (∃ w, r = .tuple #[.agg (aq w b).toArray, iV e] ∧ BdS H' w b) ∧ O' = [] := by
 refine Triple.ghost h ?_
 rintro v H' O' _ hc ⟨w, rfl, ho⟩
 obtain ⟨H'', g, k, _⟩ := ho.freeze (X := []) (by simpa using hc)
 exact ⟨H'', [], by simpa using g, ⟨w, rfl, k⟩, rfl⟩
end Go.Proofs.YtieaihgbjikggaaGreat
