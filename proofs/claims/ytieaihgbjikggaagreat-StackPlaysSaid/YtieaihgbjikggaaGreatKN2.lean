/- What a call of 'known' hands back. -/
import Derived.Test.YtieaihgbjikggaaGreatKN
import Derived.Test.YtieaihgbjikggaaGreatC20
import Derived.Test.YtieaihgbjikggaaGreatM17
import Derived.Test.YtieaihgbjikggaaGreatC31
namespace Go.Proofs.YtieaihgbjikggaaGreat
open Go Go.Sx
set_option maxRecDepth 100000
set_option maxHeartbeats 1000000
end Go.Proofs.YtieaihgbjikggaaGreat
namespace Go.Proofs.YtieaihgbjikggaaGreat
open Go Go.Sx
set_option maxRecDepth 100000
set_option maxHeartbeats 1000000
theorem Ar {P : Program} {f : FuncId} {args : List Value} {H : Heap} {O O1 O2 : Own} {r : Value} {shp : Shp} {K : List Value → List (List Value) → Heap → Own → Prop} {vs : List Value}
  (hO : O.Perm (O1 ++ O2)) (h : Triple P f args H O1 fun v _ _ => v = r) (ho : shp.open r = some vs) (h1 : Ones vs) (hk : ∀ H' O3, Heap.le H H' → K vs [] H' (O3 ++ O2)) :
  iG (fun H1 O1 R => Triple P f args H1 O1 R) false [] [] shp K H O := by
 intro _
 refine ⟨H, O1, O2, _, Ghost.perm hO, h, fun v H' O' hr hle => ?_⟩
 subst hr
 exact ⟨vs, [], O', ho, h1, trivial, rfl, hk H' O' hle⟩
end Go.Proofs.YtieaihgbjikggaaGreat
namespace Go.Proofs.YtieaihgbjikggaaGreat
open Go Go.Sx
set_option maxRecDepth 100000
set_option maxHeartbeats 1000000
theorem vQ (H : Heap) : BdS H un zBd :=
 ⟨Sl.nil H 12, ⟨Sl.nil H 1, Sl.nil H 1, Sl.nil H 1, Sl.nil H 1⟩, ⟨Sl.nil H 1, Sl.nil H 1, Sl.nil H 1, Sl.nil H 1⟩, ⟨[], Sl.nil H 5, rfl, fun i r x h => by simp at h⟩, ⟨[], Sl.nil H 5, rfl, fun i r x h => by simp at h⟩, Sl.nil H 1, Sl.nil H 2⟩
def DW (b : Bd) (o : Ob) : Bd := if 0 ≤ fL b o.id then dD b (fL b o.id).toNat o else b
theorem Nn {H : Heap} {v : dG} {b : Bd} (h : BdS H v b) (hB : bdB b) (o : Ob) : Triple PP jz [.agg (aq v b).toArray, .agg o.row.toArray] H [] fun r _ O' => ∃ w, r = .agg (aq w (DW b o)).toArray ∧ OwnB tys w (DW b o) O' := by
 refine tC (vs := aq v b ++ o.row) (by kernel_rfl) (aL (au (h.r [])) (cO o)) ?_
 simp only [jr]
 refine ah fun r0 => ah fun r1 => ah fun r2 => ?_
 refine ae ?_
 refine ay (Gg h hB) ?_
 rintro _ H3 O3 ⟨w, rfl, ho⟩ l3
 refine ⟨aq w b, rfl, cz H3 ho, ?_⟩
 refine ae (ae (ae ?_))
 refine aj (wB (ho.r (fun p hp => List.mem_append_left _ hp) H3) o.id) rfl ⟨rfl, trivial⟩ fun H4 l4 => ab _ (du _ _) (ak (fun hb => ?_) (fun hb => ?_))
 ·have hb := of_decide_eq_true hb
  obtain ⟨k, x, e1, e2, e3⟩ := sj (b := b) (id := o.id) (by omega)
  have e : DW b o = dD b k o := by simp [DW, e3]
  rw [e, e3]
  obtain ⟨a', q1, O1, q2, O2, q3, q4⟩ := OwnB.store_ob ho (X := []) (O' := O3 ++ []) (by simp) e1 o
  refine ae (ae ?_)
  refine ab _ q1 (aD rfl ⟨_, q2, ?_⟩)
  refine ae (ae (ae ?_))
  exact ai ⟨w, rfl, OwnB.perm q4 (by simpa using q3)⟩
 ·have hb := of_decide_eq_false hb
  have e : DW b o = b := by rw [DW, if_neg (by omega)]
  rw [e]
  refine ae (ae (ae ?_))
  exact ai ⟨w, rfl, OwnB.perm ho (by simp)⟩
theorem No {H : Heap} {v : dG} {b : Bd} (h : BdS H v b) (hB : bdB b) (o : Ob) : Triple PP jz [.agg (aq v b).toArray, .agg o.row.toArray] H [] fun r H' O' => (∃ w, r = .agg (aq w (DW b o)).toArray ∧ BdS H' w (DW b o)) ∧ O' = [] :=
 Triple.frozen (Nn h hB o)
theorem MJ {H : Heap} {wx vw vf vs : dG} {x want src was : Bd} {O1 : Own} (hx : OwnB tys wx x O1) (hw : BdS H vw want) (hf : BdS H vf src) (hs : BdS H vs was) (e no : Int) :
  Triple PP lC [.agg (aq wx x).toArray, iV e, .agg (aq vw want).toArray, iV no, .agg (aq vf src).toArray, .agg (aq vs was).toArray] H O1 fun r _ _ => r = .bool (((x == want) && (e == no)) && (src == was)) := by
 refine qV (vs := aq wx x ++ ([iV e] ++ (aq vw want ++ ([iV no] ++ (aq vf src ++ aq vs was))))) (by kernel_rfl)
  (aL (cz H hx) (aL ⟨rfl, trivial⟩ (aL (au (hw.r [])) (aL ⟨rfl, trivial⟩ (aL (au (hf.r [])) (au (hs.r []))))))) ?_
 simp only [gW]
 refine ah fun r0 => ah fun r1 => ah fun r2 => ah fun r3 => ?_
 refine ae (ae ?_)
 refine aj (IT (hx.r (fun p hp => hp) H) (hw.r O1)) rfl ⟨rfl, trivial⟩ fun H1 l1 => ?_
 refine af (af (ab _ (aH _ _) (af (ab _ (bg _ _) ?_))))
 refine ak (fun hb => ?_) (fun hb => ?_)
 ·refine ae (ae ?_)
  refine aj (IT ((hf.le l1).r O1) ((hs.le l1).r O1)) rfl ⟨rfl, trivial⟩ fun H2 l2 => ?_
  refine ae ?_
  refine Ar (O2 := []) (by simp) (JN hx) rfl trivial fun H3 O3 l3 => ak (fun hc => ?_) (fun hc => ?_)
  ·have l := Heap.le_trans l1 (Heap.le_trans l2 l3)
   refine ae (ae ?_)
   refine aj (IT ((hf.le l).r _) ((hs.le l).r _)) rfl ⟨rfl, trivial⟩ fun H4 l4 => ai ?_
   rw [show ((x == want) && (e == no)) = true from hb, Bool.true_and]; rfl
  ·refine ai ?_
   rw [show (src == was) = false from hc, Bool.and_false]
 ·refine ae ?_
  refine Ar (O2 := []) (by simp) (JN hx) rfl trivial fun H3 O3 l3 => ai ?_
  rw [show ((x == want) && (e == no)) = false from hb, Bool.false_and]
theorem B4 {α : Type} {p q : α → Bool} : ∀ {l : List α} {i : Int}, (∀ x ∈ l, p x = q x) → fq p l i = fq q l i
 | [], _, _ => rfl
 | a :: l, i, h => by
  simp only [fq, h a (by simp), B4 (l := l) fun x hx => h x (by simp [hx])]
theorem Gm {b : Bd} (h : ax b = true) (id : Int) : ∀ x ∈ b.stack, onR id x = mQ id x := by
 intro x hx
 have hf := List.all_eq_true.1 (aN h).2.2.2 x hx
 have ht := EF hf
 simp only [onR, mQ]
 by_cases hn : x.trig < 0
 ·simp [ht hn]
 ·have : ¬ x.trig = -1 := by omega
  simp [hn, this]
theorem LY {b : Bd} (h : ax b = true) (id : Int) : eD (onR id) b id = eD (mQ id) b id := by
 simp only [eD, B4 (Gm h id)]
theorem Bu {id : Int} : ∀ {l : List (Int × Int × List Int)} {s : Int × Int × Int}, iR id l = some s → ∃ x ∈ l, id ∈ x.2.2
 | [], _, h => by simp [iR] at h
 | a :: l, s, h => by
  simp only [iR] at h
  split at h
  ·rename_i hi
   have := Fu a.2.2 id 0 (by omega)
   rw [decide_eq_true hi] at this
   exact ⟨a, by simp, by simpa using this.symm⟩
  ·obtain ⟨x, hx, hm⟩ := Bu h
   exact ⟨x, by simp [hx], hm⟩
theorem Kk {b : Bd} (h : ax b = true) {id : Int} {s : Int × Int × Int} (hs : eD (mQ id) b id = some s) : ¬ fL b id < 0 := by
 have hm : id ∈ (aM b).map (·.1) := by
  rw [ji]
  simp only [M0, MZ, List.mem_append, List.mem_map]
  unfold eD at hs
  split at hs
  ·rename_i s' e
   obtain ⟨x, hx, hm⟩ := Bu e
   simp only [fI, List.mem_cons, List.not_mem_nil, or_false] at hx
   rcases hx with rfl | rfl | rfl | rfl | rfl | rfl | rfl | rfl <;> simp [hm]
  ·split at hs
   ·rename_i hi
    have := wJ (mQ id) b.stack 0 (by omega)
    rw [decide_eq_true hi] at this
    obtain ⟨x, hx, hp⟩ := List.any_eq_true.1 this.symm
    simp only [mQ, Bool.and_eq_true, decide_eq_true_eq, beq_iff_eq] at hp
    right; right
    exact ⟨x, by simp [bh, hx, hp.1], hp.2⟩
   ·cases hs
 obtain ⟨o, ho, e, _⟩ := wC (aN h).1 id hm
 intro hn
 rcases kl (fun x : Ob => x.id == id) b.objs 0 (by omega) with ⟨_, h2⟩ | ⟨k, x, _, _, e3⟩
 ·have := h2 o ho
  simp [e] at this
 ·have : fL b id = k := by rw [fL, e3]; omega
  omega
theorem FY {b : Bd} (h : ax b = true) (id : Int) : dQ b id = AO (eD (onR id) b id) ∧ bt b id = yU (eD (onR id) b id) := by
 rw [LY h]
 by_cases hi : fL b id < 0
 ·have he : bt b id = 9 := by simp [bt, h, hi]
  cases e : eD (mQ id) b id with
  | none => exact ⟨by simp [dQ, he, AO], by simp [he, yU]⟩
  | some s => exact absurd hi (Kk h e)
 ·have he : bt b id = 0 := by simp [bt, h, hi]
  obtain ⟨k, o, e1, e2, _⟩ := sj hi
  obtain ⟨s, hs⟩ := wl h e1
  rw [e2] at hs
  exact ⟨by simp [dQ, he], by simp [he, yU, hs]⟩
end Go.Proofs.YtieaihgbjikggaaGreat
namespace Go.Proofs.YtieaihgbjikggaaGreat
open Go Go.Sx
set_option maxRecDepth 100000
set_option maxHeartbeats 1000000
theorem Np (o : Ob) (H : Heap) (O : Own) : RetO PP mM [.agg o.row.toArray] H O (.agg (Ku o).row.toArray) := by
 refine rO (vs := o.row) (by kernel_rfl) (cO o) ?_
 simp only [iA]
 refine ah fun r0 => ah fun r1 => ?_
 repeat (first | refine ae ?_ | refine af ?_)
 exact ai ⟨rfl, rfl⟩
theorem IU (o : Ob) (z : Int) (H : Heap) (O : Own) : RetO PP lr [.agg o.row.toArray, iV z] H O (.agg (bD o z).row.toArray) := by
 refine qR (vs := o.row ++ [iV z]) (by kernel_rfl) (aL (cO o) ⟨rfl, trivial⟩) ?_
 simp only [gS]
 refine ah fun r0 => ah fun r1 => ?_
 refine ae ?_
 refine aj (Np o H O) rfl (vs := (Ku o).row) (cO _) fun H1 l1 => ?_
 refine ae ?_
 refine ab _ (aH _ _) ?_
 repeat (first | refine ae ?_ | refine af ?_)
 exact ai ⟨rfl, rfl⟩
theorem xh {l : List Int} {i : Nat} (h : i < l.length) (id : Int) : bS (l.take (i + 1)) id = bS (l.take i) id ++ (if l[i] != id then [l[i]] else []) := by
 rw [List.take_add_one, List.getElem?_eq_getElem h, bS, List.filter_append]
 congr 1
 simp only [Option.toList_some, List.filter_cons, List.filter_nil]
theorem E1 (l : List Int) (id : Int) : (bS l id).length ≤ l.length := List.length_filter_le _ _
theorem GX {H : Heap} {v : Value} {l : List Int} (h : Sl H 1 v (aG l)) (hl : l.length ≤ 1000000) (id : Int) : Triple PP fH [v, iV id] H [] fun v' _ O' => OSl aK 1 v' (aG (bS l id)) O' := by
 refine ou (vs := [v, iV id]) (by kernel_rfl) ⟨h.one, rfl, trivial⟩ ?_
 simp only [fB]
 have hlen : al .len [v] = some (iV l.length) := by have := h.len; rwa [aG, List.length_map] at this
 refine dc l.length (fun i x H' O' => Heap.le H H' ∧ OSl aK 1 x (aG (bS (l.take i) id)) O') ⟨Heap.le_refl _, OSl.nil _ _⟩ ?_
 rintro i x H' O' hi - ⟨hle, hx⟩
 refine ab _ hlen (ab _ (aC _ _) (ak (fun hb => ?_) (fun hb => ?_)))
 ·have hlt : i < l.length := by simpa using hb
  obtain ⟨a, h1, h2, h3, h4⟩ := (h.le hle).idx (k := .i64) (i := i) (r := [iV l[i]]) (by simp [aG, hlt])
  refine ab _ h1 (d9 h2 h3 h4 (ab _ (bG _ _) (ak (fun hc => ?_) (fun hc => ?_))))
  ·refine ab _ h1 (d9 h2 h3 h4 (ah fun r0 => ?_))
   have hw : (bS (l.take i) id).length ≤ 1000000 := Nat.le_trans (E1 _ _) (by rw [List.length_take]; omega)
   refine aA (rows := aG (bS (l.take i) id)) (news := [[iV l[i]]]) (O1 := O') (O2 := []) (e := aK) (size := 1) (bytes := 8) (by kernel_rfl) (by simp) hx (fun Hf _ hf => Sl.block1 (hf _ List.mem_cons_self) rfl ⟨rfl, trivial⟩) (by simp [aG]; omega) (by simp [aG]; omega) ?_
   intro v' A' H6 l6 hA'
   refine ab _ (az (by omega)) (aR (by simp [Eqs]) hlt ⟨Heap.le_trans hle l6, ?_⟩)
   rw [List.append_nil, xh hlt, if_pos hc, aG, List.map_append]; exact hA'
  ·refine ab _ (az (by omega)) (aR (by simp [Eqs]) hlt ⟨hle, ?_⟩)
   have hc : (l[i] != id) = false := hc
   rw [xh hlt, if_neg (by rw [hc]; simp), List.append_nil]; exact hx
 ·have hge : l.length ≤ i := by simpa using hb
  rw [List.take_of_length_le hge] at hx
  exact ai hx
theorem Triple.frozenS {P : Program} {f : FuncId} {args : List Value} {H : Heap} {e : TypeId} {size : Nat} {rows : List (List Value)} (h : Triple P f args H [] fun v _ O' => OSl e size v rows O') :
  Triple P f args H [] fun v H' O' => Sl H' size v rows ∧ O' = [] := by
 refine h.ghost ?_
 intro v H' O' _ hc ho
 obtain ⟨H'', g, k, _⟩ := ho.freeze (X := []) (by simpa using hc)
 exact ⟨H'', [], by simpa using g, k, rfl⟩
theorem iY {H : Heap} {v : Value} {l : List Int} (h : Sl H 1 v (aG l)) (hl : l.length ≤ 1000000) (id : Int) : Triple PP fH [v, iV id] H [] fun v' H' O' => Sl H' 1 v' (aG (bS l id)) ∧ O' = [] :=
 Triple.frozenS (GX h hl id)
def AM (b : Bd) (id : Int) : Bd := { nb b id with stack := b.stack.filter fun x => !onR id x }
def prR (id : Int) (row : List Value) : Bool := (asI (g row 3) == some (-1)) && asI (g row 1) == some id
theorem Fg {b : Bd} (h : ax b = true) (id : Int) : AM b id = nb b id := by
 have : (b.stack.filter fun x => !onR id x) = b.stack.filter fun x => !mQ id x := List.filter_congr fun x hx => by rw [Gm h id x hx]
 simp only [AM, nb, this]
theorem eJ {α : Type} {p : α → Bool} {l : List α} {i : Nat} (h : i < l.length) : (l.take (i + 1)).filter p = (l.take i).filter p ++ (if p l[i] then [l[i]] else []) := by
 rw [List.take_add_one, List.getElem?_eq_getElem h, List.filter_append]
 congr 1
 simp only [Option.toList_some, List.filter_cons, List.filter_nil]
theorem uy {P : Program} {lab key : Nat} {x0 : Value} {body : (List Value → Heap → Own → Prop) → List Value → Tree} {H : Heap} {O : Own} {Q : Value → Heap → Own → Prop} (n : Nat) (R : Nat → Value → Heap → Own → Prop)
  (h0 : Cons H O → ∃ H1 O1, Ghost H O H1 O1 ∧ R 0 x0 H1 O1) (step : ∀ i x H' O', i ≤ n → Heap.le H H' → R i x H' O' → (body (Ih (IY n R) (MY n) (n - i)) [x, iV i]).den P Q H' O') :
  (Tree.loop lab key [x0, iV 0] body).den P Q H O := by
 refine ⟨IY n R, MY n, fun hc => ?_, ?_⟩
 ·obtain ⟨H1, O1, g, r⟩ := h0 hc
  exact ⟨H1, O1, g, 0, x0, rfl, Nat.zero_le _, r⟩
 ·rintro vs H' O' _ _ hle ⟨i, x, rfl, hi, hr⟩
  exact step i x H' O' hi hle hr
theorem Nr {H : Heap} {v : dG} {b : Bd} (h : BdS H v b) (hB : bdB b) (id : Int) : Triple PP nw [.agg (aq v b).toArray, iV id] H [] fun r H' O' => (∃ w, r = .agg (aq w (AM b id)).toArray ∧ BdS H' w (AM b id)) ∧ O' = [] := by
 refine tE (vs := aq v b ++ [iV id]) (by kernel_rfl) (aL (au (h.r [])) ⟨rfl, trivial⟩) ?_
 simp only [jt]
 have hB' := hB
 obtain ⟨b1, ⟨b2, b3, b4, b5⟩, ⟨b6, b7, b8, b9⟩, ⟨b10, b10'⟩, b11, b12, b13⟩ := hB
 refine ah fun r0 => ah fun r1 => ?_
 refine ae ?_
 refine ay (Triple.frozen (Gg h hB')) ?_
 rintro _ H1 _ ⟨⟨w, rfl, hw⟩, rfl⟩ l1
 refine ⟨aq w b, rfl, au (hw.r []), ?_⟩
 repeat (first | refine ae ?_ | refine af ?_)
 refine ay (iY hw.s0.lib b2 id) ?_
 rintro x0 K0 _ ⟨z0, rfl⟩ j0
 refine ⟨[x0], rfl, ⟨z0.one, trivial⟩, ?_⟩
 replace hw := hw.le j0
 refine ay (iY hw.s0.hand b3 id) ?_
 rintro x1 K1 _ ⟨z1, rfl⟩ j1
 refine ⟨[x1], rfl, ⟨z1.one, trivial⟩, ?_⟩
 replace hw := hw.le j1
 replace z0 := z0.le j1
 refine ay (iY hw.s0.field b4 id) ?_
 rintro x2 K2 _ ⟨z2, rfl⟩ j2
 refine ⟨[x2], rfl, ⟨z2.one, trivial⟩, ?_⟩
 replace hw := hw.le j2
 replace z0 := z0.le j2
 replace z1 := z1.le j2
 refine ay (iY hw.s0.grave b5 id) ?_
 rintro x3 K3 _ ⟨z3, rfl⟩ j3
 refine ⟨[x3], rfl, ⟨z3.one, trivial⟩, ?_⟩
 replace hw := hw.le j3
 replace z0 := z0.le j3
 replace z1 := z1.le j3
 replace z2 := z2.le j3
 repeat (first | refine ae ?_ | refine af ?_)
 refine ay (iY hw.s1.lib b6 id) ?_
 rintro x4 K4 _ ⟨z4, rfl⟩ j4
 refine ⟨[x4], rfl, ⟨z4.one, trivial⟩, ?_⟩
 replace hw := hw.le j4
 replace z0 := z0.le j4
 replace z1 := z1.le j4
 replace z2 := z2.le j4
 replace z3 := z3.le j4
 refine ay (iY hw.s1.hand b7 id) ?_
 rintro x5 K5 _ ⟨z5, rfl⟩ j5
 refine ⟨[x5], rfl, ⟨z5.one, trivial⟩, ?_⟩
 replace hw := hw.le j5
 replace z0 := z0.le j5
 replace z1 := z1.le j5
 replace z2 := z2.le j5
 replace z3 := z3.le j5
 replace z4 := z4.le j5
 refine ay (iY hw.s1.field b8 id) ?_
 rintro x6 K6 _ ⟨z6, rfl⟩ j6
 refine ⟨[x6], rfl, ⟨z6.one, trivial⟩, ?_⟩
 replace hw := hw.le j6
 replace z0 := z0.le j6
 replace z1 := z1.le j6
 replace z2 := z2.le j6
 replace z3 := z3.le j6
 replace z4 := z4.le j6
 replace z5 := z5.le j6
 refine ay (iY hw.s1.grave b9 id) ?_
 rintro x7 K7 _ ⟨z7, rfl⟩ j7
 refine ⟨[x7], rfl, ⟨z7.one, trivial⟩, ?_⟩
 replace hw := hw.le j7
 replace z0 := z0.le j7
 replace z1 := z1.le j7
 replace z2 := z2.le j7
 replace z3 := z3.le j7
 replace z4 := z4.le j7
 replace z5 := z5.le j7
 replace z6 := z6.le j7
 have hsl := ItsR.len (hw.r []).stack
 have hsone := ItsR.one (hw.r []).stack
 obtain ⟨rows, hs, hrl, hit⟩ := hw.stack
 refine ae (ae (ae (ae ?_)))
 refine dc b.stack.length (fun i x H' O' => Heap.le K7 H' ∧ OSl aU 5 x ((rows.take i).filter fun r => !prR id r) O') ⟨Heap.le_refl _, OSl.nil _ _⟩ ?_
 rintro i x H' O' hi - ⟨hle, hx⟩
 refine ae ?_
 refine ab _ hsl (ab _ (aC _ _) (ak (fun hb => ?_) (fun hb => ?_)))
 ·have hlt : i < b.stack.length := by simpa using hb
  have hlt2 : i < rows.length := by omega
  obtain ⟨s, hrow, hst⟩ := hit i rows[i] b.stack[i] (List.getElem?_eq_getElem hlt2) (List.getElem?_eq_getElem hlt)
  obtain ⟨a, h1, h2, h3, h4⟩ := (hs.le hle).idx (k := .i64) (i := i) (List.getElem?_eq_getElem hlt2)
  have hpr : prR id rows[i] = onR id b.stack[i] := by
   rw [hrow]
   show ((some b.stack[i].trig == some (-1)) && (some b.stack[i].id == some id)) = onR id b.stack[i]
   simp [onR]
  have hft := eJ (p := fun r => !prR id r) hlt2
  simp only [hpr] at hft
  rw [hrow] at h2 h3 h4
  refine ae ?_
  refine ab _ h1 (d9 h2 h3 h4 (ah fun r2 => ?_))
  refine ae (ae (ab _ (bG _ _) (ae (af (af (af (ab _ (bG _ _) (af (ab _ (aO _ _) ?_)))))))))
  have hcond : (b.stack[i].trig != -1 || b.stack[i].id != id) = !onR id b.stack[i] := by
   simp only [onR, bne, Bool.not_and]
  refine ak (fun hc => ?_) (fun hc => ?_)
  ·have hc : (b.stack[i].trig != -1 || b.stack[i].id != id) = true := hc
   rw [hcond] at hc
   have hw1 : ((rows.take i).filter fun r => !prR id r).length ≤ 1000000 := Nat.le_trans (List.length_filter_le _ _) (by rw [List.length_take]; omega)
   refine ae ?_
   refine ah fun r3 => ?_
   refine aA (rows := (rows.take i).filter fun r => !prR id r) (news := [[iV b.stack[i].player, iV b.stack[i].id, iV b.stack[i].card, iV b.stack[i].trig, s]]) (O1 := O') (O2 := []) (e := aU) (size := 5) (bytes := 56) (by kernel_rfl) (by simp) hx
    (fun Hf _ hf => Sl.block1 (hf _ List.mem_cons_self) rfl h4) (by simp; omega) (by simp; omega) ?_
   intro v' A' H6 l6 hA'
   refine ab _ (az (by omega)) (aR (by simp [Eqs]) hlt ⟨Heap.le_trans hle l6, ?_⟩)
   rw [List.append_nil, hft, if_pos hc, hrow]; exact hA'
  ·have hc : (b.stack[i].trig != -1 || b.stack[i].id != id) = false := hc
   rw [hcond] at hc
   refine ab _ (az (by omega)) (aR (by simp [Eqs]) hlt ⟨hle, ?_⟩)
   rw [hft, if_neg (by rw [hc]; simp), List.append_nil]; exact hx
 have hge : b.stack.length ≤ i := by simpa using hb
 rw [List.take_of_length_le (by omega)] at hx
 clear hb
 have hbl : al .len [w.b] = some (iV b.blocks.length) := by have := hw.blocks.len; rwa [List.length_map] at this
 refine uy b.blocks.length (fun j y H2 O2 => Heap.le H' H2 ∧ Sl H2 5 x (rows.filter fun r => !prR id r) ∧ OSl bf 2 y (((b.blocks.take j).filter fun x => !eh id x).map Bl.row) O2) (fun hc => ?_) ?_
 ·obtain ⟨H2, g, k, l2⟩ := hx.freeze (X := []) (by simpa using hc)
  exact ⟨H2, [], by simpa using g, l2, k, OSl.nil _ _⟩
 rintro j y H2 O2 hj - ⟨hle2, hxs, hy⟩
 refine ae ?_
 refine ab _ hbl (ab _ (aC _ _) (ak (fun hb => ?_) (fun hb => ?_)))
 ·have hlt : j < b.blocks.length := by simpa using hb
  obtain ⟨a, h1, h2, h3, h4⟩ := (hw.blocks.le (Heap.le_trans hle hle2)).idx (k := .i64) (i := j) (r := Bl.row b.blocks[j]) (by simp [hlt])
  have hft := eJ (p := fun x => !eh id x) hlt
  refine ae ?_
  refine ab _ h1 (d9 h2 h3 h4 (ah fun r2 => ?_))
  refine ae (ae (ab _ (bG _ _) (ae (af (af (af (ab _ (bG _ _) (af (ab _ (bg _ _) ?_)))))))))
  have hcond : (b.blocks[j].blocker != id && b.blocks[j].attacker != id) = !eh id b.blocks[j] := by
   simp only [eh, bne, Bool.not_or]
  refine ak (fun hc => ?_) (fun hc => ?_)
  ·have hc : (b.blocks[j].blocker != id && b.blocks[j].attacker != id) = true := hc
   rw [hcond] at hc
   have hw1 : ((b.blocks.take j).filter fun x => !eh id x).length ≤ 1000000 := Nat.le_trans (List.length_filter_le _ _) (by rw [List.length_take]; omega)
   refine ae ?_
   refine ah fun r3 => ?_
   refine aA (rows := ((b.blocks.take j).filter fun x => !eh id x).map Bl.row) (news := [Bl.row b.blocks[j]]) (O1 := O2) (O2 := []) (e := bf) (size := 2) (bytes := 16) (by kernel_rfl) (by simp) hy
    (fun Hf _ hf => Sl.block1 (hf _ List.mem_cons_self) rfl h4) (by simp; omega) (by simp; omega) ?_
   intro v' A' H6 l6 hA'
   refine ab _ (az (by omega)) (aR (by simp [Eqs]) hlt ⟨Heap.le_trans hle2 l6, hxs.le l6, ?_⟩)
   rw [List.append_nil, hft, if_pos hc, List.map_append]; exact hA'
  ·have hc : (b.blocks[j].blocker != id && b.blocks[j].attacker != id) = false := hc
   rw [hcond] at hc
   refine ab _ (az (by omega)) (aR (by simp [Eqs]) hlt ⟨hle2, hxs, ?_⟩)
   rw [hft, if_neg (by rw [hc]; simp), List.append_nil]; exact hy
 have hge2 : b.blocks.length ≤ j := by simpa using hb
 rw [List.take_of_length_le hge2] at hy
 have lz := Heap.le_trans hle hle2
 refine ae ?_
 refine ay (iY (hw.att.le lz) b12 id) ?_
 rintro x8 K8 _ ⟨z8, rfl⟩ j8
 refine ⟨[x8], rfl, ⟨z8.one, trivial⟩, ?_⟩
 have lz8 := Heap.le_trans lz j8
 repeat (first | refine ae ?_ | refine af ?_)
 intro hc
 obtain ⟨H9, g9, k9, l9⟩ := hy.freeze (X := []) (hc.perm (by simp))
 have lz9 := Heap.le_trans lz8 l9
 obtain ⟨f1, f2⟩ := JD (p := fun r => !prR id r) (q := fun x => !onR id x) (R := fun r (x : It) => ∃ s, r = [iV x.player, iV x.id, iV x.card, iV x.trig, s] ∧ Sl H9 2 s (x.tgs.map Tg.row)) (fun r x ⟨s, e, _⟩ => by
  rw [e]
  show (!((some x.trig == some (-1)) && (some x.id == some id))) = !onR id x
  simp [onR]) rows b.stack hrl fun i r x a c => by
   obtain ⟨s, e, k⟩ := hit i r x a c
   exact ⟨s, e, k.le lz9⟩
 refine ⟨H9, [], (Ghost.perm (by simp)).trans g9, ⟨⟨w.o, x0, x1, x2, x3, x4, x5, x6, x7, x, w.q, x8, y⟩, rfl, ?_⟩, rfl⟩
 exact ⟨hw.objs.le lz9, ⟨z0.le lz9, z1.le lz9, z2.le lz9, z3.le lz9⟩, ⟨z4.le lz9, z5.le lz9, z6.le lz9, z7.le lz9⟩, ⟨_, hxs.le (Heap.le_trans j8 l9), f1, f2⟩, hw.queue.le lz9, z8.le l9, k9⟩
theorem Od {H : Heap} {v : dG} {b : Bd} (h : BdS H v b) (hB : bdB b) (o : Ob) (ho : o.owner = 0 ∨ o.owner = 1) (z : Int) : Triple PP nu [.agg (aq v b).toArray, .agg o.row.toArray, iV z] H [] fun r H' O' => (∃ w, r = .agg (aq w (oS b o.owner z o.id)).toArray ∧ BdS H' w (oS b o.owner z o.id)) ∧ O' = [] := by
 refine tD (vs := aq v b ++ (o.row ++ [iV z])) (by kernel_rfl) (aL (au (h.r [])) (aL (cO o) ⟨rfl, trivial⟩)) ?_
 simp only [js]
 obtain ⟨b1, ⟨b2, b3, b4, b5⟩, ⟨b6, b7, b8, b9⟩, _⟩ := hB
 refine ah fun r0 => ah fun r1 => ah fun r2 => ?_
 refine ae ?_
 have el : g (aq v b ++ (o.row ++ [iV z])) 40 = iV o.owner := rfl
 rw [el]
 rcases ho with ho | ho
 ·rw [ho]
  refine ⟨.i64, 0, rfl, fun _ => ?_, fun e => absurd rfl e⟩
  refine ab _ (aH _ _) (ak (fun hb => ?_) (fun n0 => ?_))
  ·have hz : z = 0 := by simpa using hb
   subst hz
   refine ae (ae ?_)
   refine dm (e := aK) (size := 1) (bytes := 8) (by kernel_rfl) h.s0.lib (by simp [aG]; omega) (by simp [aG]; omega) fun xa Oa H1 lA pa => ?_
   refine ah fun r3 => ?_
   refine aA (rows := aG b.s0.lib) (news := [[iV o.id]]) (O1 := Oa) (O2 := []) (e := aK) (size := 1) (bytes := 8) (by kernel_rfl) (by simp) pa (fun Hf _ hf => Sl.block1 (hf _ List.mem_cons_self) rfl ⟨rfl, trivial⟩) (by simp [aG]; omega) (by simp [aG]; omega) ?_
   intro v' A' H6 l6 hA'
   have hA2 : OSl aK 1 v' (aG (b.s0.lib ++ [o.id])) A' := by rw [aG, List.map_append]; exact hA'
   refine ae (ae (ae (ae ?_)))
   intro hc
   obtain ⟨H9, g9, kz, l9⟩ := hA2.freeze (X := []) (hc.perm (by simp))
   have lz := Heap.le_trans lA (Heap.le_trans l6 l9)
   exact ⟨H9, [], (Ghost.perm (by simp)).trans g9, ⟨{ v with l0 := v' }, rfl, ⟨(h.le lz).objs, ⟨kz, (h.le lz).s0.hand, (h.le lz).s0.field, (h.le lz).s0.grave⟩, (h.le lz).s1, (h.le lz).stack, (h.le lz).queue, (h.le lz).att, (h.le lz).blocks⟩⟩, rfl⟩
  refine ab _ (aH _ _) (ak (fun hb => ?_) (fun n1 => ?_))
  ·have hz : z = 1 := by simpa using hb
   subst hz
   refine ae (ae ?_)
   refine dm (e := aK) (size := 1) (bytes := 8) (by kernel_rfl) h.s0.hand (by simp [aG]; omega) (by simp [aG]; omega) fun xa Oa H1 lA pa => ?_
   refine ah fun r3 => ?_
   refine aA (rows := aG b.s0.hand) (news := [[iV o.id]]) (O1 := Oa) (O2 := []) (e := aK) (size := 1) (bytes := 8) (by kernel_rfl) (by simp) pa (fun Hf _ hf => Sl.block1 (hf _ List.mem_cons_self) rfl ⟨rfl, trivial⟩) (by simp [aG]; omega) (by simp [aG]; omega) ?_
   intro v' A' H6 l6 hA'
   have hA2 : OSl aK 1 v' (aG (b.s0.hand ++ [o.id])) A' := by rw [aG, List.map_append]; exact hA'
   refine ae (ae (ae (ae ?_)))
   intro hc
   obtain ⟨H9, g9, kz, l9⟩ := hA2.freeze (X := []) (hc.perm (by simp))
   have lz := Heap.le_trans lA (Heap.le_trans l6 l9)
   exact ⟨H9, [], (Ghost.perm (by simp)).trans g9, ⟨{ v with h0 := v' }, rfl, ⟨(h.le lz).objs, ⟨(h.le lz).s0.lib, kz, (h.le lz).s0.field, (h.le lz).s0.grave⟩, (h.le lz).s1, (h.le lz).stack, (h.le lz).queue, (h.le lz).att, (h.le lz).blocks⟩⟩, rfl⟩
  refine ab _ (aH _ _) (ak (fun hb => ?_) (fun n2 => ?_))
  ·have hz : z = 2 := by simpa using hb
   subst hz
   refine ae (ae ?_)
   refine dm (e := aK) (size := 1) (bytes := 8) (by kernel_rfl) h.s0.field (by simp [aG]; omega) (by simp [aG]; omega) fun xa Oa H1 lA pa => ?_
   refine ah fun r3 => ?_
   refine aA (rows := aG b.s0.field) (news := [[iV o.id]]) (O1 := Oa) (O2 := []) (e := aK) (size := 1) (bytes := 8) (by kernel_rfl) (by simp) pa (fun Hf _ hf => Sl.block1 (hf _ List.mem_cons_self) rfl ⟨rfl, trivial⟩) (by simp [aG]; omega) (by simp [aG]; omega) ?_
   intro v' A' H6 l6 hA'
   have hA2 : OSl aK 1 v' (aG (b.s0.field ++ [o.id])) A' := by rw [aG, List.map_append]; exact hA'
   refine ae (ae (ae (ae ?_)))
   intro hc
   obtain ⟨H9, g9, kz, l9⟩ := hA2.freeze (X := []) (hc.perm (by simp))
   have lz := Heap.le_trans lA (Heap.le_trans l6 l9)
   exact ⟨H9, [], (Ghost.perm (by simp)).trans g9, ⟨{ v with f0 := v' }, rfl, ⟨(h.le lz).objs, ⟨(h.le lz).s0.lib, (h.le lz).s0.hand, kz, (h.le lz).s0.grave⟩, (h.le lz).s1, (h.le lz).stack, (h.le lz).queue, (h.le lz).att, (h.le lz).blocks⟩⟩, rfl⟩
  refine ab _ (aH _ _) (ak (fun hb => ?_) (fun n3 => ?_))
  ·have hz : z = 3 := by simpa using hb
   subst hz
   refine ae (ae ?_)
   refine dm (e := aK) (size := 1) (bytes := 8) (by kernel_rfl) h.s0.grave (by simp [aG]; omega) (by simp [aG]; omega) fun xa Oa H1 lA pa => ?_
   refine ah fun r3 => ?_
   refine aA (rows := aG b.s0.grave) (news := [[iV o.id]]) (O1 := Oa) (O2 := []) (e := aK) (size := 1) (bytes := 8) (by kernel_rfl) (by simp) pa (fun Hf _ hf => Sl.block1 (hf _ List.mem_cons_self) rfl ⟨rfl, trivial⟩) (by simp [aG]; omega) (by simp [aG]; omega) ?_
   intro v' A' H6 l6 hA'
   have hA2 : OSl aK 1 v' (aG (b.s0.grave ++ [o.id])) A' := by rw [aG, List.map_append]; exact hA'
   refine ae (ae (ae (ae ?_)))
   intro hc
   obtain ⟨H9, g9, kz, l9⟩ := hA2.freeze (X := []) (hc.perm (by simp))
   have lz := Heap.le_trans lA (Heap.le_trans l6 l9)
   exact ⟨H9, [], (Ghost.perm (by simp)).trans g9, ⟨{ v with g0 := v' }, rfl, ⟨(h.le lz).objs, ⟨(h.le lz).s0.lib, (h.le lz).s0.hand, (h.le lz).s0.field, kz⟩, (h.le lz).s1, (h.le lz).stack, (h.le lz).queue, (h.le lz).att, (h.le lz).blocks⟩⟩, rfl⟩
  refine ae (ae (ae ?_))
  have e : oS b 0 z o.id = b := by
   have n0 : ¬ z = 0 := by simpa using n0
   have n1 : ¬ z = 1 := by simpa using n1
   have n2 : ¬ z = 2 := by simpa using n2
   have n3 : ¬ z = 3 := by simpa using n3
   simp only [oS, Fd, n0, n1, n2, n3, if_false]
   rfl
  rw [e]
  exact ai ⟨⟨v, rfl, h⟩, rfl⟩
 ·rw [ho]
  refine ⟨.i64, 1, rfl, fun e => absurd e (by omega), fun _ => ⟨.i64, 1, rfl, fun _ => ?_, fun e => absurd rfl e⟩⟩
  refine ab _ (aH _ _) (ak (fun hb => ?_) (fun n0 => ?_))
  ·have hz : z = 0 := by simpa using hb
   subst hz
   refine ae (ae ?_)
   refine dm (e := aK) (size := 1) (bytes := 8) (by kernel_rfl) h.s1.lib (by simp [aG]; omega) (by simp [aG]; omega) fun xa Oa H1 lA pa => ?_
   refine ah fun r3 => ?_
   refine aA (rows := aG b.s1.lib) (news := [[iV o.id]]) (O1 := Oa) (O2 := []) (e := aK) (size := 1) (bytes := 8) (by kernel_rfl) (by simp) pa (fun Hf _ hf => Sl.block1 (hf _ List.mem_cons_self) rfl ⟨rfl, trivial⟩) (by simp [aG]; omega) (by simp [aG]; omega) ?_
   intro v' A' H6 l6 hA'
   have hA2 : OSl aK 1 v' (aG (b.s1.lib ++ [o.id])) A' := by rw [aG, List.map_append]; exact hA'
   refine ae (ae (ae (ae ?_)))
   intro hc
   obtain ⟨H9, g9, kz, l9⟩ := hA2.freeze (X := []) (hc.perm (by simp))
   have lz := Heap.le_trans lA (Heap.le_trans l6 l9)
   exact ⟨H9, [], (Ghost.perm (by simp)).trans g9, ⟨{ v with l1 := v' }, rfl, ⟨(h.le lz).objs, (h.le lz).s0, ⟨kz, (h.le lz).s1.hand, (h.le lz).s1.field, (h.le lz).s1.grave⟩, (h.le lz).stack, (h.le lz).queue, (h.le lz).att, (h.le lz).blocks⟩⟩, rfl⟩
  refine ab _ (aH _ _) (ak (fun hb => ?_) (fun n1 => ?_))
  ·have hz : z = 1 := by simpa using hb
   subst hz
   refine ae (ae ?_)
   refine dm (e := aK) (size := 1) (bytes := 8) (by kernel_rfl) h.s1.hand (by simp [aG]; omega) (by simp [aG]; omega) fun xa Oa H1 lA pa => ?_
   refine ah fun r3 => ?_
   refine aA (rows := aG b.s1.hand) (news := [[iV o.id]]) (O1 := Oa) (O2 := []) (e := aK) (size := 1) (bytes := 8) (by kernel_rfl) (by simp) pa (fun Hf _ hf => Sl.block1 (hf _ List.mem_cons_self) rfl ⟨rfl, trivial⟩) (by simp [aG]; omega) (by simp [aG]; omega) ?_
   intro v' A' H6 l6 hA'
   have hA2 : OSl aK 1 v' (aG (b.s1.hand ++ [o.id])) A' := by rw [aG, List.map_append]; exact hA'
   refine ae (ae (ae (ae ?_)))
   intro hc
   obtain ⟨H9, g9, kz, l9⟩ := hA2.freeze (X := []) (hc.perm (by simp))
   have lz := Heap.le_trans lA (Heap.le_trans l6 l9)
   exact ⟨H9, [], (Ghost.perm (by simp)).trans g9, ⟨{ v with h1 := v' }, rfl, ⟨(h.le lz).objs, (h.le lz).s0, ⟨(h.le lz).s1.lib, kz, (h.le lz).s1.field, (h.le lz).s1.grave⟩, (h.le lz).stack, (h.le lz).queue, (h.le lz).att, (h.le lz).blocks⟩⟩, rfl⟩
  refine ab _ (aH _ _) (ak (fun hb => ?_) (fun n2 => ?_))
  ·have hz : z = 2 := by simpa using hb
   subst hz
   refine ae (ae ?_)
   refine dm (e := aK) (size := 1) (bytes := 8) (by kernel_rfl) h.s1.field (by simp [aG]; omega) (by simp [aG]; omega) fun xa Oa H1 lA pa => ?_
   refine ah fun r3 => ?_
   refine aA (rows := aG b.s1.field) (news := [[iV o.id]]) (O1 := Oa) (O2 := []) (e := aK) (size := 1) (bytes := 8) (by kernel_rfl) (by simp) pa (fun Hf _ hf => Sl.block1 (hf _ List.mem_cons_self) rfl ⟨rfl, trivial⟩) (by simp [aG]; omega) (by simp [aG]; omega) ?_
   intro v' A' H6 l6 hA'
   have hA2 : OSl aK 1 v' (aG (b.s1.field ++ [o.id])) A' := by rw [aG, List.map_append]; exact hA'
   refine ae (ae (ae (ae ?_)))
   intro hc
   obtain ⟨H9, g9, kz, l9⟩ := hA2.freeze (X := []) (hc.perm (by simp))
   have lz := Heap.le_trans lA (Heap.le_trans l6 l9)
   exact ⟨H9, [], (Ghost.perm (by simp)).trans g9, ⟨{ v with f1 := v' }, rfl, ⟨(h.le lz).objs, (h.le lz).s0, ⟨(h.le lz).s1.lib, (h.le lz).s1.hand, kz, (h.le lz).s1.grave⟩, (h.le lz).stack, (h.le lz).queue, (h.le lz).att, (h.le lz).blocks⟩⟩, rfl⟩
  refine ab _ (aH _ _) (ak (fun hb => ?_) (fun n3 => ?_))
  ·have hz : z = 3 := by simpa using hb
   subst hz
   refine ae (ae ?_)
   refine dm (e := aK) (size := 1) (bytes := 8) (by kernel_rfl) h.s1.grave (by simp [aG]; omega) (by simp [aG]; omega) fun xa Oa H1 lA pa => ?_
   refine ah fun r3 => ?_
   refine aA (rows := aG b.s1.grave) (news := [[iV o.id]]) (O1 := Oa) (O2 := []) (e := aK) (size := 1) (bytes := 8) (by kernel_rfl) (by simp) pa (fun Hf _ hf => Sl.block1 (hf _ List.mem_cons_self) rfl ⟨rfl, trivial⟩) (by simp [aG]; omega) (by simp [aG]; omega) ?_
   intro v' A' H6 l6 hA'
   have hA2 : OSl aK 1 v' (aG (b.s1.grave ++ [o.id])) A' := by rw [aG, List.map_append]; exact hA'
   refine ae (ae (ae (ae ?_)))
   intro hc
   obtain ⟨H9, g9, kz, l9⟩ := hA2.freeze (X := []) (hc.perm (by simp))
   have lz := Heap.le_trans lA (Heap.le_trans l6 l9)
   exact ⟨H9, [], (Ghost.perm (by simp)).trans g9, ⟨{ v with g1 := v' }, rfl, ⟨(h.le lz).objs, (h.le lz).s0, ⟨(h.le lz).s1.lib, (h.le lz).s1.hand, (h.le lz).s1.field, kz⟩, (h.le lz).stack, (h.le lz).queue, (h.le lz).att, (h.le lz).blocks⟩⟩, rfl⟩
  refine ae (ae (ae ?_))
  have e : oS b 1 z o.id = b := by
   have n0 : ¬ z = 0 := by simpa using n0
   have n1 : ¬ z = 1 := by simpa using n1
   have n2 : ¬ z = 2 := by simpa using n2
   have n3 : ¬ z = 3 := by simpa using n3
   simp only [oS, Fd, n0, n1, n2, n3, if_false]
   rfl
  rw [e]
  exact ai ⟨⟨v, rfl, h⟩, rfl⟩
theorem Lv {b : Bd} (h : bdB b) (id : Int) : bdB (AM b id) := by
 have := Lw h id
 exact ⟨this.1, this.2.1, this.2.2.1, ⟨Nat.le_trans (List.length_filter_le _ _) h.2.2.2.1.1, fun x hx => h.2.2.2.1.2 x (List.mem_filter.1 hx).1⟩, this.2.2.2.2⟩
theorem LZ {b : Bd} (h : bdB b) (k : Nat) (o : Ob) : bdB (dD b k o) := ⟨by simpa [dD] using h.1, h.2⟩
def Jj (b : Bd) (k : Nat) (o : Ob) (z : Int) : Bd := oS (dD (AM b o.id) k o) o.owner z o.id
theorem Ns {H : Heap} {v : dG} {b : Bd} (h : BdS H v b) (hB : bdB b) {k : Nat} {o : Ob} (hk : b.objs[k]? = some o) (hidx : fL b o.id = k) (ho : o.owner = 0 ∨ o.owner = 1) (z : Int) :
  Triple PP iE [.agg (aq v b).toArray, iV o.id, iV z] H [] fun r H' O' => (∃ w, r = .agg (aq w (Jj b k (bD o z) z)).toArray ∧ BdS H' w (Jj b k (bD o z) z)) ∧ O' = [] := by
 refine rK (vs := aq v b ++ [iV o.id, iV z]) (by kernel_rfl) (aL (au (h.r [])) ⟨rfl, rfl, trivial⟩) ?_
 simp only [iw]
 refine ah fun r0 => ah fun r1 => ?_
 refine ae (ae ?_)
 refine aj (wB (h.r []) o.id) rfl ⟨rfl, trivial⟩ fun H1 l1 => ?_
 rw [hidx]
 replace h := h.le l1
 obtain ⟨a, h1, h2, _, h3, h4⟩ := (h.r []).objs.idx .i64 k (Ob.row o) (by rw [List.getElem?_map, hk]; rfl)
 refine ab _ h1 (ap h2 h3 h4 ?_)
 refine aj (IU o z H1 []) rfl (vs := (bD o z).row) (cO _) fun H2 l2 => ah fun r2 => ?_
 replace h := h.le l2
 refine ae (ae (ae (ae ?_)))
 refine ay (Nr h hB o.id) ?_
 rintro _ H3 _ ⟨⟨w1, rfl, hw1⟩, rfl⟩ l3
 refine ⟨aq w1 (AM b o.id), rfl, au (hw1.r []), ?_⟩
 have hB1 := Lv hB o.id
 refine ay (No hw1 hB1 (bD o z)) ?_
 have hset : DW (AM b o.id) (bD o z) = dD (AM b o.id) k (bD o z) := by
  have : fL (AM b o.id) (bD o z).id = k := hidx
  simp only [DW, this, Int.toNat_natCast]
  rw [if_pos (by omega)]
 rw [hset]
 rintro _ H4 _ ⟨⟨w2, rfl, hw2⟩, rfl⟩ l4
 refine ⟨aq w2 (dD (AM b o.id) k (bD o z)), rfl, au (hw2.r []), ?_⟩
 refine ay (Od hw2 (LZ hB1 _ _) (bD o z) ho z) ?_
 rintro _ H5 _ ⟨⟨w3, rfl, hw3⟩, rfl⟩ l5
 refine ⟨aq w3 _, rfl, au (hw3.r []), ?_⟩
 refine ae (ae ?_)
 exact ai ⟨⟨w3, rfl, hw3⟩, rfl⟩
end Go.Proofs.YtieaihgbjikggaaGreat
namespace Go.Proofs.YtieaihgbjikggaaGreat
open Go Go.Sx
set_option maxRecDepth 100000
set_option maxHeartbeats 1000000
end Go.Proofs.YtieaihgbjikggaaGreat
namespace Go.Proofs.YtieaihgbjikggaaGreat
open Go Go.Sx
set_option maxRecDepth 100000
set_option maxHeartbeats 1000000
end Go.Proofs.YtieaihgbjikggaaGreat
namespace Go.Proofs.YtieaihgbjikggaaGreat
open Go Go.Sx
set_option maxRecDepth 100000
set_option maxHeartbeats 1000000
theorem Gs {H : Heap} {O : Own} {v : Value} {ks : List Int} (h : KindS H v ks) (c : Int) :
  (∃ x : Bool, (x = true ↔ (c < 0 ∨ c ≥ (ks.length : Int))) ∧ al .len [v] = some (iV ks.length) ∧ x = (decide (c < 0) || decide (c ≥ (ks.length : Int)))) ∧
  (¬ (c < 0 ∨ c ≥ (ks.length : Int)) → ∃ a r, al (.idx 14) [v, iV c] = some (.pointer (some a)) ∧ H.read (.pointer (some a)) 14 = some r ∧ r.length = 14 ∧ Ones r ∧ g r 1 = iV (BT ks c)) := by
 obtain ⟨rows, h1, h2, h3⟩ := h
 refine ⟨⟨_, ?_, ?_, rfl⟩, fun hn => ?_⟩
 ·simp
 ·have := h1.len; rw [this, h2]
 ·have hlt : c.toNat < rows.length := by omega
  obtain ⟨a, k1, k2, k3, k4⟩ := h1.idx (k := .i64) (i := c.toNat) (List.getElem?_eq_getElem hlt)
  have hk : ks[c.toNat]? = some (ks.getD c.toNat 0) := by
   rw [List.getD_eq_getElem?_getD, List.getElem?_eq_getElem (by omega)]; rfl
  have e := h3 c.toNat _ _ (List.getElem?_eq_getElem hlt) hk
  refine ⟨a, _, ?_, k2, k3, k4, ?_⟩
  ·rw [show iV c = iV (c.toNat : Int) by rw [Int.toNat_of_nonneg (by omega)]]; exact k1
  ·rw [e, BT, if_neg hn]
theorem yc {r : List Value} (h : r.length = 14) : ([g r 0, g r 1, g r 2, g r 3, g r 4, g r 5, g r 6, g r 7, g r 8, g r 9, g r 10, g r 11, g r 12, g r 13] : List Value) = r := F9 h
abbrev DL : List Value := [.string ⟨#[]⟩, iV 0, iV 0, iV 0, iV 0, iV 0, iV 0, iV 0, iV 0, iV 0, iV 0, .slice none 0 0, .slice none 0 0, iV 0]
def NV (ks : List Int) (c : Int) (r : Value) (_ : Heap) : Prop := ∃ cells : List Value, r = .agg cells.toArray ∧ cells.length = 14 ∧ Ones cells ∧ g cells 1 = iV (BT ks c)
theorem NK {H : Heap} {O : Own} {v : Value} {ks : List Int} (h : KindS H v ks) (o : Ob) : Triple PP lS [v, .agg o.row.toArray] H O fun r H' O' => NV ks o.card r H' ∧ O' = O := by
 refine md (vs := v :: o.row) (by kernel_rfl) ⟨h.one, cO o⟩ ?_
 simp only [ju]
 obtain ⟨⟨x, hx, hlen, ex⟩, hlook⟩ := Gs (O := O) h o.card
 refine ah fun r0 => ah fun r1 => ?_
 refine ae ?_
 refine ab _ (aC _ _) ?_
 refine ae (af (af ?_))
 refine ab _ hlen ?_
 refine af (af (ab _ (eB _ _) (af (ab _ (aO _ _) ?_))))
 refine ak (fun hb => ?_) (fun hb => ?_)
 ·have hb : (decide (o.card < 0) || decide (o.card ≥ (ks.length : Int))) = true := hb
  rw [← ex] at hb
  refine ae (ae ?_)
  refine ai ⟨⟨DL, rfl, rfl, ⟨rfl, rfl, rfl, rfl, rfl, rfl, rfl, rfl, rfl, rfl, rfl, rfl, rfl, rfl, trivial⟩, ?_⟩, rfl⟩
  rw [BT, if_pos (hx.1 hb)]; rfl
 ·have hb : (decide (o.card < 0) || decide (o.card ≥ (ks.length : Int))) = false := hb
  rw [← ex] at hb
  obtain ⟨a, r, k1, k2, k3, k4, k5⟩ := hlook (fun e => by rw [hx.2 e] at hb; cases hb)
  refine ae ?_
  refine ab _ k1 (ap (ep k2) k3 k4 ?_)
  refine ae (ae ?_)
  exact ai ⟨⟨r, by rw [← yc k3]; rfl, k3, k4, k5⟩, rfl⟩
theorem Nu {H : Heap} {O : Own} {v : Value} {ks : List Int} (h : KindS H v ks) (o : Ob) : Triple PP eV [v, .agg o.row.toArray] H O fun r H' O' => NV ks o.card r H' ∧ O' = O := by
 refine fQ (vs := v :: o.row) (by kernel_rfl) ⟨h.one, cO o⟩ ?_
 simp only [dK]
 obtain ⟨⟨x, hx, hlen, ex⟩, hlook⟩ := Gs (O := O) h o.card
 refine ah fun r0 => ah fun r1 => ?_
 refine ae ?_
 refine ab _ (aC _ _) ?_
 refine ae (af (af ?_))
 refine ab _ hlen ?_
 refine af (af (ab _ (eB _ _) (af (ab _ (aO _ _) ?_))))
 refine ak (fun hb => ?_) (fun hb => ?_)
 ·have hb : (decide (o.card < 0) || decide (o.card ≥ (ks.length : Int))) = true := hb
  rw [← ex] at hb
  refine ae (ae ?_)
  refine ai ⟨⟨DL, rfl, rfl, ⟨rfl, rfl, rfl, rfl, rfl, rfl, rfl, rfl, rfl, rfl, rfl, rfl, rfl, rfl, trivial⟩, ?_⟩, rfl⟩
  rw [BT, if_pos (hx.1 hb)]; rfl
 ·have hb : (decide (o.card < 0) || decide (o.card ≥ (ks.length : Int))) = false := hb
  rw [← ex] at hb
  obtain ⟨a, r, k1, k2, k3, k4, k5⟩ := hlook (fun e => by rw [hx.2 e] at hb; cases hb)
  refine ae ?_
  refine ab _ k1 (ap (ep k2) k3 k4 ?_)
  refine ae (ae ?_)
  exact ai ⟨⟨r, by rw [← yc k3]; rfl, k3, k4, k5⟩, rfl⟩
theorem HQ {H : Heap} {O : Own} {v : Value} {ks : List Int} (h : KindS H v ks) (o : Ob) : RetO PP oR [v, .agg o.row.toArray] H O (.bool (gu ks o)) := by
 refine ui (vs := v :: o.row) (by kernel_rfl) ⟨h.one, cO o⟩ ?_
 simp only [jX]
 refine ah fun r0 => ?_
 refine ae ?_
 refine ab _ (aH _ _) (ak (fun hb => ai ⟨?_, rfl⟩) (fun hb => ?_))
 ·have hb : (o.card == -1) = true := hb
  rw [gu, hb]; rfl
 ·have hb : (o.card == -1) = false := hb
  refine ae ?_
  refine mq (NK h o) ?_
  rintro _ H1 ⟨cells, rfl, k1, k2, k3⟩ l1
  refine ⟨cells, by simp [Shp.open, k1], k2, ?_⟩
  dsimp only
  rw [k3]
  refine ab _ (aH _ _) ?_
  refine ai ⟨?_, rfl⟩
  rw [gu, hb]; rfl
theorem BA {H : Heap} {O : Own} {v : Value} {ks : List Int} (h : KindS H v ks) (o : Ob) : RetO PP jB [v, .agg o.row.toArray] H O (.bool (gu ks o)) := by
 refine nA (vs := v :: o.row) (by kernel_rfl) ⟨h.one, cO o⟩ ?_
 simp only [eQ]
 refine ah fun r0 => ?_
 refine ae ?_
 refine ab _ (aH _ _) (ak (fun hb => ai ⟨?_, rfl⟩) (fun hb => ?_))
 ·have hb : (o.card == -1) = true := hb
  rw [gu, hb]; rfl
 ·have hb : (o.card == -1) = false := hb
  refine ae ?_
  refine mq (Nu h o) ?_
  rintro _ H1 ⟨cells, rfl, k1, k2, k3⟩ l1
  refine ⟨cells, by simp [Shp.open, k1], k2, ?_⟩
  dsimp only
  rw [k3]
  refine ab _ (aH _ _) ?_
  refine ai ⟨?_, rfl⟩
  rw [gu, hb]; rfl
def ye (ks : List Int) (b : Bd) (p : Int) (o : Ob) : Bool := o.owner == p && (gu ks o && (dt b p).field.contains o.id)
def jm (ks : List Int) (b : Bd) (p : Int) : List Int := if (aw p 0 1 && ax b) = true then (b.objs.filter (ye ks b p)).map (·.id) else []
theorem EV {H : Heap} {cv : Value} {ks : List Int} (hk : KindS H cv ks) {v : dG} {b : Bd} (h : BdS H v b) (p : Int) :
  Triple PP jZ [cv, .agg (aq v b).toArray, iV p] H [] fun r _ O' => OSl aK 1 r (aG (jm ks b p)) O' := by
 refine uj (vs := cv :: (aq v b ++ [iV p])) (by kernel_rfl) ⟨hk.one, aL (au (h.r [])) ⟨rfl, trivial⟩⟩ ?_
 simp only [jY]
 refine ah fun r0 => ?_
 refine aj (dl p 0 1 H []) rfl ⟨rfl, trivial⟩ fun H1 l1 => ab _ (aI _) (ak (fun hb => ?_) (fun hb => ?_))
 ·have e : jm ks b p = [] := by rw [jm, if_neg]; rw [show aw p 0 1 = false from zH hb]; simp
  rw [e]
  exact ai (OSl.nil _ _)
 have hw : aw p 0 1 = true := vq hb
 replace h := h.le l1
 replace hk := hk.le l1
 refine ae ?_
 refine aj (bp (h.r [])) rfl ⟨rfl, trivial⟩ fun H2 l2 => ab _ (aI _) (ak (fun hb => ?_) (fun hb => ?_))
 ·have e : jm ks b p = [] := by rw [jm, if_neg]; rw [show ax b = false from zH hb]; simp
  rw [e]
  exact ai (OSl.nil _ _)
 have hv : ax b = true := vq hb
 have hobl := ry hv
 have e : jm ks b p = (b.objs.filter (ye ks b p)).map (·.id) := by rw [jm, if_pos (by rw [hw, hv]; rfl)]
 rw [e]
 clear hb e
 replace h := h.le l2
 replace hk := hk.le l2
 have lo := h.objs.len
 rw [List.length_map] at lo
 have hp : p = 0 ∨ p = 1 := by simp only [aw, decide_eq_true_eq] at hw; omega
 refine ae ?_
 refine ab _ lo ?_
 refine dc b.objs.length (fun i x H' O' => Heap.le H2 H' ∧ OSl aK 1 x (aG (((b.objs.take i).filter (ye ks b p)).map (·.id))) O') ⟨Heap.le_refl _, OSl.nil _ _⟩ ?_
 rintro i x H' O' hi - ⟨hle, hx⟩
 refine ab _ (aC _ _) (ak (fun hb => ?_) (fun hb => ?_))
 ·have hlt : i < b.objs.length := by simpa using hb
  obtain ⟨a, i1, i2, i3, i4⟩ := (h.objs.le hle).idx (k := .i64) (i := i) (r := Ob.row b.objs[i]) (by simp [hlt])
  have hft := eJ (p := ye ks b p) hlt
  have hnot : ye ks b p b.objs[i] = false → ∀ H3, Heap.le H' H3 → (Heap.le H2 H3 ∧ OSl aK 1 x (aG (((b.objs.take (i + 1)).filter (ye ks b p)).map (·.id))) O') := fun hn H3 l3 => by
   rw [hft, if_neg (by rw [hn]; simp), List.append_nil]; exact ⟨Heap.le_trans hle l3, hx⟩
  refine ab _ i1 (d9 i2 i3 i4 (ah fun r1 => ?_))
  refine ae (ae ?_)
  refine ab _ (aH _ _) ?_
  refine ak (fun h1 => ?_) (fun h1 => ?_)
  ·have h1 : (b.objs[i].owner == p) = true := h1
   refine ae ?_
   refine aj (HQ (hk.le hle) b.objs[i]) rfl ⟨rfl, trivial⟩ fun H3 l3 => ak (fun h2 => ?_) (fun h2 => ?_)
   ·have lz := Heap.le_trans hle l3
    rcases hp with rfl | rfl
    ·refine ⟨.i64, 0, rfl, fun _ => ?_, fun e => absurd rfl e⟩
     refine ae (ae ?_)
     refine aj (ia (((h.s0.field).le lz).rsl O') b.objs[i].id) rfl ⟨rfl, trivial⟩ fun H4 l4 => ak (fun h3 => ?_) (fun h3 => ?_)
     ·have hcr : ye ks b 0 b.objs[i] = true := by rw [ye, h1, h2]; exact h3
      have hlen : ((b.objs.take i).filter (ye ks b 0)).length ≤ 1000000 := Nat.le_trans (List.length_filter_le _ _) (by rw [List.length_take]; omega)
      refine ae ?_
      refine ah fun r2 => ?_
      refine aA (rows := aG (((b.objs.take i).filter (ye ks b 0)).map fun o : Ob => o.id)) (news := [[iV b.objs[i].id]]) (O1 := O') (O2 := []) (e := aK) (size := 1) (bytes := 8) (by kernel_rfl) (by simp) hx (fun Hf _ hf => Sl.block1 (hf _ List.mem_cons_self) rfl ⟨rfl, trivial⟩) (by simp [aG]; omega) (by simp [aG]; omega) ?_
      intro v' A' H6 l6 hA'
      refine ab _ (az (by omega)) (aR (by simp [Eqs]) hlt ⟨Heap.le_trans lz (Heap.le_trans l4 l6), ?_⟩)
      rw [List.append_nil, hft, if_pos hcr, List.map_append, aG, List.map_append]; exact hA'
     ·have hcr : ye ks b 0 b.objs[i] = false := by rw [ye, h1, h2]; exact h3
      exact ab _ (az (by omega)) (aR (by simp [Eqs]) hlt (hnot hcr _ (Heap.le_trans l3 l4)))
    ·refine ⟨.i64, 1, rfl, fun e => absurd e (by omega), fun _ => ⟨.i64, 1, rfl, fun _ => ?_, fun e => absurd rfl e⟩⟩
     refine ae (ae ?_)
     refine aj (ia (((h.s1.field).le lz).rsl O') b.objs[i].id) rfl ⟨rfl, trivial⟩ fun H4 l4 => ak (fun h3 => ?_) (fun h3 => ?_)
     ·have hcr : ye ks b 1 b.objs[i] = true := by rw [ye, h1, h2]; exact h3
      have hlen : ((b.objs.take i).filter (ye ks b 1)).length ≤ 1000000 := Nat.le_trans (List.length_filter_le _ _) (by rw [List.length_take]; omega)
      refine ae ?_
      refine ah fun r2 => ?_
      refine aA (rows := aG (((b.objs.take i).filter (ye ks b 1)).map fun o : Ob => o.id)) (news := [[iV b.objs[i].id]]) (O1 := O') (O2 := []) (e := aK) (size := 1) (bytes := 8) (by kernel_rfl) (by simp) hx (fun Hf _ hf => Sl.block1 (hf _ List.mem_cons_self) rfl ⟨rfl, trivial⟩) (by simp [aG]; omega) (by simp [aG]; omega) ?_
      intro v' A' H6 l6 hA'
      refine ab _ (az (by omega)) (aR (by simp [Eqs]) hlt ⟨Heap.le_trans lz (Heap.le_trans l4 l6), ?_⟩)
      rw [List.append_nil, hft, if_pos hcr, List.map_append, aG, List.map_append]; exact hA'
     ·have hcr : ye ks b 1 b.objs[i] = false := by rw [ye, h1, h2]; exact h3
      exact ab _ (az (by omega)) (aR (by simp [Eqs]) hlt (hnot hcr _ (Heap.le_trans l3 l4)))
   ·have hcr : ye ks b p b.objs[i] = false := by rw [ye, h1, h2]; rfl
    exact ab _ (az (by omega)) (aR (by simp [Eqs]) hlt (hnot hcr _ l3))
  ·have h1 : (b.objs[i].owner == p) = false := h1
   have hcr : ye ks b p b.objs[i] = false := by rw [ye, h1]; rfl
   exact ab _ (az (by omega)) (aR (by simp [Eqs]) hlt (hnot hcr _ (Heap.le_refl _)))
 ·have hge : b.objs.length ≤ i := by simpa using hb
  rw [List.take_of_length_le hge] at hx
  exact ai hx
theorem FL {H : Heap} {cv : Value} {ks : List Int} (hk : KindS H cv ks) {v : dG} {b : Bd} (h : BdS H v b) (p : Int) :
  Triple PP jZ [cv, .agg (aq v b).toArray, iV p] H [] fun r H' O' => Sl H' 1 r (aG (jm ks b p)) ∧ O' = [] := Triple.frozenS (EV hk h p)
end Go.Proofs.YtieaihgbjikggaaGreat
namespace Go.Proofs.YtieaihgbjikggaaGreat
open Go Go.Sx
set_option maxRecDepth 100000
set_option maxHeartbeats 1000000
theorem xC {P : Program} {lab n i : Nat} {R : Nat → Value → Heap → Own → Prop} {x : Value} {eqs : List (List Value × List Value)} {H : Heap} {O : Own} {Q : Value → Heap → Own → Prop} (he : Eqs eqs) (hi : i < n) (hr : Cons H O → ∃ H3 O3, Ghost H O H3 O3 ∧ R (i + 1) x H3 O3) :
  (Tree.cont lab (Ih (IY n R) (MY n) (n - i)) [x, iV ((i + 1 : Nat) : Int)] eqs).den P Q H O := by
 refine ⟨he, fun hc => ?_⟩
 obtain ⟨H3, O3, g, r⟩ := hr hc
 refine ⟨H3, O3, g, ⟨i + 1, x, rfl, hi, r⟩, ?_⟩
 show n - ((i + 1 : Nat) : Int).toNat < n - i
 simp; omega
theorem DV {l : List Int} {i : Nat} (h : i < l.length) : ny (l.take (i + 1)) = Fq l[i] (ny (l.take i)) := by
 rw [List.take_add_one, List.getElem?_eq_getElem h, ny, Option.toList_some, List.foldl_append]; rfl
theorem CJ {H : Heap} {v : Value} {l : List Int} (h : Sl H 1 v (aG l)) (hl : l.length ≤ 4000000) : Triple PP kD [v] H [] fun r H' O' => Sl H' 1 r (aG (ny l)) ∧ O' = [] := by
 refine o8 (vs := [v]) (by kernel_rfl) ⟨h.one, trivial⟩ ?_
 simp only [ga]
 have hlen : al .len [v] = some (iV l.length) := by have := h.len; rwa [aG, List.length_map] at this
 refine dc l.length (fun i x H' O' => O' = [] ∧ Heap.le H H' ∧ Sl H' 1 x (aG (ny (l.take i)))) ⟨rfl, Heap.le_refl _, Sl.nil H 1⟩ ?_
 rintro i x H' O' hi - ⟨rfl, hle, hx⟩
 refine ab _ hlen (ab _ (aC _ _) (ak (fun hb => ?_) (fun hb => ?_)))
 ·have hlt : i < l.length := by simpa using hb
  generalize hout : ny (l.take i) = out at hx
  have hol : out.length ≤ 4000000 := by rw [← hout, uZ, List.length_take]; omega
  have xlen : al .len [x] = some (iV out.length) := by have := hx.len; rwa [aG, List.length_map] at this
  obtain ⟨a, h1, h2, h3, h4⟩ := (h.le hle).idx (k := .i64) (i := i) (r := [iV l[i]]) (by simp [aG, hlt])
  refine aQ out.length (fun k H2 O2 => O2 = [] ∧ Heap.le H' H2 ∧ ∀ (j : Nat) (y : Int), j < k → out[j]? = some y → decide (y < l[i]) = true) ⟨rfl, Heap.le_refl _, fun j y hj => absurd hj (Nat.not_lt_zero j)⟩ ?_
  rintro k H2 O2 hk - ⟨rfl, hle2, hall⟩
  refine ab _ xlen (ab _ (aC _ _) ?_)
  refine af (af ?_)
  have hfin : (∀ y, out[k]? = some y → decide (y < l[i]) = false) → Fq l[i] out = out.take k ++ (l[i] :: out.drop k) := fun hno => by
   obtain ⟨w1, w2⟩ := FX hk hall hno
   rw [Fq, w1, w2]
  rcases Nat.lt_or_ge k out.length with hkl | hkl
  ·obtain ⟨a2, k1, k2, k3, k4⟩ := (hx.le hle2).idx (k := .i64) (i := k) (r := [iV out[k]]) (by simp [aG, hkl])
   refine ⟨.pointer (some a2), fun _ => k1, .inr rfl, ?_⟩
   refine af ?_
   refine ⟨[iV out[k]], rfl, ⟨rfl, trivial⟩, fun _ => .inl k2, ?_⟩
   refine af (af ?_)
   refine ⟨.pointer (some a), fun _ => h1, .inr rfl, ?_⟩
   refine af ?_
   refine ⟨[iV l[i]], rfl, ⟨rfl, trivial⟩, fun _ => .inl (hle2.read h2), ?_⟩
   refine af (af ?_)
   refine ab _ (aC _ _) ?_
   refine af ?_
   refine ab _ (bg _ _) ?_
   have hkd : decide ((k : Int) < (out.length : Int)) = true := by simp [hkl]
   rw [hkd, Bool.true_and]
   refine ak (fun hc => ?_) (fun hc => ?_)
   ·refine ab _ (az (by omega)) (aJ (by simp [Eqs]) hkl ⟨rfl, hle2, fun j y hj e => ?_⟩)
    rcases Nat.lt_or_ge j k with hjk | hjk
    ·exact hall j y hjk e
    ·have : j = k := by omega
     subst this
     rw [List.getElem?_eq_getElem hkl] at e
     obtain rfl := Option.some.inj e
     exact hc
   ·have hins := hfin fun y e => by
     rw [List.getElem?_eq_getElem hkl] at e
     obtain rfl := Option.some.inj e
     exact hc
    refine ab _ h1 (d9 (hle2.read h2) h3 h4 ?_)
    obtain ⟨u1, e1, s1⟩ := (hx.le hle2).from (i := k) (by simp [aG]; omega)
    obtain ⟨u2, e2, s2⟩ := (hx.le hle2).upto (i := k) (by simp [aG]; omega)
    refine ab _ e1 (ah fun r0 => ?_)
    refine mr (ad := ⟨r0, 0, none⟩) (rows := [[iV l[i]]]) (news := (aG out).drop k) (size := 1) (e := aK) (by kernel_rfl) (fun Hf _ hf => Sl.block1 (hf _ List.mem_cons_self) rfl ⟨rfl, trivial⟩) s1 (by rw [show jW PP aK = 8 by kernel_rfl]; simp [aG]; omega) (by simp [aG]; omega) fun v1 H3 l3 hv1 => ?_
    refine ab _ e2 ?_
    refine dm (e := aK) (size := 1) (bytes := 8) (by kernel_rfl) (s2.le l3) (by simp [aG]; omega) (by simp [aG]; omega) fun xa Oa H4 lA pa => ?_
    refine aA (rows := (aG out).take k) (news := [[iV l[i]]] ++ (aG out).drop k) (O1 := Oa) (O2 := []) (e := aK) (size := 1) (bytes := 8) (by kernel_rfl) (by simp) pa (fun Hf lf _ => (hv1.le lA).le lf) (by simp [aG]; omega) (by simp [aG]; omega) ?_
    intro v' A' H6 l6 hA'
    refine ab _ (az (by omega)) (xC (by simp [Eqs]) hlt fun hc => ?_)
    obtain ⟨H9, g9, kz, l9⟩ := hA'.freeze (X := []) (hc.perm (by simp))
    refine ⟨H9, [], (Ghost.perm (by simp)).trans g9, rfl, Heap.le_trans hle (Heap.le_trans hle2 (Heap.le_trans l3 (Heap.le_trans lA (Heap.le_trans l6 l9)))), ?_⟩
    have hrows : aG (ny (l.take (i + 1))) = (aG out).take k ++ ([[iV l[i]]] ++ (aG out).drop k) := by
     rw [DV hlt, hout, hins, aG, aG, List.map_append, List.map_cons, List.map_take, List.map_drop]; rfl
    rw [hrows]; exact kz
  ·have hkd : decide ((k : Int) < (out.length : Int)) = false := by simp; omega
   have hoff : ∀ {P : Prop}, On [(Value.bool (decide ((k : Int) < (out.length : Int))), true)] → P := fun ho => by
    have := ho.1
    rw [hkd] at this
    cases this
   refine ⟨.pointer (some a), fun ho => hoff ho, .inr rfl, ?_⟩
   refine af ?_
   refine ⟨[iV 0], rfl, ⟨rfl, trivial⟩, fun ho => hoff ho, ?_⟩
   refine af (af ?_)
   refine ⟨.pointer (some a), fun _ => h1, .inr rfl, ?_⟩
   refine af ?_
   refine ⟨[iV l[i]], rfl, ⟨rfl, trivial⟩, fun _ => .inl (hle2.read h2), ?_⟩
   refine af (af ?_)
   refine ab _ (aC _ _) ?_
   refine af ?_
   refine ab _ (bg _ _) ?_
   rw [hkd, Bool.false_and]
   refine ak (fun hc => by cases hc) (fun hc => ?_)
   have hins := hfin fun y e => by
    have := (List.getElem?_eq_some_iff.1 e).1
    omega
   refine ab _ h1 (d9 (hle2.read h2) h3 h4 ?_)
   obtain ⟨u1, e1, s1⟩ := (hx.le hle2).from (i := k) (by simp [aG]; omega)
   obtain ⟨u2, e2, s2⟩ := (hx.le hle2).upto (i := k) (by simp [aG]; omega)
   refine ab _ e1 (ah fun r0 => ?_)
   refine mr (ad := ⟨r0, 0, none⟩) (rows := [[iV l[i]]]) (news := (aG out).drop k) (size := 1) (e := aK) (by kernel_rfl) (fun Hf _ hf => Sl.block1 (hf _ List.mem_cons_self) rfl ⟨rfl, trivial⟩) s1 (by rw [show jW PP aK = 8 by kernel_rfl]; simp [aG]; omega) (by simp [aG]; omega) fun v1 H3 l3 hv1 => ?_
   refine ab _ e2 ?_
   refine dm (e := aK) (size := 1) (bytes := 8) (by kernel_rfl) (s2.le l3) (by simp [aG]; omega) (by simp [aG]; omega) fun xa Oa H4 lA pa => ?_
   refine aA (rows := (aG out).take k) (news := [[iV l[i]]] ++ (aG out).drop k) (O1 := Oa) (O2 := []) (e := aK) (size := 1) (bytes := 8) (by kernel_rfl) (by simp) pa (fun Hf lf _ => (hv1.le lA).le lf) (by simp [aG]; omega) (by simp [aG]; omega) ?_
   intro v' A' H6 l6 hA'
   refine ab _ (az (by omega)) (xC (by simp [Eqs]) hlt fun hc => ?_)
   obtain ⟨H9, g9, kz, l9⟩ := hA'.freeze (X := []) (hc.perm (by simp))
   refine ⟨H9, [], (Ghost.perm (by simp)).trans g9, rfl, Heap.le_trans hle (Heap.le_trans hle2 (Heap.le_trans l3 (Heap.le_trans lA (Heap.le_trans l6 l9)))), ?_⟩
   have hrows : aG (ny (l.take (i + 1))) = (aG out).take k ++ ([[iV l[i]]] ++ (aG out).drop k) := by
    rw [DV hlt, hout, hins, aG, aG, List.map_append, List.map_cons, List.map_take, List.map_drop]; rfl
   rw [hrows]; exact kz
 ·have hge : l.length ≤ i := by simpa using hb
  rw [List.take_of_length_le hge] at hx
  exact ai ⟨hx, rfl⟩
def JI (ks : List Int) (b : Bd) (p : Int) : List Int := ny ((dt b p).field.filter fun id => gu ks (b.objs.getD (fL b id).toNat zO))
theorem uC {P : Program} {f : FuncId} {args : List Value} {H : Heap} {O : Own} {e : TypeId} {size : Nat} {x : Value} {rows : List (List Value)} {R : Value → Heap → Own → Prop} {shp : Shp} {K : List Value → List (List Value) → Heap → Own → Prop}
  (hx : OSl e size x rows O) (h : ∀ Hf, Sl Hf size x rows → Triple P f args Hf [] R) (hk : ∀ v H' , R v H' [] → Heap.le H H' → ∃ vs, shp.open v = some vs ∧ Ones vs ∧ K vs [] H' []) (hR : ∀ v H' O', R v H' O' → O' = [] := by rintro _ _ _ ⟨_, rfl⟩; rfl) :
  iG (fun H1 O1 R => Triple P f args H1 O1 R) false [] [] shp K H O := by
 intro hc
 obtain ⟨Hf, g, hs, hl⟩ := hx.freeze (X := []) (by simpa using hc)
 refine ⟨Hf, [], [], R, (by rw [List.append_nil] at g; exact g : Ghost H O Hf []), h Hf hs, fun v H' O' hr hle => ?_⟩
 obtain rfl := hR v H' O' hr
 obtain ⟨vs, h1, h2, h3⟩ := hk v H' hr (Heap.le_trans hl hle)
 exact ⟨vs, [], [], h1, h2, trivial, rfl, h3⟩
theorem zo {H : Heap} {cv : Value} {ks : List Int} (hk : KindS H cv ks) {v : dG} {b : Bd} (h : BdS H v b) (hB : bdB b) (p : Int) (hp : p = 0 ∨ p = 1) (hthere : ∀ q, p = q → ∀ id ∈ (dt b q).field, ¬ fL b id < 0) :
  Triple PP iQ [cv, .agg (aq v b).toArray, iV p] H [] fun r H' O' => Sl H' 1 r (aG (JI ks b p)) ∧ O' = [] := by
 refine mP (vs := cv :: (aq v b ++ [iV p])) (by kernel_rfl) ⟨hk.one, aL (au (h.r [])) ⟨rfl, trivial⟩⟩ ?_
 simp only [eo]
 refine ah fun r0 => ?_
 rcases hp with rfl | rfl
 ·refine ⟨.i64, 0, rfl, fun _ => ?_, fun e => absurd rfl e⟩
  have hfl : al .len [v.f0] = some (iV b.s0.field.length) := by have := h.s0.field.len; rwa [aG, List.length_map] at this
  have hbl : b.s0.field.length ≤ 1000000 := by obtain ⟨_, ⟨_, _, x1, _⟩, ⟨_, _, x2, _⟩, _⟩ := hB; omega
  refine ae ?_
  refine ab _ hfl ?_
  refine uy b.s0.field.length (fun i x H' O' => Heap.le H H' ∧ OSl aK 1 x (aG ((b.s0.field.take i).filter fun id => gu ks (b.objs.getD (fL b id).toNat zO))) O') (fun _ => ⟨H, [], Ghost.refl _ _, Heap.le_refl _, OSl.nil _ _⟩) ?_
  rintro i x H' O' hi - ⟨hle, hx⟩
  refine ab _ (aC _ _) (ak (fun hb => ?_) (fun hb => ?_))
  ·have hlt : i < b.s0.field.length := by simpa using hb
   obtain ⟨a, i1, i2, i3, i4⟩ := (h.s0.field.le hle).idx (k := .i64) (i := i) (r := [iV b.s0.field[i]]) (by simp [aG, hlt])
   have hft := eJ (p := fun id => gu ks (b.objs.getD (fL b id).toNat zO)) hlt
   obtain ⟨k, ob, e1, e2, e3⟩ := sj (hthere 0 rfl b.s0.field[i] (List.getElem_mem hlt))
   have hob : b.objs.getD (fL b b.s0.field[i]).toNat zO = ob := by rw [e3, Int.toNat_natCast, List.getD_eq_getElem?_getD, e1]; rfl
   rw [hob] at hft
   refine ab _ i1 (d9 i2 i3 i4 ?_)
   refine ae (ae ?_)
   refine aj (wB ((h.le hle).r O') b.s0.field[i]) rfl ⟨rfl, trivial⟩ fun H2 l2 => ?_
   rw [e3]
   have lz := Heap.le_trans hle l2
   obtain ⟨a2, k1, k2, k3, k4⟩ := (h.objs.le lz).idx (k := .i64) (i := k) (r := Ob.row ob) (by rw [List.getElem?_map, e1]; rfl)
   refine ab _ k1 (d9 k2 k3 k4 ?_)
   refine aj (BA (hk.le lz) ob) rfl ⟨rfl, trivial⟩ fun H3 l3 => ak (fun hc => ?_) (fun hc => ?_)
   ·have hc : gu ks ob = true := hc
    have hlen : ((b.s0.field.take i).filter fun id => gu ks (b.objs.getD (fL b id).toNat zO)).length ≤ 1000000 := Nat.le_trans (List.length_filter_le _ _) (by rw [List.length_take]; omega)
    refine ah fun r2 => ?_
    refine aA (rows := aG ((b.s0.field.take i).filter fun id => gu ks (b.objs.getD (fL b id).toNat zO))) (news := [[iV b.s0.field[i]]]) (O1 := O') (O2 := []) (e := aK) (size := 1) (bytes := 8) (by kernel_rfl) (by simp) hx (fun Hf _ hf => Sl.block1 (hf _ List.mem_cons_self) rfl ⟨rfl, trivial⟩) (by rw [aG, List.length_map, List.length_singleton]; omega) (by rw [aG, List.length_map, List.length_singleton]; omega) ?_
    intro v' A' H6 l6 hA'
    refine ab _ (az (by omega)) (aR (by simp [Eqs]) hlt ⟨Heap.le_trans lz (Heap.le_trans l3 l6), ?_⟩)
    rw [List.append_nil, hft, if_pos hc, aG, List.map_append]; exact hA'
   ·have hc : gu ks ob = false := hc
    refine ab _ (az (by omega)) (aR (by simp [Eqs]) hlt ⟨Heap.le_trans lz l3, ?_⟩)
    rw [hft, if_neg (by rw [hc]; simp), List.append_nil]; exact hx
  ·have hge : b.s0.field.length ≤ i := by simpa using hb
   rw [List.take_of_length_le hge] at hx
   have hlen : (b.s0.field.filter fun id => gu ks (b.objs.getD (fL b id).toNat zO)).length ≤ 1000000 := Nat.le_trans (List.length_filter_le _ _) hbl
   refine uC hx (fun Hf hs => CJ hs (by omega)) ?_
   rintro r H2 ⟨hr, -⟩ l2
   refine ⟨[r], rfl, ⟨hr.one, trivial⟩, ?_⟩
   exact ai ⟨hr, rfl⟩
 ·refine ⟨.i64, 1, rfl, fun e => absurd e (by omega), fun _ => ⟨.i64, 1, rfl, fun _ => ?_, fun e => absurd rfl e⟩⟩
  have hfl : al .len [v.f1] = some (iV b.s1.field.length) := by have := h.s1.field.len; rwa [aG, List.length_map] at this
  have hbl : b.s1.field.length ≤ 1000000 := by obtain ⟨_, ⟨_, _, x1, _⟩, ⟨_, _, x2, _⟩, _⟩ := hB; omega
  refine ae ?_
  refine ab _ hfl ?_
  refine uy b.s1.field.length (fun i x H' O' => Heap.le H H' ∧ OSl aK 1 x (aG ((b.s1.field.take i).filter fun id => gu ks (b.objs.getD (fL b id).toNat zO))) O') (fun _ => ⟨H, [], Ghost.refl _ _, Heap.le_refl _, OSl.nil _ _⟩) ?_
  rintro i x H' O' hi - ⟨hle, hx⟩
  refine ab _ (aC _ _) (ak (fun hb => ?_) (fun hb => ?_))
  ·have hlt : i < b.s1.field.length := by simpa using hb
   obtain ⟨a, i1, i2, i3, i4⟩ := (h.s1.field.le hle).idx (k := .i64) (i := i) (r := [iV b.s1.field[i]]) (by simp [aG, hlt])
   have hft := eJ (p := fun id => gu ks (b.objs.getD (fL b id).toNat zO)) hlt
   obtain ⟨k, ob, e1, e2, e3⟩ := sj (hthere 1 rfl b.s1.field[i] (List.getElem_mem hlt))
   have hob : b.objs.getD (fL b b.s1.field[i]).toNat zO = ob := by rw [e3, Int.toNat_natCast, List.getD_eq_getElem?_getD, e1]; rfl
   rw [hob] at hft
   refine ab _ i1 (d9 i2 i3 i4 ?_)
   refine ae (ae ?_)
   refine aj (wB ((h.le hle).r O') b.s1.field[i]) rfl ⟨rfl, trivial⟩ fun H2 l2 => ?_
   rw [e3]
   have lz := Heap.le_trans hle l2
   obtain ⟨a2, k1, k2, k3, k4⟩ := (h.objs.le lz).idx (k := .i64) (i := k) (r := Ob.row ob) (by rw [List.getElem?_map, e1]; rfl)
   refine ab _ k1 (d9 k2 k3 k4 ?_)
   refine aj (BA (hk.le lz) ob) rfl ⟨rfl, trivial⟩ fun H3 l3 => ak (fun hc => ?_) (fun hc => ?_)
   ·have hc : gu ks ob = true := hc
    have hlen : ((b.s1.field.take i).filter fun id => gu ks (b.objs.getD (fL b id).toNat zO)).length ≤ 1000000 := Nat.le_trans (List.length_filter_le _ _) (by rw [List.length_take]; omega)
    refine ah fun r2 => ?_
    refine aA (rows := aG ((b.s1.field.take i).filter fun id => gu ks (b.objs.getD (fL b id).toNat zO))) (news := [[iV b.s1.field[i]]]) (O1 := O') (O2 := []) (e := aK) (size := 1) (bytes := 8) (by kernel_rfl) (by simp) hx (fun Hf _ hf => Sl.block1 (hf _ List.mem_cons_self) rfl ⟨rfl, trivial⟩) (by rw [aG, List.length_map, List.length_singleton]; omega) (by rw [aG, List.length_map, List.length_singleton]; omega) ?_
    intro v' A' H6 l6 hA'
    refine ab _ (az (by omega)) (aR (by simp [Eqs]) hlt ⟨Heap.le_trans lz (Heap.le_trans l3 l6), ?_⟩)
    rw [List.append_nil, hft, if_pos hc, aG, List.map_append]; exact hA'
   ·have hc : gu ks ob = false := hc
    refine ab _ (az (by omega)) (aR (by simp [Eqs]) hlt ⟨Heap.le_trans lz l3, ?_⟩)
    rw [hft, if_neg (by rw [hc]; simp), List.append_nil]; exact hx
  ·have hge : b.s1.field.length ≤ i := by simpa using hb
   rw [List.take_of_length_le hge] at hx
   have hlen : (b.s1.field.filter fun id => gu ks (b.objs.getD (fL b id).toNat zO)).length ≤ 1000000 := Nat.le_trans (List.length_filter_le _ _) hbl
   refine uC hx (fun Hf hs => CJ hs (by omega)) ?_
   rintro r H2 ⟨hr, -⟩ l2
   refine ⟨[r], rfl, ⟨hr.one, trivial⟩, ?_⟩
   exact ai ⟨hr, rfl⟩
theorem uv {b : Bd} (h : ax b = true) {p : Int} (hp : p = 0 ∨ p = 1) {id : Int} (hid : id ∈ (dt b p).field) : ∃ (k : Nat) (o : Ob), b.objs[k]? = some o ∧ o.id = id ∧ o.owner = p ∧ fL b id = k := by
 have hpl := (aN h).1
 have hm : (id, p) ∈ aM b := by
  rcases hp with rfl | rfl
  ·have hid : id ∈ b.s0.field := hid
   simp [aM, bK, hid]
  ·have hid : id ∈ b.s1.field := hid
   simp [aM, bK, hid]
 obtain ⟨k, o, e1, e2, e3⟩ := Jw hpl hm
 obtain ⟨_, _, v3, _⟩ := cH hpl e1
 exact ⟨k, o, e1, e2, e3, by rw [← e2]; exact v3⟩
theorem rX : ∀ {l : List Ob} {prev : Option Int}, CM prev l = true → (l.map (·.id)).Pairwise (· < ·)
 | [], _, _ => List.Pairwise.nil
 | a :: l, prev, h => by
  simp only [CM, Bool.and_eq_true] at h
  rw [List.map_cons, List.pairwise_cons]
  refine ⟨fun x hx => ?_, rX h.2⟩
  obtain ⟨o, ho, rfl⟩ := List.mem_map.1 hx
  exact (jb h.2).1 o ho _ rfl
theorem GC (ks : List Int) {b : Bd} (h : ax b = true) {p : Int} (hp : p = 0 ∨ p = 1) : JI ks b p = jm ks b p := by
 have hw : aw p 0 1 = true := by simp only [aw, decide_eq_true_eq]; omega
 rw [jm, if_pos (by rw [hw, h]; rfl), JI]
 obtain ⟨p1, _, _⟩ := eE (aN h).1
 have hfn : (dt b p).field.Nodup := by
  obtain ⟨a, c⟩ := xp (aN h).1
  rcases hp with rfl | rfl
  ·exact a
  ·exact c
 refine wk (xl (hfn.filter _)) ?_ fun x => ?_
 ·exact (rX p1).sublist ((List.filter_sublist (l := b.objs)).map _)
 ·rw [(s8 _).mem_iff, List.mem_filter, List.mem_map]
  constructor
  ·rintro ⟨hx, hc⟩
   obtain ⟨k, o, e1, e2, e3, e4⟩ := uv h hp hx
   have hob : b.objs.getD (fL b x).toNat zO = o := by rw [e4, Int.toNat_natCast, List.getD_eq_getElem?_getD, e1]; rfl
   rw [hob] at hc
   refine ⟨o, List.mem_filter.2 ⟨List.mem_of_getElem? e1, ?_⟩, e2⟩
   rw [ye, e3, hc, e2]
   simpa using hx
  ·rintro ⟨o, ho, rfl⟩
   obtain ⟨ho, hc⟩ := List.mem_filter.1 ho
   simp only [ye, Bool.and_eq_true, beq_iff_eq, List.contains_iff_mem] at hc
   obtain ⟨h1, h2, h3⟩ := hc
   obtain ⟨k, hk⟩ := List.mem_iff_getElem?.1 ho
   obtain ⟨_, _, v3, _⟩ := cH (aN h).1 hk
   refine ⟨h3, ?_⟩
   rw [v3, Int.toNat_natCast, List.getD_eq_getElem?_getD, hk]
   exact h2
end Go.Proofs.YtieaihgbjikggaaGreat
namespace Go.Proofs.YtieaihgbjikggaaGreat
open Go Go.Sx
set_option maxRecDepth 100000
set_option maxHeartbeats 1000000
theorem Ow (H : Heap) : CdR H DL zCd := ⟨rfl, EffsS.nil H, TrigsS.nil H⟩
theorem Er {H : Heap} {v : Value} {cs : List Cd} (h : CardsS H v cs) (c : Int) (hn : ¬ (c < 0 ∨ c ≥ (cs.length : Int))) :
  ∃ a r, al (.idx 14) [v, iV c] = some (.pointer (some a)) ∧ H.read (.pointer (some a)) 14 = some r ∧ r.length = 14 ∧ Ones r ∧ CdR H r (yN cs c) := by
 obtain ⟨rows, h1, h2, h3⟩ := h
 have hlt : c.toNat < rows.length := by omega
 obtain ⟨a, k1, k2, k3, k4⟩ := h1.idx (k := .i64) (i := c.toNat) (List.getElem?_eq_getElem hlt)
 have hk : cs[c.toNat]? = some (yN cs c) := by
  rw [yN, if_neg hn, List.getD_eq_getElem?_getD, List.getElem?_eq_getElem (by omega)]; rfl
 refine ⟨a, _, ?_, k2, k3, k4, h3 c.toNat _ _ (List.getElem?_eq_getElem hlt) hk⟩
 rw [show iV c = iV (c.toNat : Int) by rw [Int.toNat_of_nonneg (by omega)]]; exact k1
def NW (cs : List Cd) (c : Int) (v : Value) (H : Heap) : Prop := ∃ cells : List Value, v = .agg cells.toArray ∧ cells.length = 14 ∧ Ones cells ∧ CdR H cells (yN cs c)
theorem MH {H : Heap} {O : Own} {v : Value} {cs : List Cd} (h : CardsS H v cs) (o : Ob) : Triple PP lS [v, .agg o.row.toArray] H O fun r H' O' => NW cs o.card r H' ∧ O' = O := by
 refine md (vs := v :: o.row) (by kernel_rfl) ⟨h.one, cO o⟩ ?_
 simp only [ju]
 refine ah fun r0 => ah fun r1 => ?_
 refine ae ?_
 refine ab _ (aC _ _) ?_
 refine ae (af (af ?_))
 refine ab _ h.len ?_
 refine af (af (ab _ (eB _ _) (af (ab _ (aO _ _) ?_))))
 refine ak (fun hb => ?_) (fun hb => ?_)
 ·have hb : (decide (o.card < 0) || decide (o.card ≥ (cs.length : Int))) = true := hb
  refine ae (ae ?_)
  refine ai ⟨⟨DL, rfl, rfl, ⟨rfl, rfl, rfl, rfl, rfl, rfl, rfl, rfl, rfl, rfl, rfl, rfl, rfl, rfl, trivial⟩, ?_⟩, rfl⟩
  rw [yN, if_pos (by simpa using hb)]; exact Ow H
 ·have hb : (decide (o.card < 0) || decide (o.card ≥ (cs.length : Int))) = false := hb
  obtain ⟨a, r, k1, k2, k3, k4, k5⟩ := Er h o.card (by simpa [Bool.or_eq_false_iff] using hb)
  refine ae ?_
  refine ab _ k1 (ap (ep k2) k3 k4 ?_)
  refine ae (ae ?_)
  exact ai ⟨⟨r, by rw [← yc k3]; rfl, k3, k4, k5⟩, rfl⟩
theorem Mg {H : Heap} {O : Own} {v : Value} {cs : List Cd} (h : CardsS H v cs) (o : Ob) : Triple PP eV [v, .agg o.row.toArray] H O fun r H' O' => NW cs o.card r H' ∧ O' = O := by
 refine fQ (vs := v :: o.row) (by kernel_rfl) ⟨h.one, cO o⟩ ?_
 simp only [dK]
 refine ah fun r0 => ah fun r1 => ?_
 refine ae ?_
 refine ab _ (aC _ _) ?_
 refine ae (af (af ?_))
 refine ab _ h.len ?_
 refine af (af (ab _ (eB _ _) (af (ab _ (aO _ _) ?_))))
 refine ak (fun hb => ?_) (fun hb => ?_)
 ·have hb : (decide (o.card < 0) || decide (o.card ≥ (cs.length : Int))) = true := hb
  refine ae (ae ?_)
  refine ai ⟨⟨DL, rfl, rfl, ⟨rfl, rfl, rfl, rfl, rfl, rfl, rfl, rfl, rfl, rfl, rfl, rfl, rfl, rfl, trivial⟩, ?_⟩, rfl⟩
  rw [yN, if_pos (by simpa using hb)]; exact Ow H
 ·have hb : (decide (o.card < 0) || decide (o.card ≥ (cs.length : Int))) = false := hb
  obtain ⟨a, r, k1, k2, k3, k4, k5⟩ := Er h o.card (by simpa [Bool.or_eq_false_iff] using hb)
  refine ae ?_
  refine ab _ k1 (ap (ep k2) k3 k4 ?_)
  refine ae (ae ?_)
  exact ai ⟨⟨r, by rw [← yc k3]; rfl, k3, k4, k5⟩, rfl⟩
theorem yQ {H : Heap} {v : Value} {l : List (List Value)} (h : Sl H 5 v l) (hb : l.length ≤ 2 ^ 30) : Triple PP dC [v] H [] fun v' H' O' => OSl dW 5 v' l O' := by
 refine gn (vs := [v]) (by kernel_rfl) ⟨h.one, trivial⟩ ?_
 simp only [cn]
 obtain ⟨a, cap, rfl, h1, h2, h3⟩ := h
 have hev : al (.bin .eql .slice) [.slice a l.length cap, .slice none 0 0] = some (.bool a.isNone) := by cases a <;> rfl
 refine ab _ hev (ak (fun hn => ai ?_) (fun hn => fun r0 => ?_))
 ·have hl : l = [] := by
   by_cases hl : l = []
   ·exact hl
   ·obtain ⟨ad, rfl, _⟩ := h3 hl; cases hn
  subst hl
  exact OSl.nil dW 5
 ·refine aA (rows := []) (news := l) (O1 := []) (O2 := []) (e := dW) (size := 5) (bytes := 40) (by kernel_rfl) (List.Perm.refl _) (.inl ⟨⟨_, rfl⟩, rfl, rfl⟩) (fun Hf hl _ => Sl.le hl ⟨a, cap, rfl, h1, h2, h3⟩) (by simp; omega) (by simp; omega) ?_
  intro v' O1' H' _ ho
  refine ai ?_
  rw [List.append_nil]
  exact ho
theorem GI {H : Heap} {v : Value} {l : List (List Value)} (h : Sl H 2 v l) (hb : l.length ≤ 2 ^ 30) : Triple PP de [v] H [] fun v' H' O' => OSl fh 2 v' l O' := by
 refine fK (vs := [v]) (by kernel_rfl) ⟨h.one, trivial⟩ ?_
 simp only [bV]
 obtain ⟨a, cap, rfl, h1, h2, h3⟩ := h
 have hev : al (.bin .eql .slice) [.slice a l.length cap, .slice none 0 0] = some (.bool a.isNone) := by cases a <;> rfl
 refine ab _ hev (ak (fun hn => ai ?_) (fun hn => fun r0 => ?_))
 ·have hl : l = [] := by
   by_cases hl : l = []
   ·exact hl
   ·obtain ⟨ad, rfl, _⟩ := h3 hl; cases hn
  subst hl
  exact OSl.nil fh 2
 ·refine aA (rows := []) (news := l) (O1 := []) (O2 := []) (e := fh) (size := 2) (bytes := 32) (by kernel_rfl) (List.Perm.refl _) (.inl ⟨⟨_, rfl⟩, rfl, rfl⟩) (fun Hf hl _ => Sl.le hl ⟨a, cap, rfl, h1, h2, h3⟩) (by simp; omega) (by simp; omega) ?_
  intro v' O1' H' _ ho
  refine ai ?_
  rw [List.append_nil]
  exact ho
def NY (c : Cd) (v : Value) (H : Heap) : Prop := ∃ cells : List Value, v = .agg cells.toArray ∧ cells.length = 14 ∧ Ones cells ∧ g cells 1 = iV c.kind ∧ EffsS H (g cells 11) c.tg
theorem dj {l : List Value} (h : Ones l) {i : Nat} (hi : i < l.length) : (g l i).oneCell' = true := by
 rw [g, List.getD_eq_getElem?_getD, List.getElem?_eq_getElem hi]
 exact lI h _ (List.getElem_mem hi)
theorem HR {H : Heap} {cells : List Value} {c : Cd} (h : CdR H cells c) (hl : cells.length = 14) (ho : Ones cells) (hli : gE c = true) :
  Triple PP uM [.agg cells.toArray] H [] fun r H' O' => NY c r H' ∧ O' = [] := by
 simp only [gE, Bool.and_eq_true, Bool.not_eq_true', Bool.or_eq_false_iff, decide_eq_false_iff_not, List.all_eq_true] at hli
 obtain ⟨⟨b1, b2⟩, b3⟩ := hli
 obtain ⟨hk, ⟨erows, e1, e2, e3⟩, ⟨trows, t1, t2, t3⟩⟩ := h
 refine u6 (vs := cells) (by rw [← yc hl]; kernel_rfl) ho ?_
 simp only [qk]
 refine ah fun r0 => ah fun r1 => ?_
 refine ae (ae ?_)
 refine ay (Triple.frozenS (yQ e1 (by omega))) ?_
 rintro x H1 _ ⟨hx, rfl⟩ l1
 refine ⟨[x], rfl, ⟨hx.one, trivial⟩, ?_⟩
 refine ay (GI (t1.le l1) (by omega)) fun y H2 O2 hy l2 => ⟨[y], rfl, ⟨hy.one, trivial⟩, ?_⟩
 have ylen := hy.len
 rw [t2] at ylen
 refine ae (ae (ae ?_))
 refine ab _ ylen ?_
 refine aQ c.tr.length (fun i H' O' => Heap.le H2 H' ∧ ∃ rows' A, O'.Perm A ∧ OSl fh 2 y rows' A ∧ rows'.length = c.tr.length ∧ ∀ j, i ≤ j → rows'[j]? = trows[j]?) ⟨Heap.le_refl _, trows, O2, by simp, hy, t2, fun _ _ => rfl⟩ ?_
 rintro i H' O' hi - ⟨hle, rows', A, hp, hA, hrl, hrest⟩
 refine ab _ (aC _ _) (ak (fun hb => ?_) (fun hb => ?_))
 ·have hlt : i < c.tr.length := by simpa using hb
  have hri : rows'[i]? = some trows[i] := by rw [hrest i (Nat.le_refl _)]; exact List.getElem?_eq_getElem (by omega)
  obtain ⟨er, k1, k2⟩ := t3 i trows[i] c.tr[i] (List.getElem?_eq_getElem (by omega)) (List.getElem?_eq_getElem hlt)
  have hb3 := b3 _ (List.getElem_mem hlt)
  obtain ⟨a, i1, i2, i3, i4⟩ := hA.idx (fun p h => hp.mem_iff.2 h) H' (k := .i64) hri
  obtain ⟨w1, w2⟩ := hA.rows_ok hri
  refine ab _ i1 (ap i3 w1 w2 (ah fun r2 => ?_))
  refine ae (ae (ae ?_))
  refine ay (Triple.frozenS (yQ (k1.le (Heap.le_trans l1 (Heap.le_trans l2 hle))) (by rw [k2]; omega))) ?_
  rintro z H3 _ ⟨hz, rfl⟩ l3
  refine ⟨[z], rfl, ⟨hz.one, trivial⟩, ?_⟩
  obtain ⟨a2, j1, j2⟩ := hA.store (O := [] ++ O') (O2 := []) (by simpa using hp) (k := .i64) hri
  obtain ⟨A', hst, hA'⟩ := j2 1 [z] (by simp [w1]) ⟨hz.one, trivial⟩
  refine ab _ j1 ?_
  refine aD rfl (aD rfl ?_)
  refine ⟨_, hst, ?_⟩
  refine ab _ (az (by omega)) (aJ (by simp [Eqs]) hlt ⟨Heap.le_trans hle l3, _, A', by simp, hA', by simp [hrl], fun j hj => ?_⟩)
  rw [List.getElem?_set_ne (by omega)]
  exact hrest j (by omega)
 ·refine ae (ae (ae ?_))
  refine ve ⟨⟨[g cells 0, g cells 1, g cells 2, g cells 3, g cells 4, g cells 5, g cells 6, g cells 7, g cells 8, g cells 9, g cells 10, x, y, g cells 13], rfl, rfl, ?_, hk, ⟨erows, hx.le (Heap.le_trans l2 hle), e2, e3⟩⟩, rfl⟩
  exact ⟨dj ho (by omega), dj ho (by omega), dj ho (by omega), dj ho (by omega), dj ho (by omega), dj ho (by omega), dj ho (by omega), dj ho (by omega), dj ho (by omega), dj ho (by omega), dj ho (by omega), hx.one, hy.one, dj ho (by omega), trivial⟩
theorem JO {H : Heap} {v : Value} {cs : List Cd} (h : CardsS H v cs) (hli : dT cs = true) (o : Ob) : Triple PP qw [v, .agg o.row.toArray] H [] fun r H' O' => NY (yN cs o.card) r H' ∧ O' = [] := by
 refine rQ (vs := v :: o.row) (by kernel_rfl) ⟨h.one, cO o⟩ ?_
 simp only [lR]
 refine ah fun r0 => ah fun r1 => ?_
 refine ae ?_
 refine ay (MH (O := []) h o) ?_
 rintro _ H1 _ ⟨⟨cells, rfl, k1, k2, k3⟩, rfl⟩ l1
 refine ⟨cells, by simp [Shp.open, k1], k2, ?_⟩
 have hrow := yc k1
 refine ay (HR (cells := [g cells 0, g cells 1, g cells 2, g cells 3, g cells 4, g cells 5, g cells 6, g cells 7, g cells 8, g cells 9, g cells 10, g cells 11, g cells 12, g cells 13]) (by rw [hrow]; exact k3) rfl (by rw [hrow]; exact k2) (yH hli _)) ?_
 rintro _ H2 _ ⟨⟨cells2, rfl, m1, m2, m3, m4⟩, rfl⟩ l2
 refine ⟨cells2, by simp [Shp.open, m1], m2, ?_⟩
 refine ae (ae ?_)
 exact ai ⟨⟨cells2, by rw [← yc m1]; rfl, m1, m2, m3, m4⟩, rfl⟩
theorem EG {α : Type} {p : α → Bool} {l : List α} {i : Nat} (h : i < l.length) : ((l.take (i + 1)).filter p).length = ((l.take i).filter p).length + if p l[i] then 1 else 0 := by
 rw [List.take_add_one, List.getElem?_eq_getElem h, List.filter_append, List.length_append]
 congr 1
 by_cases hp : p l[i] <;> simp [hp]
theorem Fy {H : Heap} {O : Own} {v : Value} {tg : List Int} (h : EffsS H v tg) {i : Nat} (hi : i < tg.length) :
  ∃ a r, al (.idx 5) [v, iV i] = some (.pointer (some a)) ∧ H.read (.pointer (some a)) 5 = some r ∧ r.length = 5 ∧ Ones r ∧ g r 1 = iV tg[i] ∧ Reads H O (aS (.pointer (some a)) 1) 1 [iV tg[i]] := by
 obtain ⟨rows, h1, h2, h3⟩ := h
 have hlt : i < rows.length := by omega
 obtain ⟨a, k1, k2, k3, k4⟩ := h1.idx (k := .i64) (i := i) (List.getElem?_eq_getElem hlt)
 have hg := h3 i _ _ (List.getElem?_eq_getElem hlt) (List.getElem?_eq_getElem hi)
 obtain ⟨a2, j1, _, j3, _⟩ := (h1.rsl O).idx .i64 i rows[i] (by simp [hlt])
 obtain rfl : a2 = a := by rw [j1] at k1; simpa using k1
 have hr := j3 1 1 (by omega)
 refine ⟨_, _, k1, k2, k3, k4, hg, ?_⟩
 have e : ((rows[i]).drop 1).take 1 = [iV tg[i]] := by
  match hm : rows[i], k3 with
  | [_, b, _, _, _], _ => rw [hm] at hg; simpa [g] using hg
 rw [e] at hr
 exact hr
theorem JT {H : Heap} {O : Own} {v : Value} {tg : List Int} (h : EffsS H v tg) (hb : tg.length ≤ 1000000) : RetO PP qE [v] H O (iV (dk tg).length) := by
 refine u4 (vs := [v]) (by kernel_rfl) ⟨h.one, trivial⟩ ?_
 simp only [kM]
 refine ab _ h.len ?_
 refine dc tg.length (fun i x H' O' => O' = O ∧ Heap.le H H' ∧ x = iV (dk (tg.take i)).length) ⟨rfl, Heap.le_refl _, rfl⟩ ?_
 rintro i x H' O' hi - ⟨rfl, hle, rfl⟩
 refine ab _ (aC _ _) (ak (fun hb => ?_) (fun hb => ?_))
 ·have hlt : i < tg.length := by simpa using hb
  obtain ⟨a, r, k1, k2, k3, k4, k5, _⟩ := Fy (O := O') (h.le hle) hlt
  refine ab _ k1 (ap (ep k2) k3 k4 (ah fun r0 => ?_))
  refine ae (ae ?_)
  rw [k5]
  refine ab _ (bG _ _) ?_
  have hft := EG (p := fun t : Int => t != 0) hlt
  have hfl : ((tg.take i).filter fun t : Int => t != 0).length ≤ tg.length := Nat.le_trans (List.length_filter_le _ _) (by rw [List.length_take]; omega)
  refine ak (fun hc => ?_) (fun hc => ?_)
  ·have hc : (tg[i] != 0) = true := hc
   rw [if_pos hc] at hft
   refine ab _ (az (by rw [dk]; omega)) (ab _ (az (by omega)) (aR (by simp [Eqs]) hlt ⟨rfl, hle, ?_⟩))
   rw [dk, dk, hft]
  ·have hc : (tg[i] != 0) = false := hc
   rw [if_neg (by rw [hc]; simp)] at hft
   refine ab _ (az (by omega)) (aR (by simp [Eqs]) hlt ⟨rfl, hle, ?_⟩)
   rw [dk, dk, hft]; rfl
 ·have hge : tg.length ≤ i := by simpa using hb
  rw [List.take_of_length_le hge]
  exact ai ⟨rfl, rfl⟩
end Go.Proofs.YtieaihgbjikggaaGreat
namespace Go.Proofs.YtieaihgbjikggaaGreat
open Go Go.Sx
set_option maxRecDepth 100000
set_option maxHeartbeats 1000000
def N0 (c : Int) : Ob := ⟨0, c, 0, 0, 0, 0, 0, 0, 0, false, false, false⟩
def MW (k : Int) : Bool := k == 3 || k == 4
def mW (cs : List Cd) (x : It) : Bool := (MW (yN cs x.card).kind && decide (x.trig < 0)) && decide ((x.tgs.length : Int) ≥ ((dk (yN cs x.card).tg).length : Int))
def ma (cs : List Cd) (x : It) : Bool := (x.trig == -1 && MW (yN cs x.card).kind) && decide ((x.tgs.length : Int) ≥ ((dk (yN cs x.card).tg).length : Int))
theorem Gu {cs : List Cd} (h : dT cs = true) (c : Int) : (yN cs c).tg.length ≤ 5 := by
 have := yH h c
 simp only [gE, Bool.and_eq_true, Bool.not_eq_true', Bool.or_eq_false_iff, decide_eq_false_iff_not] at this
 omega
theorem Mz {H : Heap} {v : Value} {cs : List Cd} (h : CardsS H v cs) (hli : dT cs = true) {row : List Value} {x : It} (hx : ItR H [] row x) : RetO PP tX [v, .agg row.toArray] H [] (.bool (mW cs x)) := by
 obtain ⟨s, rfl, hs⟩ := hx
 refine xQ (vs := [v, iV x.player, iV x.id, iV x.card, iV x.trig, s]) (by kernel_rfl) ⟨h.one, rfl, rfl, rfl, rfl, hs.one, trivial⟩ ?_
 simp only [nO]
 refine ah fun r0 => ?_
 refine ae ?_
 refine ay (JO h hli (N0 x.card)) ?_
 rintro _ H1 _ ⟨⟨cells, rfl, k1, k2, k3, k4⟩, rfl⟩ l1
 refine ⟨cells, by simp [Shp.open, k1], k2, ah fun r1 => ?_⟩
 have k3 : g cells 1 = iV (yN cs x.card).kind := k3
 have k4 : EffsS H1 (g cells 11) (yN cs x.card).tg := k4
 refine ae (ae ?_)
 rw [k3]
 have hsl : al .len [s] = some (iV x.tgs.length) := by have := hs.len; rwa [List.length_map] at this
 refine ab _ (aH _ _) (ae (af (af (ab _ (aH _ _) (af (ab _ (aO _ _) (ae (af (af (ab _ (aC _ _) (af (ab _ (bg _ _) ?_))))))))))))
 refine ak (fun hb => ?_) (fun hb => ?_)
 ·have hb : (MW (yN cs x.card).kind && decide (x.trig < 0)) = true := hb
  refine ae ?_
  refine ab _ hsl ?_
  refine ae ?_
  refine aj (JT k4 (by have := Gu hli x.card; omega)) rfl ⟨rfl, trivial⟩ fun H2 l2 => ?_
  refine ab _ (du _ _) (ai ⟨?_, rfl⟩)
  rw [mW, hb, Bool.true_and]
 ·have hb : (MW (yN cs x.card).kind && decide (x.trig < 0)) = false := hb
  refine ai ⟨?_, rfl⟩
  rw [mW, hb, Bool.false_and]
theorem IW {H : Heap} {v : Value} {tg : List Int} (h : EffsS H v tg) (hb : tg.length ≤ 1000000) : Triple PP kZ [v] H [] fun r _ O' => OSl dF 1 r (aG (dk tg)) O' := by
 refine qG (vs := [v]) (by kernel_rfl) ⟨h.one, trivial⟩ ?_
 simp only [gH]
 refine dc tg.length (fun i x H' O' => Heap.le H H' ∧ OSl dF 1 x (aG (dk (tg.take i))) O') ⟨Heap.le_refl _, OSl.nil _ _⟩ ?_
 rintro i x H' O' hi - ⟨hle, hx⟩
 refine ab _ (h.le hle).len ?_
 refine ab _ (aC _ _) (ak (fun hb => ?_) (fun hb => ?_))
 ·have hlt : i < tg.length := by simpa using hb
  obtain ⟨a, r, k1, k2, k3, k4, k5, k6⟩ := Fy (O := O') (h.le hle) hlt
  have hft := eJ (p := fun t : Int => t != 0) hlt
  refine ab _ k1 ?_
  refine aD rfl ?_
  refine ap k6 rfl ⟨rfl, trivial⟩ ?_
  refine ab _ (bG _ _) ?_
  refine ak (fun hc => ?_) (fun hc => ?_)
  ·have hc : (tg[i] != 0) = true := hc
   have hlen : (dk (tg.take i)).length ≤ 1000000 := by rw [dk]; exact Nat.le_trans (List.length_filter_le _ _) (by rw [List.length_take]; omega)
   refine ab _ k1 ?_
   refine aD rfl ?_
   refine ap k6 rfl ⟨rfl, trivial⟩ (ah fun r2 => ?_)
   refine aA (rows := aG (dk (tg.take i))) (news := [[iV tg[i]]]) (O1 := O') (O2 := []) (e := dF) (size := 1) (bytes := 8) (by kernel_rfl) (by simp) hx (fun Hf _ hf => Sl.block1 (hf _ List.mem_cons_self) rfl ⟨rfl, trivial⟩) (by rw [aG, List.length_map, List.length_singleton]; omega) (by rw [aG, List.length_map, List.length_singleton]; omega) ?_
   intro v' A' H6 l6 hA'
   refine ab _ (az (by omega)) (aR (by simp [Eqs]) hlt ⟨Heap.le_trans hle l6, ?_⟩)
   rw [List.append_nil, dk, hft, if_pos hc, aG, List.map_append]; exact hA'
  ·have hc : (tg[i] != 0) = false := hc
   refine ab _ (az (by omega)) (aR (by simp [Eqs]) hlt ⟨hle, ?_⟩)
   rw [dk, hft, if_neg (by rw [hc]; simp), List.append_nil]; exact hx
 ·have hge : tg.length ≤ i := by simpa using hb
  rw [List.take_of_length_le hge] at hx
  exact ai hx
theorem Md {H : Heap} {v : Value} {cs : List Cd} (h : CardsS H v cs) (hli : dT cs = true) {row : List Value} {x : It} (hx : ItR H [] row x) : RetO PP kY [v, .agg row.toArray] H [] (.bool (ma cs x)) := by
 obtain ⟨s, rfl, hs⟩ := hx
 refine qF (vs := [v, iV x.player, iV x.id, iV x.card, iV x.trig, s]) (by kernel_rfl) ⟨h.one, rfl, rfl, rfl, rfl, hs.one, trivial⟩ ?_
 simp only [gG]
 refine ah fun r0 => ?_
 refine ae ?_
 refine ay (Mg (O := []) h (N0 x.card)) ?_
 rintro _ H1 _ ⟨⟨cells, rfl, k1, k2, k3⟩, rfl⟩ l1
 refine ⟨cells, by simp [Shp.open, k1], k2, ah fun r1 => ?_⟩
 have k5 : g cells 1 = iV (yN cs x.card).kind := k3.kind
 have k4 : EffsS H1 (g cells 11) (yN cs x.card).tg := k3.eff
 refine ae (ae ?_)
 rw [k5]
 have hsl : al .len [s] = some (iV x.tgs.length) := by have := hs.len; rwa [List.length_map] at this
 refine ab _ (aH _ _) (ae (af (af (ab _ (aH _ _) (af (ae (af (af (af (af (ab _ (aH _ _) (af (af (af (ab _ (aO _ _) (af (ab _ (bg _ _) ?_)))))))))))))))))
 refine ak (fun hb => ?_) (fun hb => ?_)
 ·have hb : (x.trig == -1 && MW (yN cs x.card).kind) = true := hb
  refine ae ?_
  refine ab _ hsl ?_
  refine ae ?_
  refine ay (IW k4 (by have := Gu hli x.card; omega)) fun y H2 O2 hy l2 => ⟨[y], rfl, ⟨hy.one, trivial⟩, ?_⟩
  have hyl := hy.len
  rw [aG, List.length_map] at hyl
  refine ab _ hyl ?_
  refine ab _ (du _ _) (ve ⟨?_, rfl⟩)
  rw [ma, hb, Bool.true_and]
 ·have hb : (x.trig == -1 && MW (yN cs x.card).kind) = false := hb
  refine ai ⟨?_, rfl⟩
  rw [ma, hb, Bool.false_and]
theorem Kl {cs : List Cd} {x : It} (h : cd x false = true) : ma cs x = mW cs x := by
 have ht : (x.trig == -1) = decide (x.trig < 0) := by
  simp only [cd, Bool.and_eq_true, aw, decide_eq_true_eq] at h
  obtain ⟨_, _, _, h4, _⟩ := h
  rw [Bool.eq_iff_iff]; simp; omega
 rw [ma, mW, ht, Bool.and_comm (decide (x.trig < 0))]
end Go.Proofs.YtieaihgbjikggaaGreat
