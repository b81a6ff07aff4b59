/- What the top of the stack needs: stack.Open, the reference's Open and Targets. -/
import Derived.Test.YtieaihgbjikggaaGreatC51
import Derived.Test.YtieaihgbjikggaaGreatM17
namespace Go.Proofs.YtieaihgbjikggaaGreat
open Go Go.Sx
set_option maxRecDepth 100000
set_option maxHeartbeats 1000000
theorem Nz (x y : Int) : al .min2 [iV x, iV y] = some (iV (min x y)) := by
 simp only [al]
 congr 2
 split <;> omega
theorem Ex {H : Heap} {O : Own} {v : Value} {l : List It} (h : ItsS H v l) {i : Nat} {x : It} (hx : l[i]? = some x) :
  ∃ a s, al (.idx 5) [v, iV i] = some (.pointer (some a)) ∧ Sl H 2 s (be x.tgs) ∧ Reads H O (.pointer (some a)) 5 [iV x.player, iV x.id, iV x.card, iV x.trig, s] ∧
   ∀ off m, off + m ≤ 5 → Reads H O (aS (.pointer (some a)) off) m (([iV x.player, iV x.id, iV x.card, iV x.trig, s].drop off).take m) := by
 obtain ⟨rows, h1, h2, h3⟩ := h
 have hlt := (List.getElem?_eq_some_iff.1 hx).1
 have hr : rows[i]? = some (rows[i]'(by omega)) := List.getElem?_eq_getElem (by omega)
 obtain ⟨s, e, hs⟩ := h3 i _ x hr hx
 obtain ⟨a, k1, k2, k3, _⟩ := (h1.rsl O).idx .i64 i _ hr
 rw [e] at k2 k3
 exact ⟨a, s, k1, hs, k2, k3⟩
theorem kn {α : Type} (l : List α) (x : α) : (l ++ [x])[l.length]? = some x := by simp
def hJ (cs : List CdX) (x : It) : List Int := dk ((Ig cs x.card x.trig).map (·.target))
def Ej (cs : List CdX) (x : It) : Int := if x.trig = -1 ∧ (x.tgs.length : Int) < min 4 ((hJ cs x).length : Int) then (hJ cs x).getD x.tgs.length 0 else 0
def kI (cs : List CdX) (b : Bd) : Int := match b.stack.getLast? with
 | none => 0
 | some x => Ej cs x
theorem zz {cs : List CdX} {b : Bd} {l : List It} {x : It} (hl : b.stack = l ++ [x]) : kI cs b = Ej cs x := by
 simp [kI, hl]
theorem oB {cs : List CdX} {b : Bd} (hl : b.stack = []) : kI cs b = 0 := by
 simp [kI, hl]
theorem uV {b : Bd} (h : b.stack ≠ []) : ∃ l x, b.stack = l ++ [x] := ⟨b.stack.dropLast, b.stack.getLast h, (List.dropLast_concat_getLast h).symm⟩
theorem Do {cs : List CdX} (hli : dT (cs.map CdX.base) = true) (c t : Int) : (Ig cs c t).length ≤ 5 := by
 have h := yH hli c
 rw [← GE] at h
 simp only [gE, CdX.base, Bool.and_eq_true, Bool.not_eq_true', Bool.or_eq_false_iff, decide_eq_false_iff_not, List.all_eq_true, List.length_map] at h
 obtain ⟨⟨h1, h2⟩, h3⟩ := h
 rw [Ig]
 split
 ·omega
 split
 ·simp
 ·rename_i hn
  have hlt : t.toNat < (cdX cs c).trs.length := by omega
  rw [List.getD_eq_getElem?_getD, List.getElem?_eq_getElem hlt, Option.getD_some]
  have := h3 _ (List.mem_map.2 ⟨_, List.getElem_mem hlt, rfl⟩)
  omega
theorem BM {cs : List CdX} (hli : dT (cs.map CdX.base) = true) (x : It) : (hJ cs x).length ≤ 5 := by
 have := Do hli x.card x.trig
 have h2 : (hJ cs x).length ≤ ((Ig cs x.card x.trig).map (·.target)).length := List.length_filter_le _ _
 rw [List.length_map] at h2
 omega
theorem LK {H : Heap} {cv : Value} {cs : List CdX} (hk : CardsX H cv cs) (hli : dT (cs.map CdX.base) = true) {v : dG} {b : Bd} (h : BdS H v b) (hv : ax b = true) : RetO PP xJ [cv, .agg (aq v b).toArray] H [] (iV (kI cs b)) := by
  refine AP (vs := cv :: aq v b) (by kernel_rfl) ⟨hk.one, au (h.r [])⟩ ?_
  simp only [sJ]
  have slen : al .len [v.s] = some (iV b.stack.length) := ItsR.len (h.stack.r [])
  have h200 := lD hv
  refine ah fun r0 => ?_
  refine ae ?_
  refine ab _ slen ?_
  refine ab _ (aH _ _) (ak (fun h0 => ?_) (fun h0 => ?_))
  · have h0 : b.stack = [] := List.length_eq_zero_iff.1 (by have : (b.stack.length : Int) = 0 := by simpa using h0
                                                            omega)
    exact ai ⟨by rw [oB h0], rfl⟩
  have hne : b.stack ≠ [] := fun e => by rw [e] at h0; simp at h0
  obtain ⟨l, x, hl⟩ := uV hne
  have hlen : b.stack.length = l.length + 1 := by rw [hl]; simp
  have hxf := ed hv (x := x) (by rw [hl]; simp)
  rw [zz hl]
  refine ae ?_
  refine aj (bp (h.r [])) rfl ⟨rfl, trivial⟩ fun H1 l1 => ?_
  rw [hv]
  have h := h.le l1
  have hk := hk.le l1
  obtain ⟨a, s, k1, hs, k2, k3⟩ := Ex (O := []) h.stack (i := l.length) (x := x) (by rw [hl]; exact kn l x)
  have esub : ((b.stack.length : Int) - 1) = (l.length : Int) := by omega
  refine ab _ (aI _) ?_
  refine ae (af (af ?_))
  refine ab _ (Bt (by omega) (by omega)) ?_
  rw [esub]
  refine af (af ?_)
  refine ⟨_, fun _ => k1, .inr rfl, ?_⟩
  refine ⟨fun _ => rfl, ?_⟩
  refine af (af ?_)
  refine ⟨[iV x.trig], rfl, ⟨rfl, trivial⟩, fun _ => k3 3 1 (by omega), ?_⟩
  refine af ?_
  refine ab _ (bG _ _) ?_
  refine af ?_
  refine ab _ (aO _ _) (ak (fun ht => ?_) (fun ht => ?_))
  · have ht : (!true || x.trig != -1) = true := ht
    have ht : x.trig ≠ -1 := by simpa using ht
    exact ai ⟨by rw [Ej, if_neg (fun h => ht h.1)], rfl⟩
  have ht : (!true || x.trig != -1) = false := ht
  have ht : x.trig = -1 := by simpa using ht
  refine ae ?_
  refine ab _ (Bt (by omega) (by omega)) ?_
  rw [esub]
  refine ab _ k1 (ap k2 rfl ⟨rfl, rfl, rfl, rfl, hs.one, trivial⟩ (ah fun r1 => ?_))
  refine ae (ae ?_)
  refine ay (Triple.frozenS (HP hk hli x.player x.id x.card x.trig hs.one)) ?_
  rintro ev H2 _ ⟨hev, rfl⟩ l2
  refine ⟨[ev], rfl, ⟨hev.one, trivial⟩, ?_⟩
  have hn5 := BM hli x
  refine ay (Triple.frozenS (MM (Ag hev) (by rw [List.length_map]; have := Do hli x.card x.trig; omega))) ?_
  rintro nv H3 _ ⟨hnv, rfl⟩ l3
  have hnv : Sl H3 1 nv (aG (hJ cs x)) := hnv
  refine ⟨[nv], rfl, ⟨hnv.one, trivial⟩, ?_⟩
  have tlen : al .len [s] = some (iV x.tgs.length) := by have := hs.len; rwa [aY] at this
  have nlen : al .len [nv] = some (iV (hJ cs x).length) := by have := hnv.len; rwa [aG, List.length_map] at this
  have ht4 : x.tgs.length ≤ 4 := by
    simp only [cd, Bool.and_eq_true, Bool.not_eq_true', Bool.or_eq_false_iff, decide_eq_false_iff_not] at hxf
    have := hxf.2.2.2.2.1.1.1
    omega
  refine ae ?_
  refine ab _ tlen ?_
  refine ab _ nlen ?_
  refine ab _ (aC _ _) ?_
  refine af ?_
  refine ab _ (aC _ _) ?_
  refine af ?_
  refine ab _ (bg _ _) (ak (fun hc => ?_) (fun hc => ?_))
  · have hc : (decide ((x.tgs.length : Int) < ((hJ cs x).length : Int)) && decide ((x.tgs.length : Int) < 4)) = true := hc
    have hc : (x.tgs.length : Int) < ((hJ cs x).length : Int) ∧ (x.tgs.length : Int) < 4 := by simpa using hc
    have hlt : x.tgs.length < (hJ cs x).length := by omega
    obtain ⟨a2, i1, i2, _, i3, i4⟩ := (hnv.rsl ([] : Own)).idx .i64 x.tgs.length [iV (hJ cs x)[x.tgs.length]] (by simp [aG, hlt])
    refine ab _ i1 (ap i2 rfl ⟨rfl, trivial⟩ ?_)
    refine ai ⟨?_, rfl⟩
    rw [Ej, if_pos ⟨ht, by omega⟩, List.getD_eq_getElem?_getD, List.getElem?_eq_getElem hlt]; rfl
  · have hc : (decide ((x.tgs.length : Int) < ((hJ cs x).length : Int)) && decide ((x.tgs.length : Int) < 4)) = false := hc
    have hc : ¬ ((x.tgs.length : Int) < ((hJ cs x).length : Int) ∧ (x.tgs.length : Int) < 4) := by
      intro hh
      rw [decide_eq_true hh.1, decide_eq_true hh.2] at hc
      cases hc
    exact ai ⟨by rw [Ej, if_neg (fun h => hc (by omega))], rfl⟩
theorem IV {H : Heap} {cv : Value} {cs : List CdX} (hk : CardsX H cv cs) (hli : dT (cs.map CdX.base) = true) {v : dG} {b : Bd} (h : BdS H v b) (hv : ax b = true) : RetO PP mG [cv, .agg (aq v b).toArray] H [] (iV (kI cs b)) := by
  refine rF (vs := cv :: aq v b) (by kernel_rfl) ⟨hk.one, au (h.r [])⟩ ?_
  simp only [io]
  have slen : al .len [v.s] = some (iV b.stack.length) := ItsR.len (h.stack.r [])
  have h200 := lD hv
  refine ah fun r0 => ?_
  refine ae ?_
  refine ab _ slen ?_
  refine ab _ (aH _ _) (ak (fun h0 => ?_) (fun h0 => ?_))
  · have h0 : b.stack = [] := List.length_eq_zero_iff.1 (by have : (b.stack.length : Int) = 0 := by simpa using h0
                                                            omega)
    exact ai ⟨by rw [oB h0], rfl⟩
  have hne : b.stack ≠ [] := fun e => by rw [e] at h0; simp at h0
  obtain ⟨l, x, hl⟩ := uV hne
  have hlen : b.stack.length = l.length + 1 := by rw [hl]; simp
  rw [zz hl]
  obtain ⟨a, s, k1, hs, k2, k3⟩ := Ex (O := []) h.stack (i := l.length) (x := x) (by rw [hl]; exact kn l x)
  have esub : ((b.stack.length : Int) - 1) = (l.length : Int) := by omega
  refine ae (ae ?_)
  refine ab _ slen ?_
  refine ab _ (Bt (by omega) (by omega)) ?_
  rw [esub]
  refine ab _ k1 (ap k2 rfl ⟨rfl, rfl, rfl, rfl, hs.one, trivial⟩ (ah fun r1 => ?_))
  refine ae (ae ?_)
  refine ay (GY hk x.player x.id x.card x.trig hs.one) ?_
  rintro ev H2 _ ⟨hev, rfl⟩ l2
  refine ⟨[ev], rfl, ⟨hev.one, trivial⟩, ?_⟩
  have hn5 := BM hli x
  refine ay (Triple.frozenS (IW (Ag hev) (by rw [List.length_map]; have := Do hli x.card x.trig; omega))) ?_
  rintro nv H3 _ ⟨hnv, rfl⟩ l3
  have hnv : Sl H3 1 nv (aG (hJ cs x)) := hnv
  refine ⟨[nv], rfl, ⟨hnv.one, trivial⟩, ?_⟩
  have tlen : al .len [s] = some (iV x.tgs.length) := by have := hs.len; rwa [aY] at this
  have nlen : al .len [nv] = some (iV (hJ cs x).length) := by have := hnv.len; rwa [aG, List.length_map] at this
  refine ae ?_
  refine ab _ (bG _ _) ?_
  refine ae (af (af ?_))
  refine ab _ tlen ?_
  refine af ?_
  refine ab _ nlen ?_
  refine af ?_
  refine ab _ (Nz _ _) ?_
  refine af (af ?_)
  refine ab _ (du _ _) ?_
  refine af ?_
  refine ab _ (aO _ _) (ak (fun hc => ?_) (fun hc => ?_))
  · have hc : ((x.trig != -1) || decide ((x.tgs.length : Int) ≥ min 4 ((hJ cs x).length : Int))) = true := hc
    have hc : ¬ (x.trig = -1 ∧ (x.tgs.length : Int) < min 4 ((hJ cs x).length : Int)) := by
      intro hh
      rw [hh.1, decide_eq_false (by omega)] at hc
      cases hc
    exact ai ⟨by rw [Ej, if_neg hc], rfl⟩
  · have hc : ((x.trig != -1) || decide ((x.tgs.length : Int) ≥ min 4 ((hJ cs x).length : Int))) = false := hc
    have hc : x.trig = -1 ∧ (x.tgs.length : Int) < min 4 ((hJ cs x).length : Int) := by
      rw [Bool.or_eq_false_iff] at hc
      exact ⟨by simpa using hc.1, by have := of_decide_eq_false hc.2; omega⟩
    have hlt : x.tgs.length < (hJ cs x).length := by omega
    obtain ⟨a2, i1, i2, _, i3, i4⟩ := (hnv.rsl ([] : Own)).idx .i64 x.tgs.length [iV (hJ cs x)[x.tgs.length]] (by simp [aG, hlt])
    refine ae ?_
    refine ab _ tlen ?_
    refine ab _ i1 (ap i2 rfl ⟨rfl, trivial⟩ ?_)
    refine ai ⟨?_, rfl⟩
    rw [Ej, if_pos hc, List.getD_eq_getElem?_getD, List.getElem?_eq_getElem hlt]; rfl
def Kh (b : Bd) : Int := match b.stack.getLast? with
 | none => 0
 | some x => x.player
theorem uW {b : Bd} {l : List It} {x : It} (hl : b.stack = l ++ [x]) : Kh b = x.player := by
 simp [Kh, hl]
def d7 (cs : List CdX) (b : Bd) : List Tg := if kI cs b = 0 then [] else uK (cs.map CdX.base) b (Kh b) (kI cs b)
theorem IR {H : Heap} {cv : Value} {cs : List CdX} (hk : CardsX H cv cs) (hli : dT (cs.map CdX.base) = true) {v : dG} {b : Bd} (h : BdS H v b) (hv : ax b = true) (hB : bdB b) (hfit : Bk b) :
  Triple PP jL [cv, .agg (aq v b).toArray] H [] fun r H' O' => Sl H' 2 r (be (d7 cs b)) ∧ O' = [] := by
 refine om (vs := cv :: aq v b) (by kernel_rfl) ⟨hk.one, au (h.r [])⟩ ?_
 simp only [fu]
 have h200 := lD hv
 refine ah fun r0 => ?_
 refine ae ?_
 refine aj (IV hk hli h hv) rfl ⟨rfl, trivial⟩ fun H1 l1 => ?_
 have h := h.le l1
 have hk := hk.le l1
 have slen : al .len [v.s] = some (iV b.stack.length) := ItsR.len (h.stack.r [])
 refine ab _ (aH _ _) (ak (fun h0 => ?_) (fun h0 => ?_))
 ·have h0 : kI cs b = 0 := by simpa using h0
  exact ai ⟨by rw [d7, if_pos h0]; exact Sl.nil _ _, rfl⟩
 have h0 : kI cs b ≠ 0 := by simpa using h0
 have hne : b.stack ≠ [] := fun e => h0 (oB e)
 obtain ⟨l, x, hl⟩ := uV hne
 have hlen : b.stack.length = l.length + 1 := by rw [hl]; simp
 obtain ⟨a, s, k1, hs, k2, k3⟩ := Ex (O := []) h.stack (i := l.length) (x := x) (by rw [hl]; exact kn l x)
 have esub : ((b.stack.length : Int) - 1) = (l.length : Int) := by omega
 have etop := uW hl
 refine ae (ae (ae ?_))
 refine ab _ slen ?_
 refine ab _ (Bt (by omega) (by omega)) ?_
 rw [esub]
 refine ab _ k1 (aD rfl (ap (k3 0 1 (by omega)) rfl ⟨rfl, trivial⟩ ?_))
 refine ay (IS hk.base hli h hB hfit (by omega) x.player (kI cs b)) ?_
 rintro rv H2 _ ⟨hrv, rfl⟩ l2
 refine ⟨[rv], rfl, ⟨hrv.one, trivial⟩, ?_⟩
 exact ai ⟨by rw [d7, if_neg h0, etop]; exact hrv, rfl⟩
end Go.Proofs.YtieaihgbjikggaaGreat
namespace Go.Proofs.YtieaihgbjikggaaGreat
open Go Go.Sx
set_option maxRecDepth 100000
set_option maxHeartbeats 1000000
theorem Hs {α : Type} {Ts : List α} {n : Nat} (h : Ts.length = n + 1) : ∃ T, Ts = Ts.take n ++ [T] ∧ Ts[n]? = some T := by
 have hlt : n < Ts.length := by omega
 refine ⟨Ts[n], ?_, List.getElem?_eq_getElem hlt⟩
 have := List.take_append_drop n Ts
 rw [List.drop_eq_getElem_cons hlt, List.drop_of_length_le (by omega)] at this
 exact this.symm
theorem JZ {w : dG} {b : Bd} {O : Own} (ho : OwnBS tys w b O) {l : List It} {x : It} (hl : b.stack = l ++ [x]) :
  ∃ A1 T X s a, O.Perm (A1 ++ (T ++ X)) ∧ al (.idx 5) [w.s, iV l.length] = some (.pointer (some a)) ∧ OSl ar 2 s (be x.tgs) T ∧
   (∀ (H : Heap) O', (∀ p ∈ A1, p ∈ O') → Reads H O' (.pointer (some a)) 5 [iV x.player, iV x.id, iV x.card, iV x.trig, s] ∧ Reads H O' (aS (.pointer (some a)) 4) 1 [s]) ∧
   ∀ T' s2 t O', OSl ar 2 s2 (be (x.tgs ++ [t])) T' → O'.Perm (A1 ++ (T' ++ X)) → ∃ O1, tq O' (aS (.pointer (some a)) 4) [s2] O1 ∧ OwnB tys w { b with stack := l ++ [Ia x t] } O1 := by
 obtain ⟨A, R, hp, ⟨rows, A1, Ts, q1, q2, q3, q4, q5⟩, back⟩ := ho
 have hn : b.stack.length = l.length + 1 := by rw [hl]; simp
 have hri : rows[l.length]? = some (rows[l.length]'(by omega)) := List.getElem?_eq_getElem (by omega)
 have hxi : b.stack[l.length]? = some x := by rw [hl]; exact kn l x
 have hTi : l.length < Ts.length := by omega
 obtain ⟨s, e, hs⟩ := q5 _ _ _ _ hri hxi (List.getElem?_eq_getElem hTi)
 obtain ⟨p1, p2⟩ := nk hTi
 obtain ⟨a, k1, _⟩ := q2.store (O := A1) (O2 := []) (by simp) (k := .i64) hri
 refine ⟨A1, Ts[l.length], List.flatten (Ts.eraseIdx l.length) ++ R, s, a, ?_, k1, hs, fun H O' hm => ?_, fun T' s2 t O' hs2 hO => ?_⟩
 ·refine hp.trans ((q1.append_right R).trans ?_)
  rw [List.append_assoc]
  refine List.Perm.append_left A1 ?_
  refine (p1.append_right R).trans ?_
  rw [List.append_assoc]
 ·obtain ⟨a', i1, _, i2, i3⟩ := q2.idx hm H (k := .i64) hri
  have : a' = a := by
   rw [k1] at i1
   simpa using i1.symm
  subst this
  rw [e] at i2 i3
  exact ⟨i2, i3 4 1 (by omega)⟩
 ·obtain ⟨a', j1, j2⟩ := q2.store hO (k := .i64) hri
  have : a' = a := by
   rw [k1] at j1
   simpa using j1.symm
  subst this
  obtain ⟨A', hst, hA'⟩ := j2 4 [s2] (by simp) ⟨hs2.one, trivial⟩
  have hsp : ct (rows[l.length]'(by omega)) 4 [s2] = [iV x.player, iV x.id, iV x.card, iV x.trig, s2] := by rw [e]; rfl
  rw [hsp] at hA'
  refine ⟨_, hst, OwnB.perm (back w.s (l ++ [Ia x t]) (A' ++ List.flatten (Ts.set l.length T')) ⟨_, A', Ts.set l.length T', List.Perm.refl _, hA', by simp [q3, hn], by simp [q4, hn], fun i r y Ty h1 h2 h3 => ?_⟩) ?_⟩
  ·by_cases hi : i = l.length
   ·subst hi
    rw [List.getElem?_set_self (by omega)] at h1 h3
    rw [kn] at h2
    simp only [Option.some.injEq] at h1 h2 h3
    subst h1; subst h2; subst h3
    exact ⟨s2, rfl, .inl hs2⟩
   ·rw [List.getElem?_set_ne (by omega)] at h1 h3
    have hil : i < l.length := by
     have := (List.getElem?_eq_some_iff.1 h2).1
     simp at this; omega
    rw [List.getElem?_append_left hil] at h2
    have h2' : b.stack[i]? = some y := by rw [hl, List.getElem?_append_left hil]; exact h2
    obtain ⟨s', e', k⟩ := q5 i r y Ty h1 h2' h3
    exact ⟨s', e', .inl k⟩
  ·rw [List.append_assoc]
   refine List.Perm.append_left A' ?_
   rw [← List.append_assoc]
   exact ((p2 T').append_right R).symm
theorem Ff {w : dG} {b : Bd} {O : Own} (ho : OwnBS tys w b O) {l : List It} {x : It} (hl : b.stack = l ++ [x]) :
  ∃ A T s a u, O.Perm (A ++ T) ∧ al (.idx 5) [w.s, iV l.length] = some (.pointer (some a)) ∧ OSl ar 2 s (be x.tgs) T ∧
   (∀ (H : Heap), Reads H O (.pointer (some a)) 5 [iV x.player, iV x.id, iV x.card, iV x.trig, s]) ∧
   al (.slc 5 false true false) [w.s, iV l.length] = some u ∧ OwnB tys { w with s := u } { b with stack := l } A := by
 obtain ⟨A, R, hp, ⟨rows, A1, Ts, q1, q2, q3, q4, q5⟩, back⟩ := ho
 have hn : b.stack.length = l.length + 1 := by rw [hl]; simp
 have hri : rows[l.length]? = some (rows[l.length]'(by omega)) := List.getElem?_eq_getElem (by omega)
 have hxi : b.stack[l.length]? = some x := by rw [hl]; exact kn l x
 obtain ⟨T, eT, hT⟩ := Hs (Ts := Ts) (n := l.length) (by omega)
 obtain ⟨s, e, hs⟩ := q5 _ _ _ _ hri hxi hT
 obtain ⟨u, u1, u2⟩ := q2.upto (i := l.length) (by omega)
 obtain ⟨a, k1, _⟩ := q2.store (O := A1) (O2 := []) (by simp) (k := .i64) hri
 refine ⟨(A1 ++ List.flatten (Ts.take l.length)) ++ R, T, s, a, u, ?_, k1, hs, fun H => ?_, u1, back u l _ ⟨rows.take l.length, A1, Ts.take l.length, List.Perm.refl _, u2, by rw [List.length_take]; omega, by rw [List.length_take]; omega, fun i r y Ty h1 h2 h3 => ?_⟩⟩
 ·have e2 : List.flatten Ts = List.flatten (Ts.take l.length) ++ T := by
   conv => lhs; rw [eT]
   rw [List.flatten_append]; simp
  rw [e2] at q1
  refine hp.trans ((q1.append_right R).trans ?_)
  rw [List.append_assoc, List.append_assoc, List.append_assoc, List.append_assoc]
  refine List.Perm.append_left A1 ?_
  refine List.Perm.append_left _ ?_
  exact List.perm_append_comm
 ·obtain ⟨a', i1, _, i2, i3⟩ := q2.idx (fun p h => hp.mem_iff.2 (List.mem_append_left _ (q1.mem_iff.2 (List.mem_append_left _ h)))) H (k := .i64) hri
  have : a' = a := by
   rw [k1] at i1
   simpa using i1.symm
  subst this
  rw [e] at i2
  exact i2
 ·have hil : i < l.length := (List.getElem?_eq_some_iff.1 h2).1
  rw [List.getElem?_take, if_pos hil] at h1 h3
  have h2' : b.stack[i]? = some y := by rw [hl, List.getElem?_append_left hil]; exact h2
  obtain ⟨s', e', k⟩ := q5 i r y Ty h1 h2' h3
  exact ⟨s', e', .inl k⟩
def xP (b : Bd) : It := b.stack.getLast?.getD zIt
theorem oi {b : Bd} {l : List It} {x : It} (hl : b.stack = l ++ [x]) : xP b = x := by simp [xP, hl]
def tH (cs : List CdX) (b : Bd) (t : Tg) : Bd × Int := if kI cs b = 0 then (zBd, 8) else if vx (cs.map CdX.base) b (Kh b) (kI cs b) t = true then ({ b with stack := b.stack.dropLast ++ [Ia (xP b) t] }, 0) else (zBd, 14)
theorem Ou {H : Heap} {cv : Value} {cs : List CdX} (hk : CardsX H cv cs) (hli : dT (cs.map CdX.base) = true) {v : dG} {b : Bd} (h : BdS H v b) (hv : ax b = true) (hB : bdB b) (t : Tg) :
  Triple PP AK [cv, .agg (aq v b).toArray, .agg t.row.toArray] H [] fun r _ O' => ∃ w, r = .tuple #[.agg (aq w (tH cs b t).1).toArray, iV (tH cs b t).2] ∧ OwnB tys w (tH cs b t).1 O' := by
 refine CA (vs := cv :: (aq v b ++ t.row)) (by kernel_rfl) ⟨hk.one, aL (au (h.r [])) (wj t)⟩ ?_
 simp only [uG]
 have h200 := lD hv
 refine ah fun r0 => ah fun r1 => ah fun r2 => ?_
 refine ae ?_
 refine aj (bp (h.r [])) rfl ⟨rfl, trivial⟩ fun H1 l1 => ?_
 rw [hv]
 have h := h.le l1
 have hk := hk.le l1
 refine ab _ (aI _) (ak (fun hd => by cases hd) (fun _ => ?_))
 refine ae ?_
 refine aj (LK hk hli h hv) rfl ⟨rfl, trivial⟩ fun H2 l2 => ?_
 have h := h.le l2
 have hk := hk.le l2
 have slen : al .len [v.s] = some (iV b.stack.length) := ItsR.len (h.stack.r [])
 refine ab _ (aH _ _) (ak (fun h0 => ?_) (fun h0 => ?_))
 ·have h0 : kI cs b = 0 := by simpa using h0
  have e : tH cs b t = (zBd, 8) := by rw [tH, if_pos h0]
  refine ae (ae ?_)
  exact ai ⟨un, by rw [e]; rfl, by rw [e]; exact OwnB.zero tys⟩
 have h0 : kI cs b ≠ 0 := by simpa using h0
 have hne : b.stack ≠ [] := fun e => h0 (oB e)
 obtain ⟨l, x, hl⟩ := uV hne
 have hlen : b.stack.length = l.length + 1 := by rw [hl]; simp
 have hxf := ed hv (x := x) (by rw [hl]; simp)
 have ht4 : x.tgs.length ≤ 4 := by
  simp only [cd, Bool.and_eq_true, Bool.not_eq_true', Bool.or_eq_false_iff, decide_eq_false_iff_not] at hxf
  have := hxf.2.2.2.2.1.1.1
  omega
 obtain ⟨a, s, k1, hs, k2, k3⟩ := Ex (O := []) h.stack (i := l.length) (x := x) (by rw [hl]; exact kn l x)
 have esub : ((b.stack.length : Int) - 1) = (l.length : Int) := by omega
 refine ae (ae (ae ?_))
 refine ab _ slen ?_
 refine ab _ (Bt (by omega) (by omega)) ?_
 rw [esub]
 refine ab _ k1 (aD rfl (ap (k3 0 1 (by omega)) rfl ⟨rfl, trivial⟩ ?_))
 refine ae ?_
 refine aj (MN hk.base hli h (by omega) x.player (kI cs b) t) rfl ⟨rfl, trivial⟩ fun H3 l3 => ?_
 have h := h.le l3
 refine ab _ (aI _) (ak (fun hg => ?_) (fun hg => ?_))
 ·have hg : vx (cs.map CdX.base) b (Kh b) (kI cs b) t = false := by rw [uW hl]; exact zH hg
  have e : tH cs b t = (zBd, 14) := by rw [tH, if_neg h0, if_neg (by rw [hg]; simp)]
  refine ae (ae ?_)
  exact ai ⟨un, by rw [e]; rfl, by rw [e]; exact OwnB.zero tys⟩
 have hg : vx (cs.map CdX.base) b (Kh b) (kI cs b) t = true := by rw [uW hl]; exact vq hg
 have e : tH cs b t = ({ b with stack := l ++ [Ia x t] }, 0) := by rw [tH, if_neg h0, if_pos hg, oi hl, hl, List.dropLast_concat]
 rw [e]
 refine ae ?_
 refine ay (FM h hB) ?_
 rintro _ H4 O4 ⟨w, rfl, ho⟩ l4
 refine ⟨aq w b, rfl, cz H4 ho.weak, ?_⟩
 rw [List.append_nil]
 have slen4 : al .len [w.s] = some (iV b.stack.length) := ItsR.len (ho.weak.r (fun _ h => h) H4).stack
 obtain ⟨A1, T, X, s4, a4, p1, i1, hs4, rd, st⟩ := JZ ho hl
 refine ah fun r3 => ?_
 refine ae (ae (ae ?_))
 refine ab _ slen4 ?_
 refine ab _ (Bt (by omega) (by omega)) ?_
 rw [esub]
 refine ab _ i1 ?_
 refine aD rfl (aD rfl ?_)
 refine ap (rd H4 O4 (fun p hp => p1.mem_iff.2 (List.mem_append_left _ hp))).2 rfl ⟨hs4.one, trivial⟩ ?_
 refine ae ?_
 refine ah fun r4 => ?_
 have p2 : O4.Perm (T ++ (A1 ++ X)) := p1.trans (List.perm_append_comm_assoc _ _ _)
 refine aA (rows := be x.tgs) (news := [t.row]) (O1 := T) (O2 := A1 ++ X) (e := ar) (size := 2) (bytes := 16) (by kernel_rfl) p2 hs4 (fun Hf _ hf => Sl.block1 (hf _ List.mem_cons_self) rfl ⟨rfl, rfl, trivial⟩) (by rw [aY]; simp; omega) (by rw [aY]; simp; omega) ?_
 intro s5 T' H5 l5 hT'
 have hT2 : OSl ar 2 s5 (be (x.tgs ++ [t])) T' := by
  have : be (x.tgs ++ [t]) = be x.tgs ++ [t.row] := by simp [be]
  rw [this]; exact hT'
 obtain ⟨O6, k5, k6⟩ := st T' s5 t _ hT2 (List.perm_append_comm_assoc _ _ _)
 refine aD rfl (aD rfl (aD rfl ?_))
 refine ⟨_, k5, ?_⟩
 refine ae (ae (ae ?_))
 exact ai ⟨w, rfl, k6⟩
def uk (b : Bd) : Bd × Int := if ax b = false then (zBd, 2) else if b.stack = [] then (zBd, 9) else if (xP b).trig = -1 then ((hP b (xP b).id 3).1, 0) else ({ b with stack := b.stack.dropLast }, 0)
def tM (b : Bd) : It := if ax b = false then zIt else xP b
theorem Ot {H : Heap} {v : dG} {b : Bd} (h : BdS H v b) (hB : bdB b) :
    Triple PP uL [.agg (aq v b).toArray] H [] fun r _ O' => ∃ w s A T, r = .tuple #[.agg (aq w (uk b).1).toArray, .agg #[iV (tM b).player, iV (tM b).id, iV (tM b).card, iV (tM b).trig, s], iV (uk b).2] ∧
      O'.Perm (A ++ T) ∧ OwnB tys w (uk b).1 A ∧ OSl ar 2 s (be (tM b).tgs) T := by
  by_cases hv : ax b = true
  case neg =>
    have hv : ax b = false := by simpa using hv
    have e : uk b = (zBd, 2) := by rw [uk, if_pos hv]
    have e2 : tM b = zIt := by rw [tM, if_pos hv]
    rw [e, e2]
    refine (Mk h hv).mono ?_
    rintro r H' O' _ ⟨rfl, rfl⟩
    exact ⟨un, .slice none 0 0, [], [], rfl, List.Perm.refl _, OwnB.zero tys, OSl.nil _ _⟩
  have e2 : tM b = xP b := by rw [tM, if_neg (by rw [hv]; simp)]
  refine u3 (vs := aq v b) (by kernel_rfl) (au (h.r [])) ?_
  simp only [qh]
  have h200 := lD hv
  refine ah fun r0 => ah fun r1 => ah fun r2 => ?_
  refine ae ?_
  refine aj (bp (h.r [])) rfl ⟨rfl, trivial⟩ fun H1 l1 => ?_
  rw [hv]
  have h := h.le l1
  have slen : al .len [v.s] = some (iV b.stack.length) := ItsR.len (h.stack.r [])
  refine ab _ (aI _) (ak (fun hd => by cases hd) (fun _ => ?_))
  refine ae ?_
  refine ab _ slen ?_
  refine ab _ (aH _ _) (ak (fun h0 => ?_) (fun h0 => ?_))
  · have h0 : b.stack = [] := List.length_eq_zero_iff.1 (by have : (b.stack.length : Int) = 0 := by simpa using h0
                                                            omega)
    have e : uk b = (zBd, 9) := by rw [uk, if_neg (by rw [hv]; simp), if_pos h0]
    have e3 : xP b = zIt := by simp [xP, h0]
    rw [e, e2, e3]
    refine ae (ae (ae (ae ?_)))
    exact ai ⟨un, .slice none 0 0, [], [], rfl, List.Perm.refl _, OwnB.zero tys, OSl.nil _ _⟩
  have hne : b.stack ≠ [] := fun e => by rw [e] at h0; simp at h0
  obtain ⟨l, x, hl⟩ := uV hne
  have hlen : b.stack.length = l.length + 1 := by rw [hl]; simp
  have hxf := ed hv (x := x) (by rw [hl]; simp)
  have hxid : i64 x.id := by
    simp only [cd, aw, Bool.and_eq_true, decide_eq_true_eq] at hxf
    constructor <;> omega
  have esub : ((b.stack.length : Int) - 1) = (l.length : Int) := by omega
  have etop := oi hl
  rw [e2, etop]
  refine ae ?_
  refine ay (FM h hB) ?_
  rintro _ H4 O4 ⟨w, rfl, ho⟩ l4
  refine ⟨aq w b, rfl, cz H4 ho.weak, ?_⟩
  rw [List.append_nil]
  have h := h.le l4
  obtain ⟨A, T, s4, a4, u, p1, i1, hs4, rd, hu, hpop⟩ := Ff ho hl
  refine ah fun r3 => ?_
  refine ae (ae ?_)
  refine ab _ (Bt (by omega) (by omega)) ?_
  rw [esub]
  refine ab _ i1 (ap (rd H4) rfl ⟨rfl, rfl, rfl, rfl, hs4.one, trivial⟩ (ah fun r4 => ?_))
  refine ae (ae ?_)
  refine ab _ (aH _ _) (ak (fun ht => ?_) (fun ht => ?_))
  · have ht : x.trig = -1 := by simpa using ht
    have e : uk b = ((hP b x.id 3).1, 0) := by rw [uk, if_neg (by rw [hv]; simp), if_neg hne, etop, if_pos ht]
    rw [e]
    refine ae (ae ?_)
    refine ay (LL h hB hxid 3) ?_
    rintro _ H5 O5 ⟨w5, rfl, ho5⟩ l5
    refine ⟨aq w5 (hP b x.id 3).1 ++ [iV (hP b x.id 3).2], rfl, aL (cz H5 ho5) ⟨rfl, trivial⟩, ?_⟩
    repeat (first | refine ae ?_ | refine af ?_ | refine aD rfl ?_)
    refine CF (O' := O5 ++ T) (Y := A) ?_ ⟨w5, s4, O5, T, rfl, List.Perm.refl _, ho5, hs4⟩
    rw [List.append_assoc]
    exact (p1.trans List.perm_append_comm).append_left O5
  · have ht : x.trig ≠ -1 := by simpa using ht
    have e : uk b = ({ b with stack := l }, 0) := by rw [uk, if_neg (by rw [hv]; simp), if_neg hne, etop, if_neg ht, hl, List.dropLast_concat]
    rw [e]
    refine ae ?_
    refine ab _ (Bt (by omega) (by omega)) ?_
    rw [esub]
    refine ab _ hu ?_
    repeat (first | refine ae ?_ | refine af ?_ | refine aD rfl ?_)
    exact ai ⟨{ w with s := u }, s4, A, T, rfl, p1, hpop, hs4⟩
def bT (b : Bd) (id : Int) : Bd × Int := if (bt b id == 2) = true then (zBd, 2) else if (bt b id != 0 || (dQ b id).2.1 != 4) = true then (zBd, 9) else hP b id 3
theorem JU {H : Heap} {v : dG} {b : Bd} (h : BdS H v b) (hB : bdB b) {id : Int} (hid : i64 id) : Triple PP sT [.agg (aq v b).toArray, iV id] H [] fun r _ O' => ∃ w, r = .tuple #[.agg (aq w (bT b id).1).toArray, iV (bT b id).2] ∧ OwnB tys w (bT b id).1 O' := by
 refine wo (vs := aq v b ++ [iV id]) (by kernel_rfl) (aL (au (h.r [])) ⟨rfl, trivial⟩) ?_
 simp only [mz]
 refine ah fun r0 => ah fun r1 => ?_
 refine ae ?_
 refine aj (vJ h hid []) rfl (vs := ug (dQ b id) ++ [iV (bt b id)]) ⟨rfl, rfl, rfl, rfl, trivial⟩ fun H1 l1 => ah fun r2 => ?_
 have h := h.le l1
 refine ae ?_
 refine ab _ (aH _ _) (ak (fun hb => ?_) (fun hb => ?_))
 ·have hb : (bt b id == 2) = true := hb
  have e : bT b id = (zBd, 2) := by rw [bT, if_pos hb]
  have e2 : bt b id = 2 := by simpa using hb
  rw [e, e2]
  refine ae (ae ?_)
  exact ai ⟨un, rfl, OwnB.zero tys⟩
 have hb : (bt b id == 2) = false := hb
 refine ab _ (bG _ _) ?_
 refine ae (af (af ?_))
 refine ab _ (bG _ _) ?_
 refine af ?_
 refine ab _ (aO _ _) (ak (fun hc => ?_) (fun hc => ?_))
 ·have e : bT b id = (zBd, 9) := by rw [bT, if_neg (by rw [hb]; simp), if_pos hc]
  rw [e]
  refine ae (ae ?_)
  exact ai ⟨un, rfl, OwnB.zero tys⟩
 have hc : (bt b id != 0 || (dQ b id).2.1 != 4) = false := hc
 have e : bT b id = hP b id 3 := by rw [bT, if_neg (by rw [hb]; simp), if_neg (by rw [hc]; simp)]
 rw [e]
 refine ae ?_
 refine ay (LL h hB hid 3) ?_
 rintro _ H5 O5 ⟨w5, rfl, ho5⟩ l5
 refine ⟨aq w5 (hP b id 3).1 ++ [iV (hP b id 3).2], rfl, aL (cz H5 ho5) ⟨rfl, trivial⟩, ?_⟩
 rw [List.append_nil]
 refine ae (ae ?_)
 exact ai ⟨w5, rfl, ho5⟩
end Go.Proofs.YtieaihgbjikggaaGreat
namespace Go.Proofs.YtieaihgbjikggaaGreat
open Go Go.Sx
set_option maxRecDepth 100000
set_option maxHeartbeats 1000000
def szS (n : Nat) (s : St) : Prop := s.lib.length ≤ n ∧ s.hand.length ≤ n ∧ s.field.length ≤ n ∧ s.grave.length ≤ n
def szI (n : Nat) (l : List It) : Prop := l.length ≤ n ∧ ∀ x ∈ l, x.tgs.length ≤ n
def szB (n : Nat) (b : Bd) : Prop := b.objs.length ≤ n ∧ szS n b.s0 ∧ szS n b.s1 ∧ szI n b.stack ∧ szI n b.queue ∧ b.att.length ≤ n ∧ b.blocks.length ≤ n
theorem szS.le {n m : Nat} {s : St} (h : szS n s) (hm : n ≤ m) : szS m s := ⟨Nat.le_trans h.1 hm, Nat.le_trans h.2.1 hm, Nat.le_trans h.2.2.1 hm, Nat.le_trans h.2.2.2 hm⟩
theorem szI.le {n m : Nat} {l : List It} (h : szI n l) (hm : n ≤ m) : szI m l := ⟨Nat.le_trans h.1 hm, fun x hx => Nat.le_trans (h.2 x hx) hm⟩
theorem szB.le {n m : Nat} {b : Bd} (h : szB n b) (hm : n ≤ m) : szB m b :=
 ⟨Nat.le_trans h.1 hm, szS.le h.2.1 hm, szS.le h.2.2.1 hm, szI.le h.2.2.2.1 hm, szI.le h.2.2.2.2.1 hm, Nat.le_trans h.2.2.2.2.2.1 hm, Nat.le_trans h.2.2.2.2.2.2 hm⟩
theorem OD {n : Nat} {b : Bd} (h : szB n b) (hn : n ≤ 100000) : bdB b := by
 obtain ⟨a1, a2, a3, a4, a5, a6, a7⟩ := szB.le h (show n ≤ 1000000 by omega)
 exact ⟨a1, a2, a3, a4, a5, a6, a7⟩
theorem Ln {n : Nat} {b : Bd} (h : szB n b) (hn : n ≤ 100000) : Bk b := by
 obtain ⟨_, a2, a3, a4, _⟩ := szB.le h hn
 exact ⟨a2, a3, a4.1⟩
theorem Km {b : Bd} (h : fP b = true) : szB 40 b := by
 simp only [fP, gz, ni, Bool.and_eq_true, Bool.not_eq_true', decide_eq_false_iff_not, decide_eq_true_eq, List.all_eq_true] at h
 obtain ⟨⟨a1, a2, a3, a4⟩, ⟨b1, b2, b3, b4⟩, ⟨c1, c2⟩, ⟨d1, d2⟩, ⟨e1, e2⟩, e3⟩ := h
 refine ⟨by omega, ⟨by omega, by omega, by omega, by omega⟩, ⟨by omega, by omega, by omega, by omega⟩, ⟨by omega, fun x hx => ?_⟩, ⟨by omega, fun x hx => ?_⟩, by omega, by omega⟩
 ·have := c2 x hx; omega
 ·have := d2 x hx; omega
theorem Cv {n m : Nat} {b : Bd} {l : List It} (h : szB n b) (hm : n ≤ m) (hl : szI m l) : szB m { b with stack := l } := by
 obtain ⟨a1, a2, a3, _, a5, a6, a7⟩ := szB.le h hm
 exact ⟨a1, a2, a3, hl, a5, a6, a7⟩
theorem szI.app {n : Nat} {l : List It} (h : szI n l) {x : It} (hx : x.tgs.length ≤ n + 1) : szI (n + 1) (l ++ [x]) := by
 refine ⟨by have := h.1; simp; omega, fun y hy => ?_⟩
 rcases List.mem_append.1 hy with hy | hy
 ·have := h.2 y hy; omega
 ·rw [List.mem_singleton.1 hy]; exact hx
theorem LV {n : Nat} {b : Bd} (h : szB n b) (k j : Nat) (o : Ob) : szB (n + 1) (iU b k j o) := by
 obtain ⟨a1, a2, a3, a4, a5, a6, a7⟩ := h
 have ho : (iU b k j o).objs.length ≤ n + 1 := by
  have : (iU b k j o).objs = b.objs.set k (bD o 4) := by simp only [iU, dD, cM]; split <;> rfl
  rw [this, List.length_set]; omega
 have he : ∀ s, szS n s → szS (n + 1) { s with hand := s.hand.eraseIdx j } := fun s hs => ⟨by have := hs.1; show s.lib.length ≤ n + 1; omega, by have := hs.2.1; have := List.length_eraseIdx_le s.hand j; show (s.hand.eraseIdx j).length ≤ n + 1; omega, by have := hs.2.2.1; show s.field.length ≤ n + 1; omega, by have := hs.2.2.2; show s.grave.length ≤ n + 1; omega⟩
 have hs0 : szS (n + 1) (iU b k j o).s0 := by
  simp only [iU, dD, cM, dt]
  split
  ·exact he _ a2
  ·exact szS.le a2 (by omega)
 have hs1 : szS (n + 1) (iU b k j o).s1 := by
  simp only [iU, dD, cM, dt]
  split
  ·exact szS.le a3 (by omega)
  ·exact he _ a3
 have hq : (iU b k j o).queue = b.queue ∧ (iU b k j o).att = b.att ∧ (iU b k j o).blocks = b.blocks := by
  simp only [iU, dD, cM]
  split <;> exact ⟨rfl, rfl, rfl⟩
 refine ⟨ho, hs0, hs1, szI.app a4 (Nat.zero_le _), ?_, ?_, ?_⟩
 ·rw [hq.1]; exact szI.le a5 (by omega)
 ·rw [hq.2.1]; omega
 ·rw [hq.2.2]; omega
theorem Ni {n : Nat} {b : Bd} (h : szB n b) (id : Int) : szB n (nb b id) := by
 obtain ⟨a1, a2, a3, a4, a5, a6, a7⟩ := h
 have hw : ∀ {l : List Int}, l.length ≤ n → (bS l id).length ≤ n := fun h => Nat.le_trans (List.length_filter_le _ _) h
 exact ⟨a1, ⟨hw a2.1, hw a2.2.1, hw a2.2.2.1, hw a2.2.2.2⟩, ⟨hw a3.1, hw a3.2.1, hw a3.2.2.1, hw a3.2.2.2⟩, ⟨Nat.le_trans (List.length_filter_le _ _) a4.1, fun x hx => a4.2 x (List.mem_filter.1 hx).1⟩, a5, hw a6, Nat.le_trans (List.length_filter_le _ _) a7⟩
theorem Lm {n : Nat} {s : St} (h : szS n s) (z id : Int) : szS (n + 1) (Fd s z id) := by
 obtain ⟨h1, h2, h3, h4⟩ := h
 simp only [Fd]
 split
 ·exact ⟨by simp; omega, by show s.hand.length ≤ n + 1; omega, by show s.field.length ≤ n + 1; omega, by show s.grave.length ≤ n + 1; omega⟩
 split
 ·exact ⟨by show s.lib.length ≤ n + 1; omega, by simp; omega, by show s.field.length ≤ n + 1; omega, by show s.grave.length ≤ n + 1; omega⟩
 split
 ·exact ⟨by show s.lib.length ≤ n + 1; omega, by show s.hand.length ≤ n + 1; omega, by simp; omega, by show s.grave.length ≤ n + 1; omega⟩
 split
 ·exact ⟨by show s.lib.length ≤ n + 1; omega, by show s.hand.length ≤ n + 1; omega, by show s.field.length ≤ n + 1; omega, by simp; omega⟩
 ·exact ⟨by omega, by omega, by omega, by omega⟩
theorem LU {n : Nat} {b : Bd} (h : szB n b) (k : Nat) (o : Ob) (z : Int) : szB (n + 1) (gq b k o z) := by
 obtain ⟨a1, a2, a3, a4, a5, a6, a7⟩ := Ni h o.id
 simp only [gq, oS, cM, dt]
 split
 ·exact ⟨by simp only [dD, List.length_set]; omega, Lm a2 _ _, szS.le a3 (by omega), szI.le a4 (by omega), szI.le a5 (by omega), Nat.le_trans a6 (by omega), Nat.le_trans a7 (by omega)⟩
 ·exact ⟨by simp only [dD, List.length_set]; omega, szS.le a2 (by omega), Lm a3 _ _, szI.le a4 (by omega), szI.le a5 (by omega), Nat.le_trans a6 (by omega), Nat.le_trans a7 (by omega)⟩
theorem F2 {n : Nat} {b : Bd} (h : szB n b) (id z : Int) : szB (n + 1) (hP b id z).1 := by
 have hz : szB (n + 1) zBd := ⟨Nat.zero_le _, ⟨Nat.zero_le _, Nat.zero_le _, Nat.zero_le _, Nat.zero_le _⟩, ⟨Nat.zero_le _, Nat.zero_le _, Nat.zero_le _, Nat.zero_le _⟩, ⟨Nat.zero_le _, fun x hx => by cases hx⟩, ⟨Nat.zero_le _, fun x hx => by cases hx⟩, Nat.zero_le _, Nat.zero_le _⟩
 rw [hP]
 split
 ·exact hz
 split
 ·exact hz
 ·exact LU h _ _ _
theorem Ny {cs : List Cd} {b : Bd} (h : ax b = true) {p x : Int} (hx : x ∈ qz cs b p) : 1 ≤ x ∧ x ≤ 500 := by
 rw [qz, jm] at hx
 split at hx
 ·obtain ⟨o, m, rfl⟩ := List.mem_map.1 hx
  obtain ⟨m, _⟩ := List.mem_filter.1 m
  obtain ⟨k, g⟩ := List.mem_iff_getElem?.1 m
  exact uP (cH (aN h).1 g).1
 ·simp at hx
theorem Lk {x : Int} (h : 1 ≤ x ∧ x ≤ 500) : eC ⟨x, 0⟩ = true := by
 have h1 : aw x 0 500 = true := by simp only [aw, decide_eq_true_eq]; omega
 simp only [eC, h1]; simp [aw]
theorem GM {p q : Int} (hp : p = 0 ∨ p = 1) {t : Tg} (h : t ∈ plT p) : eC t = true := by
 simp only [plT, List.mem_cons, List.not_mem_nil, or_false] at h
 rcases hp with rfl | rfl <;> rcases h with rfl | rfl <;> decide
theorem HY {cs : List Cd} {b : Bd} {p k : Int} {t : Tg} (h : t ∈ uK cs b p k) : eC t = true := by
 rw [uK] at h
 split at h
 case isFalse => cases h
 rename_i hc
 rw [Bool.and_eq_true] at hc
 obtain ⟨hw, hv⟩ := hc
 have hp : p = 0 ∨ p = 1 := by simp only [aw, decide_eq_true_eq] at hw; omega
 have ht : ∀ {l : List Int}, (∀ x ∈ l, 1 ≤ x ∧ x ≤ 500) → t ∈ tgs l → eC t = true := fun hl hm => by
  obtain ⟨x, hx, rfl⟩ := List.mem_map.1 hm
  exact Lk (hl x hx)
 have ho : ∀ q, ∀ x ∈ qz cs b q, 1 ≤ x ∧ x ≤ 500 := fun q x hx => Ny hv hx
 have hbo : ∀ x ∈ vP cs b p, 1 ≤ x ∧ x ≤ 500 := fun x hx => by
  rcases Li.1 hx with hx | hx
  ·exact ho _ x hx
  ·exact ho _ x hx
 rw [Db] at h
 split at h
 ·exact ht hbo h
 split at h
 ·exact ht (ho _) h
 split at h
 ·exact ht (ho _) h
 split at h
 ·exact GM (q := p) hp h
 split at h
 ·rcases List.mem_append.1 h with h | h
  ·exact GM (q := p) hp h
  ·exact ht hbo h
 split at h
 ·refine ht (fun x hx => ?_) h
  obtain ⟨y, hy, rfl⟩ := List.mem_map.1 hx
  have hyf := ed hv (List.mem_reverse.1 (List.mem_filter.1 hy).1)
  simp only [cd, Bool.and_eq_true] at hyf
  exact of_decide_eq_true hyf.2.1
 ·cases h
end Go.Proofs.YtieaihgbjikggaaGreat
namespace Go.Proofs.YtieaihgbjikggaaGreat
open Go Go.Sx
set_option maxRecDepth 100000
set_option maxHeartbeats 1000000
section
variable {b : Bd} {k j : Nat} {o : Ob} {ts : List Tg}
variable (hk : b.objs[k]? = some o)
include hk
end
end Go.Proofs.YtieaihgbjikggaaGreat
namespace Go.Proofs.YtieaihgbjikggaaGreat
open Go Go.Sx
set_option maxRecDepth 100000
set_option maxHeartbeats 1000000
theorem oV : ∀ {l : List Int} {j : Nat} {id : Int}, l[j]? = some id → l.count id ≤ 1 → bS l id = l.eraseIdx j
 | [], j, id, h, _ => by simp at h
 | a :: l, 0, id, h, hc => by
  simp only [List.getElem?_cons_zero, Option.some.injEq] at h
  subst h
  rw [List.count_cons_self] at hc
  have : bS (a :: l) a = bS l a := by simp [bS]
  rw [this, bF (by omega)]; rfl
 | a :: l, j + 1, id, h, hc => by
  rw [List.getElem?_cons_succ] at h
  have hm : 1 ≤ l.count id := List.count_pos_iff.2 (List.mem_of_getElem? h)
  have hne : a ≠ id := fun e => by rw [e, List.count_cons_self] at hc; omega
  rw [List.count_cons_of_ne hne] at hc
  have ih := oV (l := l) h hc
  have : bS (a :: l) id = a :: bS l id := by simp [bS, hne]
  rw [this, ih]; rfl
theorem KQ {b : Bd} (h : ax b = true) {p : Int} (hp : p = 0 ∨ p = 1) {j : Nat} {id : Int} (hj : (dt b p).hand[j]? = some id) :
  nb b id = cM b p { dt b p with hand := (dt b p).hand.eraseIdx j } := by
 obtain ⟨hpl, hfi, _, _⟩ := aN h
 have hn := eA hpl
 have hc := List.nodup_iff_count.1 hn id
 obtain ⟨f1, f2⟩ := Hy hfi
 have hst : ((bh b.stack).map (·.id)).count id = 0 → (b.stack.filter fun x => !mQ id x) = b.stack := by
  intro h0
  rw [List.filter_eq_self]
  intro x hx
  have hni := List.count_eq_zero.1 h0
  simp only [mQ, Bool.not_eq_true', Bool.and_eq_false_iff, decide_eq_false_iff_not, beq_eq_false_iff_ne, ne_eq]
  by_cases ht : x.trig < 0
  ·right
   intro e
   exact hni (List.mem_map.2 ⟨x, by simp [bh, hx, ht], e⟩)
  ·exact .inl ht
 have hfight : b.s0.field.count id = 0 → b.s1.field.count id = 0 → bS b.att id = b.att ∧ (b.blocks.filter fun x => !eh id x) = b.blocks := by
  intro a0 a1
  have n0 := List.count_eq_zero.1 a0
  have n1 := List.count_eq_zero.1 a1
  constructor
  ·apply bF
   apply List.count_eq_zero.2
   intro hm
   rcases f1 id hm with h | h
   ·exact n0 h
   ·exact n1 h
  ·rw [List.filter_eq_self]
   intro x hx
   obtain ⟨g1, g2⟩ := f2 x hx
   simp only [eh, Bool.not_eq_true', Bool.or_eq_false_iff, beq_eq_false_iff_ne, ne_eq]
   constructor
   ·rintro rfl
    rcases g2 with h | h
    ·exact n0 h
    ·exact n1 h
   ·rintro rfl
    rcases g1 with h | h
    ·exact n0 h
    ·exact n1 h
 rcases hp with rfl | rfl
 ·have hj : b.s0.hand[j]? = some id := hj
  have hm : 1 ≤ b.s0.hand.count id := List.count_pos_iff.2 (List.mem_of_getElem? hj)
  simp only [M0, MZ, List.count_append] at hc
  obtain ⟨q1, q2⟩ := hfight (by omega) (by omega)
  have q3 := hst (by omega)
  simp only [cM, dt, if_true, nb, KB, q1, q2, q3]
  rw [oV hj (by omega), bF (by omega), bF (by omega), bF (by omega), bF (by omega), bF (by omega), bF (by omega), bF (by omega)]
 ·have hj : b.s1.hand[j]? = some id := hj
  have hm : 1 ≤ b.s1.hand.count id := List.count_pos_iff.2 (List.mem_of_getElem? hj)
  simp only [M0, MZ, List.count_append] at hc
  obtain ⟨q1, q2⟩ := hfight (by omega) (by omega)
  have q3 := hst (by omega)
  have ne : ¬ (1 : Int) = 0 := by omega
  simp only [cM, dt, ne, if_false, nb, KB, q1, q2, q3]
  rw [bF (by omega), bF (by omega), bF (by omega), bF (by omega), bF (by omega), oV hj (by omega), bF (by omega), bF (by omega)]
theorem GF {b : Bd} (h : ax b = true) {k j : Nat} {o : Ob} (hk : b.objs[k]? = some o) (hj : (dt b o.owner).hand[j]? = some o.id) :
  ({ DW (AM b o.id) (bD o 4) with stack := (DW (AM b o.id) (bD o 4)).stack ++ [⟨o.owner, o.id, o.card, -1, []⟩] } : Bd) = iU b k j o := by
 obtain ⟨_, _, hidx, hown⟩ := cH (aN h).1 hk
 have e1 : fL (AM b o.id) (bD o 4).id = k := hidx
 rw [DW, e1, if_pos (by omega), Fg h, KQ h hown hj]
 simp only [iU, dD, Int.toNat_natCast]
 have : (cM b o.owner { dt b o.owner with hand := (dt b o.owner).hand.eraseIdx j }).stack = b.stack := by
  simp only [cM]; split <;> rfl
 rw [this]
theorem KM {H : Heap} {v : Value} {l : List It} (h : ItsS H v l) : ∃ rows, Sl H 5 v rows ∧ rows.length = l.length ∧
  ∀ (H' : Heap) (v' : Value) (x : It) (s : Value), Heap.le H H' → Sl H' 5 v' (rows ++ [[iV x.player, iV x.id, iV x.card, iV x.trig, s]]) → Sl H' 2 s (be x.tgs) → ItsS H' v' (l ++ [x]) := by
 obtain ⟨rows, h1, h2, h3⟩ := h
 refine ⟨rows, h1, h2, fun H' v' x s hl k1 k2 => ⟨_, k1, by simp [h2], fun i r y a b => ?_⟩⟩
 rcases Nat.lt_or_ge i l.length with hi | hi
 ·rw [List.getElem?_append_left (by omega)] at a b
  obtain ⟨s', e, k⟩ := h3 i r y a b
  exact ⟨s', e, k.le hl⟩
 ·rw [List.getElem?_append_right (by omega)] at a b
  have hi0 : i = l.length := by
   have := (List.getElem?_eq_some_iff.1 b).1
   simp at this; omega
  rw [hi0, h2, Nat.sub_self] at a
  rw [hi0, Nat.sub_self] at b
  simp only [List.getElem?_cons_zero, Option.some.injEq] at a b
  subst a; subst b
  exact ⟨s, rfl, k2⟩
theorem DM {b : Bd} (h : ax b = true) (id : Int) : bt b id = 0 ∨ bt b id = 9 := by
 rw [bt, if_pos h]; split
 ·exact .inr rfl
 ·exact .inl rfl
theorem Nt {H : Heap} {v : dG} {b : Bd} (h : BdS H v b) (hv : ax b = true) (hB : bdB b) {id : Int} :
  Triple PP mH [.agg (aq v b).toArray, iV id] H [] fun r H' O' => (∃ w, r = .tuple #[.agg (aq w (hZ b id).1).toArray, iV (hZ b id).2] ∧ BdS H' w (hZ b id).1) ∧ O' = [] := by
 refine rG (vs := aq v b ++ [iV id]) (by kernel_rfl) (aL (au (h.r [])) ⟨rfl, trivial⟩) ?_
 simp only [ip]
 refine ah fun r0 => ah fun r1 => ?_
 obtain ⟨w1, w2⟩ := FY hv id
 refine ae ?_
 refine aj (IP (h.r []) id) rfl (vs := ug (AO (eD (onR id) b id)) ++ [iV (yU (eD (onR id) b id))]) ⟨rfl, rfl, rfl, rfl, trivial⟩ fun H1 l1 => ah fun r2 => ?_
 rw [← w1, ← w2]
 have h := h.le l1
 refine ae ?_
 refine ab _ (bG _ _) (ak (fun hb => ?_) (fun hb => ?_))
 ·have e : hZ b id = (zBd, bt b id) := by rw [hZ, if_pos hb]
  refine ae (ae ?_)
  exact ai ⟨⟨un, by rw [e]; rfl, by rw [e]; exact vQ _⟩, rfl⟩
 have hb : (bt b id != 0) = false := hb
 obtain ⟨hval, k, o, e1, e2, e3, e4⟩ := jh hb
 have hfo := th hb e1 e3
 obtain ⟨hvo, _, _, hown⟩ := cH (aN hval).1 e1
 have hcd : o.card ≥ -1 := by
  simp only [bd, Bool.and_eq_true, decide_eq_true_eq] at hvo
  exact hvo.1.2.1.2
 refine ae (ae ?_)
 refine aj (wB (h.r []) id) rfl ⟨rfl, trivial⟩ fun H2 l2 => ?_
 have h := h.le l2
 rw [e3]
 obtain ⟨a1, j1, j2, _, j4, j5⟩ := (h.objs.rsl ([] : Own)).idx .i64 k (Ob.row o) (by rw [List.getElem?_map, e1]; rfl)
 refine ab _ j1 (ap j2 j4 j5 (ah fun r3 => ?_))
 refine ae (ae ?_)
 refine ab _ (bG _ _) ?_
 refine ae (af (af ?_))
 refine ab _ (aH _ _) ?_
 have hcc : ((dQ b id).2.1 != 1 || o.card == -1) = ((dQ b id).2.1 != 1 || decide (o.card < 0)) := by
  congr 1
  rw [Bool.eq_iff_iff]
  simp only [beq_iff_eq, decide_eq_true_eq]
  omega
 refine af ?_
 refine ab _ (aO _ _) (ak (fun hc => ?_) (fun hc => ?_))
 ·have hc : ((dQ b id).2.1 != 1 || o.card == -1) = true := hc
  have e : hZ b id = (zBd, 8) := by rw [hZ, if_neg (by rw [hb]; simp), hfo, if_pos (by rw [← hcc]; exact hc)]
  refine ae (ae ?_)
  exact ai ⟨⟨un, by rw [e]; rfl, by rw [e]; exact vQ _⟩, rfl⟩
 have hc : ((dQ b id).2.1 != 1 || o.card == -1) = false := hc
 have hz1 : (dQ b id).2.1 = 1 := by
  simp only [Bool.or_eq_false_iff] at hc
  simpa using hc.1
 obtain ⟨j, hj1, hj⟩ := Ao hb hz1 e1 e2
 have klen : al .len [v.s] = some (iV b.stack.length) := ItsR.len (h.stack.r [])
 refine ae ?_
 refine ab _ klen ?_
 refine ab _ (du _ _) (ak (fun hd => ?_) (fun hd => ?_))
 ·have e : hZ b id = (zBd, 7) := by rw [hZ, if_neg (by rw [hb]; simp), hfo, if_neg (by rw [← hcc, hc]; simp), if_pos hd]
  refine ae (ae ?_)
  exact ai ⟨⟨un, by rw [e]; rfl, by rw [e]; exact vQ _⟩, rfl⟩
 have e : hZ b id = (iU b k j o, 0) := by
  rw [hZ, if_neg (by rw [hb]; simp), hfo, if_neg (by rw [← hcc, hc]; simp), if_neg (by rw [show decide ((b.stack.length : Int) ≥ 200) = false from hd]; simp), e3, hj1]
  rfl
 have hl200 : b.stack.length < 200 := by have := of_decide_eq_false hd; omega
 refine ae (ae ?_)
 refine ay (Nr h hB id) ?_
 rintro _ H3 _ ⟨⟨w3, rfl, h3⟩, rfl⟩ l3
 refine ⟨aq w3 (AM b id), rfl, au (h3.r []), ?_⟩
 refine aj (IU o 4 H3 _) rfl (vs := (bD o 4).row) (cO _) fun H4 l4 => ?_
 have h3 := h3.le l4
 refine ay (No h3 (Lv hB id) (bD o 4)) ?_
 rintro _ H5 _ ⟨⟨w5, rfl, h5⟩, rfl⟩ l5
 refine ⟨aq w5 (DW (AM b id) (bD o 4)), rfl, au (h5.r []), ?_⟩
 have hsl : (DW (AM b id) (bD o 4)).stack.length ≤ 200 := by
  have : (DW (AM b id) (bD o 4)).stack = (AM b id).stack := by rw [DW]; split <;> rfl
  rw [this]
  have : (AM b id).stack.length ≤ b.stack.length := List.length_filter_le _ _
  omega
 obtain ⟨rows, k1, k2, k3⟩ := KM h5.stack
 refine ae (ae (ae (ae ?_)))
 refine dm (e := aU) (size := 5) (bytes := 56) (by kernel_rfl) k1 (by omega) (by omega) fun xa Oa H6 l6 pa => ?_
 refine ah fun r4 => ?_
 refine aA (rows := rows) (news := [[iV o.owner, iV id, iV o.card, iV (-1), .slice none 0 0]]) (O1 := Oa) (O2 := []) (e := aU) (size := 5) (bytes := 56) (by kernel_rfl) (by simp) pa (fun Hf _ hf => Sl.block1 (hf _ List.mem_cons_self) rfl ⟨rfl, rfl, rfl, rfl, rfl, trivial⟩) (by rw [k2, List.length_singleton]; omega) (by rw [k2, List.length_singleton]; omega) ?_
 intro v' A' H7 l7 hA'
 refine ae (ae (ae (ae ?_)))
 intro hcs
 obtain ⟨H8, g8, k8, l8⟩ := hA'.freeze (X := []) (hcs.perm (by simp))
 have l68 := Heap.le_trans l6 (Heap.le_trans l7 l8)
 refine ⟨H8, [], (Ghost.perm (by simp)).trans g8, ⟨{ w5 with s := v' }, ?_, ?_⟩, rfl⟩
 ·rw [e, ← GF hv e1 (by rw [e2]; exact hj), e2]; rfl
 ·rw [e, ← GF hv e1 (by rw [e2]; exact hj), e2]
  have h5 := h5.le l68
  exact ⟨h5.objs, h5.s0, h5.s1, k3 H8 v' ⟨o.owner, id, o.card, -1, []⟩ _ l68 k8 (Sl.nil _ _), h5.queue, h5.att, h5.blocks⟩
theorem JC (x : It) : cd x true = (tG x && !decide ((x.tgs.length : Int) > 0)) := by
 rw [Bool.eq_iff_iff]
 simp only [cd, tG, aw, Bool.and_eq_true, decide_eq_true_eq, Bool.not_eq_true', Bool.or_eq_false_iff, Bool.and_eq_false_iff, decide_eq_false_iff_not, Bool.true_and, List.any_eq_false]
 constructor
 ·rintro ⟨a1, a2, a3, a4, ⟨⟨b1, b2⟩, b3⟩, _⟩
  exact ⟨⟨a1, a2, a3, by omega⟩, by omega⟩
 ·rintro ⟨⟨a1, a2, a3, a4⟩, a5⟩
  have : x.tgs = [] := List.length_eq_zero_iff.1 (by omega)
  refine ⟨a1, a2, a3, by omega, ⟨⟨by omega, .inr a5⟩, by omega⟩, ?_⟩
  rw [this]; simp
theorem Nq {H : Heap} {v : dG} {b : Bd} (h : BdS H v b) (hv : ax b = true) (hB : bdB b) (x : It) {s : Value} (hs : Sl H 2 s (be x.tgs)) :
  Triple PP mF [.agg (aq v b).toArray, .agg #[iV x.player, iV x.id, iV x.card, iV x.trig, s]] H [] fun r _ O' => ∃ w, r = .tuple #[.agg (aq w (gp b x).1).toArray, iV (gp b x).2] ∧ OwnB tys w (gp b x).1 O' := by
 refine rE (vs := aq v b ++ [iV x.player, iV x.id, iV x.card, iV x.trig, s]) (by kernel_rfl) (aL (au (h.r [])) ⟨rfl, rfl, rfl, rfl, hs.one, trivial⟩) ?_
 simp only [im]
 have klen : al .len [v.s] = some (iV b.stack.length) := ItsR.len (h.stack.r [])
 refine ah fun r0 => ah fun r1 => ah fun r2 => ?_
 refine ae ?_
 refine aj (I0 (x := x) ⟨s, rfl, hs.rsl []⟩ true) rfl ⟨rfl, trivial⟩ fun H1 l1 => ?_
 have h := h.le l1
 have hs := hs.le l1
 rw [JC]
 refine ab _ (aI _) (ak (fun hb => ?_) (fun hb => ?_))
 ·have e : gp b x = (zBd, 2) := by
   refine if_pos ?_
   rw [hv]
   revert hb
   cases tG x <;> cases decide ((x.tgs.length : Int) > 0) <;> simp
  refine ae (ae ?_)
  exact ai ⟨un, by rw [e]; rfl, by rw [e]; exact OwnB.zero tys⟩
 have hb : (tG x && !decide ((x.tgs.length : Int) > 0)) = true := vq hb
 have hcond : ¬ ((!ax b || (!tG x || decide ((x.tgs.length : Int) > 0))) = true) := by
  rw [hv]
  revert hb
  cases tG x <;> cases decide ((x.tgs.length : Int) > 0) <;> simp
 have ht0 : x.tgs = [] := by
  rw [Bool.and_eq_true, Bool.not_eq_true', decide_eq_false_iff_not] at hb
  exact List.length_eq_zero_iff.1 (by omega)
 refine ae ?_
 refine ab _ klen ?_
 refine ab _ (du _ _) (ak (fun hb => ?_) (fun hb2 => ?_))
 ·have e : gp b x = (zBd, 7) := by rw [gp, if_neg hcond, if_pos hb]
  refine ae (ae ?_)
  exact ai ⟨un, by rw [e]; rfl, by rw [e]; exact OwnB.zero tys⟩
 have e : gp b x = ({ b with stack := b.stack ++ [x] }, 0) := by rw [gp, if_neg hcond, if_neg (by rw [show decide ((b.stack.length : Int) ≥ 200) = false from hb2]; simp)]
 have hl200 : b.stack.length < 200 := by have := of_decide_eq_false hb2; omega
 rw [e]
 refine ae ?_
 refine ay (Gg h hB) ?_
 rintro _ H6 O6 ⟨w, rfl, ho⟩ l6
 refine ⟨aq w b, rfl, cz H6 ho, ?_⟩
 rw [List.append_nil]
 refine ae (ae (ae ?_))
 refine ah fun r3 => ?_
 obtain ⟨A2, R2, hp2, hA2, back2⟩ := OwnB.pick_stack ho
 obtain ⟨rows, A3, T3, hp3, hA3, hl3, back3⟩ := vo hA2
 have hs6 := hs.le l6
 refine aA (rows := rows) (news := [[iV x.player, iV x.id, iV x.card, iV x.trig, s]]) (O1 := A3) (O2 := T3 ++ R2) (e := aU) (size := 5) (bytes := 56) (by kernel_rfl) (hp2.trans ((hp3.append_right R2).trans (List.Perm.of_eq (List.append_assoc _ _ _)))) hA3 (fun Hf _ hf => Sl.block1 (hf _ List.mem_cons_self) rfl ⟨rfl, rfl, rfl, rfl, hs.one, trivial⟩) (by rw [hl3, List.length_singleton]; omega) (by rw [hl3, List.length_singleton]; omega) ?_
 intro v2 A4 H8 l8 hA4
 have hE : OSlE ar 2 s (x.tgs.map Tg.row) [] := by
  rw [ht0] at hs6 ⊢
  exact OSlE.empty hs6
 have hfin := back2 _ _ _ (back3 v2 A4 x s hA4 hE)
 rw [List.append_assoc] at hfin
 refine ae (ae (ae (ae ?_)))
 exact ai ⟨_, rfl, hfin⟩
theorem Of {H : Heap} {cv : Value} {cs : List CdX} (hk : CardsX H cv cs) (hli : dT (cs.map CdX.base) = true) {v : dG} {b : Bd} (h : BdS H v b) (hv : ax b = true) (hB : bdB b) (hfit : Bk b) (t : Tg) :
  Triple PP nt [cv, .agg (aq v b).toArray, .agg t.row.toArray] H [] fun r _ O' => ∃ w, r = .tuple #[.agg (aq w (tH cs b t).1).toArray, iV (tH cs b t).2] ∧ OwnB tys w (tH cs b t).1 O' := by
 refine tA (vs := cv :: (aq v b ++ t.row)) (by kernel_rfl) ⟨hk.one, aL (au (h.r [])) (wj t)⟩ ?_
 simp only [jq]
 have h200 := lD hv
 refine ah fun r0 => ah fun r1 => ah fun r2 => ?_
 refine ae ?_
 refine aj (IV hk hli h hv) rfl ⟨rfl, trivial⟩ fun H2 l2 => ?_
 have h := h.le l2
 have hk := hk.le l2
 have slen : al .len [v.s] = some (iV b.stack.length) := ItsR.len (h.stack.r [])
 refine ab _ (aH _ _) (ak (fun h0 => ?_) (fun h0 => ?_))
 ·have h0 : kI cs b = 0 := by simpa using h0
  have e : tH cs b t = (zBd, 8) := by rw [tH, if_pos h0]
  refine ae (ae ?_)
  exact ai ⟨un, by rw [e]; rfl, by rw [e]; exact OwnB.zero tys⟩
 have h0 : kI cs b ≠ 0 := by simpa using h0
 have hne : b.stack ≠ [] := fun e => h0 (oB e)
 obtain ⟨l, x, hl⟩ := uV hne
 have hlen : b.stack.length = l.length + 1 := by rw [hl]; simp
 have hxf := ed hv (x := x) (by rw [hl]; simp)
 have ht4 : x.tgs.length ≤ 4 := by
  simp only [cd, Bool.and_eq_true, Bool.not_eq_true', Bool.or_eq_false_iff, decide_eq_false_iff_not] at hxf
  have := hxf.2.2.2.2.1.1.1
  omega
 obtain ⟨a, s, k1, hs, k2, k3⟩ := Ex (O := []) h.stack (i := l.length) (x := x) (by rw [hl]; exact kn l x)
 have esub : ((b.stack.length : Int) - 1) = (l.length : Int) := by omega
 refine ae ?_
 refine ab _ slen ?_
 refine ab _ (Bt (by omega) (by omega)) ?_
 rw [esub]
 refine ae (ae ?_)
 refine ab _ k1 (aD rfl (ap (k3 0 1 (by omega)) rfl ⟨rfl, trivial⟩ ?_))
 refine ae ?_
 refine aj (Me hk.base hli h hB hfit (by omega) x.player (kI cs b) t) rfl ⟨rfl, trivial⟩ fun H3 l3 => ?_
 have h := h.le l3
 refine ab _ (aI _) (ak (fun hg => ?_) (fun hg => ?_))
 ·have hg : vx (cs.map CdX.base) b (Kh b) (kI cs b) t = false := by rw [uW hl]; exact zH hg
  have e : tH cs b t = (zBd, 14) := by rw [tH, if_neg h0, if_neg (by rw [hg]; simp)]
  refine ae (ae ?_)
  exact ai ⟨un, by rw [e]; rfl, by rw [e]; exact OwnB.zero tys⟩
 have hg : vx (cs.map CdX.base) b (Kh b) (kI cs b) t = true := by rw [uW hl]; exact vq hg
 have e : tH cs b t = ({ b with stack := l ++ [Ia x t] }, 0) := by rw [tH, if_neg h0, if_pos hg, oi hl, hl, List.dropLast_concat]
 rw [e]
 refine ae ?_
 refine ay (CK h hB) ?_
 rintro _ H4 O4 ⟨w, rfl, ho⟩ l4
 refine ⟨aq w b, rfl, cz H4 ho.weak, ?_⟩
 rw [List.append_nil]
 obtain ⟨A1, T, X, s4, a4, p1, i1, hs4, rd, st⟩ := JZ ho hl
 refine ae (ae (ae ?_))
 refine ab _ i1 ?_
 refine aD rfl ?_
 refine ap (rd H4 O4 (fun p hp => p1.mem_iff.2 (List.mem_append_left _ hp))).2 rfl ⟨hs4.one, trivial⟩ ?_
 refine ae ?_
 refine ah fun r4 => ?_
 have p2 : O4.Perm (T ++ (A1 ++ X)) := p1.trans (List.perm_append_comm_assoc _ _ _)
 refine aA (rows := be x.tgs) (news := [t.row]) (O1 := T) (O2 := A1 ++ X) (e := ar) (size := 2) (bytes := 16) (by kernel_rfl) p2 hs4 (fun Hf _ hf => Sl.block1 (hf _ List.mem_cons_self) rfl ⟨rfl, rfl, trivial⟩) (by rw [aY]; simp; omega) (by rw [aY]; simp; omega) ?_
 intro s5 T' H5 l5 hT'
 have hT2 : OSl ar 2 s5 (be (x.tgs ++ [t])) T' := by
  have : be (x.tgs ++ [t]) = be x.tgs ++ [t.row] := by simp [be]
  rw [this]; exact hT'
 obtain ⟨O6, k5, k6⟩ := st T' s5 t _ hT2 (List.perm_append_comm_assoc _ _ _)
 refine ab _ i1 ?_
 refine aD rfl (aD rfl ?_)
 refine ⟨_, k5, ?_⟩
 refine ae (ae (ae ?_))
 exact ai ⟨w, rfl, k6⟩
theorem Gp {b : Bd} (hv : ax b = true) {k : Nat} {o : Ob} (e1 : b.objs[k]? = some o) (z : Int) (hz : z = 0 ∨ z = 1 ∨ z = 2 ∨ z = 3) : hP b o.id z = (Jj b k (bD o z) z, 0) := by
 have e3 := (cH (aN hv).1 e1).2.2.1
 have hE0 : bt b o.id = 0 := by
  have : ¬ fL b o.id < 0 := by omega
  simp [bt, hv, this]
 have hEne : (bt b o.id != 0) = false := by rw [hE0]; rfl
 have hfo := th hEne e1 e3
 have emr : Jj b k (bD o z) z = gq b k (bD o z) z := by
  show oS (dD (AM b o.id) k _) o.owner z o.id = oS (dD (nb b o.id) k _) o.owner z o.id
  rw [Fg hv]
 have hzw : aw z 0 3 = true := by simp only [aw, decide_eq_true_eq]; omega
 rw [hP, if_neg (by rw [hE0, hzw]; decide), if_neg (by rw [hEne]; simp), hfo, e3, emr]; rfl
theorem IZ {H : Heap} {v : dG} {b : Bd} (h : BdS H v b) (hv : ax b = true) (hB : bdB b) {k : Nat} {o : Ob} (hk : b.objs[k]? = some o) (z : Int) (hz : z = 0 ∨ z = 1 ∨ z = 2 ∨ z = 3) :
  Triple PP iE [.agg (aq v b).toArray, iV o.id, iV z] H [] fun r H' O' => (∃ w, r = .agg (aq w (hP b o.id z).1).toArray ∧ BdS H' w (hP b o.id z).1) ∧ O' = [] := by
 rw [Gp hv hk z hz]
 obtain ⟨_, _, e3, hown⟩ := cH (aN hv).1 hk
 exact Ns h hB hk e3 hown z
theorem Lo {b : Bd} (hv : ax b = true) {x : It} (hx : x ∈ b.stack) (ht : x.trig < 0) : ∃ (k : Nat) (o : Ob), b.objs[k]? = some o ∧ o.id = x.id ∧ o.owner = x.player := by
 refine Jw (aN hv).1 (id := x.id) (p := x.player) ?_
 simp only [aM, List.mem_append]
 refine .inr (.inr ?_)
 simp only [cG, bh, List.mem_map, List.mem_filter, decide_eq_true_eq]
 exact ⟨x, ⟨hx, ht⟩, rfl⟩
theorem Oe {H : Heap} {v : dG} {b : Bd} (h : BdS H v b) (hv : ax b = true) (hB : bdB b) :
    Triple PP nr [.agg (aq v b).toArray] H [] fun r H' O' => (∃ w s, r = .tuple #[.agg (aq w (uk b).1).toArray, .agg #[iV (tM b).player, iV (tM b).id, iV (tM b).card, iV (tM b).trig, s], iV (uk b).2] ∧
      BdS H' w (uk b).1 ∧ Sl H' 2 s (be (tM b).tgs)) ∧ O' = [] := by
  have e2 : tM b = xP b := by rw [tM, if_neg (by rw [hv]; simp)]
  refine tz (vs := aq v b) (by kernel_rfl) (au (h.r [])) ?_
  simp only [jp]
  have h200 := lD hv
  refine ah fun r0 => ah fun r1 => ah fun r2 => ?_
  have slen : al .len [v.s] = some (iV b.stack.length) := ItsR.len (h.stack.r [])
  refine ae ?_
  refine ab _ slen ?_
  refine ab _ (aH _ _) (ak (fun h0 => ?_) (fun h0 => ?_))
  · have h0 : b.stack = [] := List.length_eq_zero_iff.1 (by have : (b.stack.length : Int) = 0 := by simpa using h0
                                                            omega)
    have e : uk b = (zBd, 9) := by rw [uk, if_neg (by rw [hv]; simp), if_pos h0]
    have e3 : xP b = zIt := by simp [xP, h0]
    rw [e, e2, e3]
    refine ae (ae (ae (ae ?_)))
    exact ai ⟨⟨un, .slice none 0 0, rfl, vQ _, Sl.nil _ _⟩, rfl⟩
  have hne : b.stack ≠ [] := fun e => by rw [e] at h0; simp at h0
  obtain ⟨l, x, hl⟩ := uV hne
  have hlen : b.stack.length = l.length + 1 := by rw [hl]; simp
  have esub : ((b.stack.length : Int) - 1) = (l.length : Int) := by omega
  have etop := oi hl
  rw [e2, etop]
  refine ae ?_
  refine ab _ slen ?_
  refine ab _ (Bt (by omega) (by omega)) ?_
  rw [esub]
  refine ae ?_
  refine ay (CK h hB) ?_
  rintro _ H4 O4 ⟨w, rfl, ho⟩ l4
  refine ⟨aq w b, rfl, cz H4 ho.weak, ?_⟩
  rw [List.append_nil]
  have h := h.le l4
  obtain ⟨A, T, s4, a4, u, p1, i1, hs4, rd, hu, hpop⟩ := Ff ho hl
  refine ab _ i1 (ap (rd H4) rfl ⟨rfl, rfl, rfl, rfl, hs4.one, trivial⟩ (ah fun r4 => ?_))
  refine ae (ae ?_)
  refine ab _ (aH _ _) (ak (fun ht => ?_) (fun ht => ?_))
  · have ht : x.trig = -1 := by simpa using ht
    have e : uk b = ((hP b x.id 3).1, 0) := by rw [uk, if_neg (by rw [hv]; simp), if_neg hne, etop, if_pos ht]
    rw [e]
    obtain ⟨k, o, f1, f2, _⟩ := Lo hv (x := x) (by rw [hl]; simp) (by omega)
    have hmv := IZ h hv hB f1 3 (by omega)
    rw [f2] at hmv
    refine ae (ae (ae ?_))
    refine ay hmv ?_
    rintro _ H5 _ ⟨⟨w5, rfl, h5⟩, rfl⟩ l5
    refine ⟨aq w5 (hP b x.id 3).1, rfl, au (h5.r []), ?_⟩
    refine ae (ae (ae (ae ?_)))
    intro hcs
    have hcs : Cons H5 O4 := hcs
    obtain ⟨H6, g6, k6, l6⟩ := hs4.freeze (X := A) (hcs.perm (p1.trans List.perm_append_comm))
    exact ⟨H6, [], (Ghost.perm (p1.trans List.perm_append_comm)).trans (g6.trans (Ghost.drop _ _)), ⟨w5, s4, rfl, h5.le l6, k6⟩, rfl⟩
  · have ht : x.trig ≠ -1 := by simpa using ht
    have e : uk b = ({ b with stack := l }, 0) := by rw [uk, if_neg (by rw [hv]; simp), if_neg hne, etop, if_neg ht, hl, List.dropLast_concat]
    rw [e]
    refine ae ?_
    refine ay (CK h hB) ?_
    rintro _ H5 O5 ⟨w5, rfl, ho5⟩ l5
    refine ⟨aq w5 b, rfl, cz H5 ho5.weak, ?_⟩
    obtain ⟨A5, T5, s5, a5, u5, p5, i5, hs5, rd5, hu5, hpop5⟩ := Ff ho5 hl
    refine ae (ae ?_)
    refine ab _ hu5 ?_
    repeat (first | refine ae ?_ | refine af ?_ | refine aD rfl ?_)
    intro hcs
    have pp : (O5 ++ O4).Perm (T ++ (A5 ++ (T5 ++ A))) := by
      refine aZ fun a _ _ => ?_
      have c1 := p1.count_eq a
      have c5 := p5.count_eq a
      simp only [List.count_append] at c1 c5 ⊢
      omega
    have hc2 := hcs.perm pp
    obtain ⟨H6, g6, k6, l6⟩ := hs4.freeze hc2
    obtain ⟨H7, g7, k7, l7⟩ := hpop5.freeze (hc2.ghost g6)
    exact ⟨H7, [], (Ghost.perm pp).trans (g6.trans (g7.trans (Ghost.drop _ _))), ⟨{ w5 with s := u5 }, s4, rfl, k7, k6.le l7⟩, rfl⟩
theorem I1 {H : Heap} {v : dG} {b : Bd} (h : BdS H v b) (hv : ax b = true) (hB : bdB b) {id : Int} : Triple PP jN [.agg (aq v b).toArray, iV id] H [] fun r H' O' => (∃ w, r = .tuple #[.agg (aq w (bT b id).1).toArray, iV (bT b id).2] ∧ BdS H' w (bT b id).1) ∧ O' = [] := by
 refine oq (vs := aq v b ++ [iV id]) (by kernel_rfl) (aL (au (h.r [])) ⟨rfl, trivial⟩) ?_
 simp only [fx]
 refine ah fun r0 => ah fun r1 => ?_
 obtain ⟨w1, w2⟩ := FY hv id
 refine ae ?_
 refine aj (IP (h.r []) id) rfl (vs := ug (AO (eD (onR id) b id)) ++ [iV (yU (eD (onR id) b id))]) ⟨rfl, rfl, rfl, rfl, trivial⟩ fun H1 l1 => ah fun r2 => ?_
 rw [← w1, ← w2]
 have h := h.le l1
 have hn2 : ¬ (bt b id == 2) = true := by
  rcases DM hv id with e | e <;> rw [e] <;> decide
 refine ae ?_
 refine ab _ (bG _ _) ?_
 refine ae (af (af ?_))
 refine ab _ (bG _ _) ?_
 refine af ?_
 refine ab _ (aO _ _) (ak (fun hc => ?_) (fun hc => ?_))
 ·have e : bT b id = (zBd, 9) := by rw [bT, if_neg hn2, if_pos hc]
  rw [e]
  refine ae (ae ?_)
  exact ai ⟨⟨un, rfl, vQ _⟩, rfl⟩
 have hc : (bt b id != 0 || (dQ b id).2.1 != 4) = false := hc
 have e : bT b id = hP b id 3 := by rw [bT, if_neg hn2, if_neg (by rw [hc]; simp)]
 rw [Bool.or_eq_false_iff] at hc
 obtain ⟨_, k, o, e1, e2, e3, e4⟩ := jh hc.1
 have hmv := IZ h hv hB e1 3 (by omega)
 have ez : (hP b o.id 3).2 = 0 := by rw [Gp hv e1 3 (by omega)]
 rw [e2] at hmv ez
 rw [e]
 refine ae ?_
 refine ay hmv ?_
 rintro _ H5 _ ⟨⟨w5, rfl, h5⟩, rfl⟩ l5
 refine ⟨aq w5 (hP b id 3).1, rfl, au (h5.r []), ?_⟩
 refine ae (ae ?_)
 exact ai ⟨⟨w5, by rw [ez]; rfl, h5⟩, rfl⟩
end Go.Proofs.YtieaihgbjikggaaGreat
namespace Go.Proofs.YtieaihgbjikggaaGreat
open Go Go.Sx
set_option maxRecDepth 100000
set_option maxHeartbeats 1000000
structure Ac where
 (what id : Int)
 x : It
 t : Tg
def Ic (a : Ac) (s : Value) : List Value := [iV a.what, iV a.id, iV a.x.player, iV a.x.id, iV a.x.card, iV a.x.trig, s, iV a.t.id, iV a.t.player]
def ActsS (H : Heap) (v : Value) (l : List Ac) : Prop := ∃ rows, Sl H 9 v rows ∧ rows.length = l.length ∧ ∀ (i : Nat) (r : List Value) (a : Ac), rows[i]? = some r → l[i]? = some a → i64 a.id ∧ ∃ s, r = Ic a s ∧ Sl H 2 s (be a.x.tgs)
theorem ActsS.le {H H' : Heap} {v : Value} {l : List Ac} (h : ActsS H v l) (hl : Heap.le H H') : ActsS H' v l :=
 let ⟨rows, h1, h2, h3⟩ := h; ⟨rows, h1.le hl, h2, fun i r x a b => let ⟨k0, s, e, k⟩ := h3 i r x a b; ⟨k0, s, e, k.le hl⟩⟩
theorem ActsS.len {H : Heap} {v : Value} {l : List Ac} (h : ActsS H v l) : al .len [v] = some (iV l.length) := by
 obtain ⟨rows, h1, h2, _⟩ := h
 rw [← h2]; exact h1.len
theorem ActsS.one {H : Heap} {v : Value} {l : List Ac} (h : ActsS H v l) : v.oneCell' = true := by
 obtain ⟨rows, h1, _⟩ := h
 exact h1.one
theorem MQ {H : Heap} {O : Own} {v : Value} {l : List Ac} (h : ActsS H v l) {i : Nat} {x : Ac} (hx : l[i]? = some x) :
  ∃ a s, al (.idx 9) [v, iV i] = some (.pointer (some a)) ∧ i64 x.id ∧ Sl H 2 s (be x.x.tgs) ∧ Reads H O (.pointer (some a)) 9 (Ic x s) ∧
   ∀ off m, off + m ≤ 9 → Reads H O (aS (.pointer (some a)) off) m (((Ic x s).drop off).take m) := by
 obtain ⟨rows, h1, h2, h3⟩ := h
 have hlt := (List.getElem?_eq_some_iff.1 hx).1
 have hr : rows[i]? = some (rows[i]'(by omega)) := List.getElem?_eq_getElem (by omega)
 obtain ⟨k0, s, e, hs⟩ := h3 i _ x hr hx
 obtain ⟨a, k1, k2, k3, _⟩ := (h1.rsl O).idx .i64 i _ hr
 rw [e] at k2 k3
 exact ⟨a, s, k1, k0, hs, k2, k3⟩
def LN (cs : List CdX) (b : Bd) (a : Ac) : Tg := if a.what = 3 ∧ 0 < (d7 cs b).length ∧ 0 ≤ a.id then (d7 cs b).getD (a.id.toNat % (d7 cs b).length) ⟨0, 0⟩ else a.t
def DF (cs : List CdX) (b : Bd) (a : Ac) : Bd × Int :=
 if a.what = 0 then hZ b a.id else if a.what = 1 then gp b a.x else if a.what = 2 ∨ a.what = 3 then tH cs b (LN cs b a) else if a.what = 4 then uk b else bT b a.id
def iT (b : Bd) (r : Bd × Int) : Bd := if r.2 = 0 then r.1 else b
def J5 (b : Bd) (x : Bd) (e : Int) (r : Value) (H' : Heap) (O' : Own) : Prop := (∃ w, r = .tuple #[.agg (aq w (iT b (x, e))).toArray, .bool true] ∧ BdS H' w (iT b (x, e))) ∧ O' = []
theorem vF {H : Heap} {O O1 X : Own} {v u wx ww : dG} {b x : Bd} {e : Int} {r1 r2 r3 r4 r10 n : Nat} {l5 l7 l8 l9 : List Value} (q1 : ag (G38 l5 0) = .agg (aq wx x).toArray) (q2 : g l5 n = iV e) (q3 : ag (G38 l7 0) = .agg (aq ww x).toArray) (q4 : g l7 n = iV e)
  (q5 : ag (G38 l9 0) = .agg (aq u b).toArray) (q6 : ag (G38 l8 1) = .agg (aq v b).toArray) (hO : O.Perm (O1 ++ X)) (hx : OwnB tys wx x O1) (hw : BdS H ww x) (h : BdS H v b) (hs : BdS H u b) :
  (bQ r1 r2 r3 r4 l5 n l7 l8 l9 r10).den PP (J5 b x e) H O := by
 simp only [bQ]
 rw [q1, q2, q3, q4, q5, q6]
 refine ae (ae (ae (ae (ae ?_))))
 refine Ar (O1 := O1) (O2 := X) hO (MJ hx hw h hs e e) rfl ⟨rfl, trivial⟩ fun Hg Og lg => ?_
 rw [show (((x == x) && (e == e)) && (b == b)) = true from by simp]
 refine ab _ (aI _) (ak (fun hd => by cases hd) (fun _ => ?_))
 refine ab _ (bG _ _) (ak (fun he => ?_) (fun he => ?_))
 ·have he : e ≠ 0 := by simpa using he
  have e1 : iT b (x, e) = b := by rw [iT, if_neg he]
  refine ae (ae (ae ?_))
  exact ve ⟨⟨v, by rw [e1], by rw [e1]; exact h.le lg⟩, rfl⟩
 ·have he : e = 0 := by simpa using he
  have e1 : iT b (x, e) = x := by rw [iT, if_pos he]
  refine ae (ae (ae ?_))
  exact ve ⟨⟨ww, by rw [e1], by rw [e1]; exact hw.le lg⟩, rfl⟩
section
variable {H : Heap} {cv : Value} {cs : List CdX} (hk : CardsX H cv cs) (hli : dT (cs.map CdX.base) = true) {v u : dG} {b : Bd} (h : BdS H v b) (hu : BdS H u b) (hv : ax b = true) (hB : bdB b) (hfit : Bk b)
 {r1 r2 r3 r4 r5 r6 r7 r8 : Nat} {l0 l1 l2 : List Value} {n m : Nat} (q0 : g l0 0 = cv) (q1 : ag (G38 l0 1) = .agg (aq v b).toArray) (q2 : ag (G38 l1 0) = .agg (aq u b).toArray)
include hk hli h hu hv hB hfit q0 q1 q2
theorem EJ {t : Tg} (q : (.agg #[g l2 n, g l2 m] : Value) = .agg t.row.toArray) : (dX r1 r2 l0 l2 n m r3 r4 r5 l1 r6).den PP (J5 b (tH cs b t).1 (tH cs b t).2) H [] := by
 simp only [dX]
 rw [q, q0, q1]
 refine ae (ae ?_)
 refine ay (Ou hk hli h hv hB t) ?_
 rintro _ H1 O1 ⟨w1, rfl, ho⟩ l1
 refine ⟨aq w1 (tH cs b t).1 ++ [iV (tH cs b t).2], rfl, aL (cz H1 ho) ⟨rfl, trivial⟩, ?_⟩
 have h := h.le l1
 have hu := hu.le l1
 refine ae (ae (ae ?_))
 refine ay (Triple.frozen2 (Of (hk.le l1) hli h hv hB hfit t)) ?_
 rintro _ H2 _ ⟨⟨w2, rfl, h2⟩, rfl⟩ l2
 refine ⟨aq w2 (tH cs b t).1 ++ [iV (tH cs b t).2], rfl, aL (au (h2.r [])) ⟨rfl, trivial⟩, ?_⟩
 exact vF (wx := w1) (ww := w2) (v := v) (u := u) (X := []) (by rfl) (by rfl) (by rfl) (by rfl) q2 q1 (by simp) ho h2 (h.le l2) (hu.le l2)
theorem GA {a : Ac} (hw : a.what = 2 ∨ a.what = 3) (hid : i64 a.id) (q3 : g l0 39 = iV a.what) (q4 : g l0 40 = iV a.id) (q5 : (.agg #[g l0 46, g l0 47] : Value) = .agg a.t.row.toArray) :
  (cA (.bool true) r1 r2 l0 r3 r4 r5 l1 r6 n).den PP (J5 b (tH cs b (LN cs b a)).1 (tH cs b (LN cs b a)).2) H [] := by
 simp only [cA]
 rw [q0, q1, q3, q4]
 refine ak (fun _ => ?_) (fun hd => by cases hd)
 refine ae ?_
 refine ah fun r => ?_
 refine ae (ae ?_)
 refine ay (IR hk hli h hv hB hfit) ?_
 rintro tv H2 _ ⟨htv, rfl⟩ lz
 refine ⟨[tv], rfl, ⟨htv.one, trivial⟩, ?_⟩
 have tlen : al .len [tv] = some (iV (d7 cs b).length) := by have := htv.len; rwa [aY] at this
 refine ae ?_
 refine ab _ (aH _ _) ?_
 refine af ?_
 refine ab _ tlen ?_
 refine af ?_
 refine ab _ (cZ _ _) ?_
 refine af ?_
 refine ab _ (bg _ _) ?_
 refine ae (af (af ?_))
 refine ab _ (du _ _) ?_
 refine af ?_
 refine ab _ (bg _ _) (ak (fun hc => ?_) (fun hc => ?_))
 ·have hc : (((a.what == 3) && decide (((d7 cs b).length : Int) > 0)) && decide (a.id ≥ 0)) = true := hc
  simp only [Bool.and_eq_true, beq_iff_eq, decide_eq_true_eq] at hc
  obtain ⟨⟨c1, c2⟩, c3⟩ := hc
  have hlen : 0 < (d7 cs b).length := by omega
  have hlt := Nat.mod_lt a.id.toNat hlen
  obtain ⟨a1, i1, i2, _, i4, i5⟩ := (htv.rsl ([] : Own)).idx .i64 (a.id.toNat % (d7 cs b).length) (Tg.row (d7 cs b)[a.id.toNat % (d7 cs b).length]) (by rw [be, List.getElem?_map, List.getElem?_eq_getElem hlt]; rfl)
  refine ae ?_
  refine ab _ tlen ?_
  refine ab _ (L9 c3 hlen) ?_
  refine ab _ i1 (ap i2 i4 i5 ?_)
  have e : LN cs b a = (d7 cs b)[a.id.toNat % (d7 cs b).length] := by
   rw [LN, if_pos ⟨c1, hlen, c3⟩, List.getD_eq_getElem?_getD, List.getElem?_eq_getElem hlt]; rfl
  rw [e]
  refine ae ?_
  exact EJ (hk.le lz) hli (h.le lz) (hu.le lz) hv hB hfit q0 q1 q2 (by rfl)
 ·have hc : (((a.what == 3) && decide (((d7 cs b).length : Int) > 0)) && decide (a.id ≥ 0)) = false := hc
  have e : LN cs b a = a.t := by
   refine if_neg fun hh => ?_
   obtain ⟨c1, c2, c3⟩ := hh
   rw [c1, decide_eq_true (show ((d7 cs b).length : Int) > 0 by omega), decide_eq_true (show a.id ≥ 0 from c3)] at hc
   cases hc
  rw [e]
  exact EJ (hk.le lz) hli (h.le lz) (hu.le lz) hv hB hfit q0 q1 q2 q5
end
section
variable {H : Heap} {v u : dG} {b : Bd} (h : BdS H v b) (hu : BdS H u b) (hv : ax b = true) (hB : bdB b)
 {r1 r2 r3 r4 r5 r6 r7 r8 : Nat} {l0 l1 : List Value} {n : Nat} (q1 : ag (G38 l0 1) = .agg (aq v b).toArray) (q2 : ag (G38 l1 0) = .agg (aq u b).toArray)
include h hu hv hB q1 q2
theorem JF {what id : Int} (hid : i64 id) (q3 : g l0 39 = iV what) (q4 : g l0 40 = iV id) :
  (cA (.bool false) r1 r2 l0 r3 r4 r5 l1 r6 n).den PP (J5 b (if what = 4 then uk b else bT b id).1 (if what = 4 then uk b else bT b id).2) H [] := by
 simp only [cA]
 rw [q1, q3, q4]
 refine ak (fun hd => by cases hd) (fun _ => ?_)
 refine ab _ (aH _ _) (ak (fun h4 => ?_) (fun h4 => ?_))
 ·have h4 : what = 4 := by simpa using h4
  rw [if_pos h4]
  refine ae ?_
  refine ay (Ot h hB) ?_
  rintro _ H1 O1 ⟨w1, s1, A, T, rfl, hp, ho, hs1⟩ lz
  refine ⟨aq w1 (uk b).1 ++ ([iV (tM b).player, iV (tM b).id, iV (tM b).card, iV (tM b).trig, s1] ++ [iV (uk b).2]), rfl, aL (cz H1 ho) ⟨rfl, rfl, rfl, rfl, hs1.one, rfl, trivial⟩, ?_⟩
  have h := h.le lz
  have hu := hu.le lz
  refine ah fun ra => ah fun rb => ?_
  refine ae (ae (ae ?_))
  refine ay (Oe h hv hB) ?_
  rintro _ H2 _ ⟨⟨w2, s2, rfl, h2, hs2⟩, rfl⟩ ly
  refine ⟨aq w2 (uk b).1 ++ ([iV (tM b).player, iV (tM b).id, iV (tM b).card, iV (tM b).trig, s2] ++ [iV (uk b).2]), rfl, aL (au (h2.r [])) ⟨rfl, rfl, rfl, rfl, hs2.one, rfl, trivial⟩, ?_⟩
  have h := h.le ly
  have hu := hu.le ly
  have hp : ([] ++ (O1 ++ [])).Perm (A ++ T) := by simpa using hp
  refine ah fun rc => ah fun rd => ?_
  refine ae (ae (ae (ae ?_)))
  refine aj (Bz (x := tM b) (y := tM b) ⟨s1, rfl, hs1.rsl (fun p hm => hp.mem_iff.2 (List.mem_append_right _ hm)) _⟩ ⟨s2, rfl, hs2.rsl _⟩) rfl ⟨rfl, trivial⟩ fun H3 lx => ?_
  rw [show (tM b == tM b) = true from by simp]
  have h := h.le lx
  have hu := hu.le lx
  have h2 := h2.le lx
  refine ab _ (aI _) (ak (fun hd => by cases hd) (fun _ => ?_))
  have hB63 := hs1.lenB
  rw [aY] at hB63
  refine aQ (tM b).tgs.length (fun i H' O' => Heap.le H3 H' ∧ ∃ (ts : List Tg) (T' : Own), ts.length = (tM b).tgs.length ∧ O'.Perm (T' ++ A) ∧ OSl ar 2 s1 (be ts) T') ⟨Heap.le_refl _, _, T, rfl, hp.trans List.perm_append_comm, hs1⟩ ?_
  rintro i H' O' hi - ⟨hle, ts, T', hts, hp', hs'⟩
  have tlen : al .len [s1] = some (iV (tM b).tgs.length) := by have := hs'.len; rwa [aY, hts] at this
  refine ae ?_
  refine ab _ tlen ?_
  refine ab _ (aC _ _) (ak (fun hb => ?_) (fun _ => ?_))
  ·have hlt : i < (tM b).tgs.length := by simpa using hb
   have htr : (be ts)[i]? = some (Tg.row (ts[i]'(by omega))) := by rw [be, List.getElem?_map, List.getElem?_eq_getElem (by omega)]; rfl
   obtain ⟨a, m1, _, _, m3⟩ := hs'.idx (fun p hm => hp'.mem_iff.2 (List.mem_append_left _ hm)) H' (k := .i64) htr
   have hr0 := m3 0 1 (by omega)
   rw [Ha] at hr0
   obtain ⟨a2, n1, n2⟩ := hs'.store hp' (k := .i64) htr
   obtain ⟨T2, hst, hT2⟩ := n2 0 [iV (IntKind.i64.wrap ((ts[i]'(by omega)).id + 1))] (by simp) ⟨rfl, trivial⟩
   rw [Ha] at hst
   have htgs : (be ts).set i (ct (Tg.row (ts[i]'(by omega))) 0 [iV (IntKind.i64.wrap ((ts[i]'(by omega)).id + 1))]) = be (ts.set i { (ts[i]'(by omega)) with id := IntKind.i64.wrap ((ts[i]'(by omega)).id + 1) }) := by
    rw [be, be, List.map_set]; rfl
   rw [htgs] at hT2
   refine ae ?_
   refine ab _ m1 (aD rfl (ap hr0 rfl ⟨rfl, trivial⟩ (ab _ (zW _) (ab _ n1 (aD rfl (aD rfl ⟨_, hst, ?_⟩))))))
   exact ab _ (az (by omega)) (aJ (by simp [Eqs, E]) hlt ⟨hle, _, T2, by simp [hts], List.Perm.refl _, hT2⟩)
  ·refine ae (ae (ae ?_))
   exact vF (wx := w1) (ww := w2) (v := v) (u := u) (by rfl) (by rfl) (by rfl) (by rfl) q2 q1 (hp'.trans List.perm_append_comm) ho (h2.le hle) (h.le hle) (hu.le hle)
 ·have h4 : what ≠ 4 := by simpa using h4
  rw [if_neg h4]
  refine ae (ae ?_)
  refine ay (JU h hB hid) ?_
  rintro _ H1 O1 ⟨w1, rfl, ho⟩ lz
  refine ⟨aq w1 (bT b id).1 ++ [iV (bT b id).2], rfl, aL (cz H1 ho) ⟨rfl, trivial⟩, ?_⟩
  have h := h.le lz
  have hu := hu.le lz
  refine ae (ae (ae ?_))
  refine ay (I1 h hv hB) ?_
  rintro _ H2 _ ⟨⟨w2, rfl, h2⟩, rfl⟩ ly
  refine ⟨aq w2 (bT b id).1 ++ [iV (bT b id).2], rfl, aL (au (h2.r [])) ⟨rfl, trivial⟩, ?_⟩
  exact vF (wx := w1) (ww := w2) (v := v) (u := u) (X := []) (by rfl) (by rfl) (by rfl) (by rfl) q2 q1 (by simp) ho h2 (h.le ly) (hu.le ly)
end
theorem NB {H : Heap} {cv : Value} {cs : List CdX} (hk : CardsX H cv cs) (hli : dT (cs.map CdX.base) = true) {v : dG} {b : Bd} (h : BdS H v b) (hv : ax b = true) (hB : bdB b) (hfit : Bk b) (a : Ac) (hid : i64 a.id) {s : Value} (hs : Sl H 2 s (be a.x.tgs)) :
  Triple PP mN [cv, .agg (aq v b).toArray, .agg (Ic a s).toArray] H [] (J5 b (DF cs b a).1 (DF cs b a).2) := by
 refine rP (vs := cv :: (aq v b ++ Ic a s)) (by kernel_rfl) ⟨hk.one, aL (au (h.r [])) ⟨rfl, rfl, rfl, rfl, rfl, rfl, hs.one, rfl, rfl, trivial⟩⟩ ?_
 simp only [iB]
 refine ah fun r0 => ah fun r1 => ah fun r2 => ?_
 refine ae ?_
 refine ay (Triple.frozen (Gg h hB)) ?_
 rintro _ H1 _ ⟨⟨u, rfl, hu⟩, rfl⟩ l1
 refine ⟨aq u b, rfl, au (hu.r []), ah fun r3 => ?_⟩
 have h := h.le l1
 have hk := hk.le l1
 have hs := hs.le l1
 refine ae ?_
 refine ah fun r4 => ah fun r5 => ?_
 refine ae ?_
 refine ab _ (aH _ _) (ak (fun h0 => ?_) (fun h0 => ?_))
 ·have h0 : a.what = 0 := by simpa using h0
  have e : DF cs b a = hZ b a.id := by rw [DF, if_pos h0]
  rw [e]
  refine ae (ae ?_)
  refine ay (NR h hB hid) ?_
  rintro _ H2 O1 ⟨w1, rfl, ho⟩ lz
  refine ⟨aq w1 (hZ b a.id).1 ++ [iV (hZ b a.id).2], rfl, aL (cz H2 ho) ⟨rfl, trivial⟩, ?_⟩
  have h := h.le lz
  have hu := hu.le lz
  refine ae (ae (ae ?_))
  refine ay (Nt h hv hB) ?_
  rintro _ H3 _ ⟨⟨w2, rfl, h2⟩, rfl⟩ ly
  refine ⟨aq w2 (hZ b a.id).1 ++ [iV (hZ b a.id).2], rfl, aL (au (h2.r [])) ⟨rfl, trivial⟩, ?_⟩
  exact vF (wx := w1) (ww := w2) (v := v) (u := u) (X := []) (by rfl) (by rfl) (by rfl) (by rfl) (by rfl) (by rfl) (by simp) ho h2 (h.le ly) (hu.le ly)
 have h0 : a.what ≠ 0 := by simpa using h0
 refine ab _ (aH _ _) (ak (fun h1 => ?_) (fun h1 => ?_))
 ·have h1 : a.what = 1 := by simpa using h1
  have e : DF cs b a = gp b a.x := by rw [DF, if_neg h0, if_pos h1]
  rw [e]
  refine ae (ae ?_)
  refine ay (NO h hB a.x hs) ?_
  rintro _ H2 O1 ⟨w1, rfl, ho⟩ lz
  refine ⟨aq w1 (gp b a.x).1 ++ [iV (gp b a.x).2], rfl, aL (cz H2 ho) ⟨rfl, trivial⟩, ?_⟩
  have h := h.le lz
  have hu := hu.le lz
  refine ae (ae (ae ?_))
  refine ay (Triple.frozen2 (Nq h hv hB a.x (hs.le lz))) ?_
  rintro _ H3 _ ⟨⟨w2, rfl, h2⟩, rfl⟩ ly
  refine ⟨aq w2 (gp b a.x).1 ++ [iV (gp b a.x).2], rfl, aL (au (h2.r [])) ⟨rfl, trivial⟩, ?_⟩
  exact vF (wx := w1) (ww := w2) (v := v) (u := u) (X := []) (by rfl) (by rfl) (by rfl) (by rfl) (by rfl) (by rfl) (by simp) ho h2 (h.le ly) (hu.le ly)
 have h1 : a.what ≠ 1 := by simpa using h1
 refine ab _ (aH _ _) (ak (fun h2 => ?_) (fun h2 => ?_))
 ·have h2' : a.what = 2 := by simpa using h2
  have e : DF cs b a = tH cs b (LN cs b a) := by rw [DF, if_neg h0, if_neg h1, if_pos (.inl h2')]
  rw [e, show (a.what == 2) = true from h2]
  exact GA hk hli h hu hv hB hfit (by rfl) (by rfl) (by rfl) (.inl h2') hid (by rfl) (by rfl) (by rfl)
 have h2 : a.what ≠ 2 := by simpa using h2
 refine ab _ (aH _ _) ?_
 by_cases h3 : a.what = 3
 ·have e : DF cs b a = tH cs b (LN cs b a) := by rw [DF, if_neg h0, if_neg h1, if_pos (.inr h3)]
  rw [e, show (a.what == 3) = true from by simp [h3]]
  exact GA hk hli h hu hv hB hfit (by rfl) (by rfl) (by rfl) (.inr h3) hid (by rfl) (by rfl) (by rfl)
 ·have e : DF cs b a = if a.what = 4 then uk b else bT b a.id := by rw [DF, if_neg h0, if_neg h1, if_neg (by omega)]
  rw [e, show (a.what == 3) = false from by simp [h3]]
  exact JF h hu hv hB (by rfl) (by rfl) hid (by rfl) (by rfl)
end Go.Proofs.YtieaihgbjikggaaGreat
namespace Go.Proofs.YtieaihgbjikggaaGreat
open Go Go.Sx
set_option maxRecDepth 100000
set_option maxHeartbeats 1000000
end Go.Proofs.YtieaihgbjikggaaGreat
namespace Go.Proofs.YtieaihgbjikggaaGreat
open Go Go.Sx
set_option maxRecDepth 100000
set_option maxHeartbeats 1000000
theorem Em {b : Bd} (hv : ax b = true) {id : Int} {k : Nat} {o : Ob} (e1 : b.objs[k]? = some o) (e2 : o.id = id) {z : Int} (hz : z = 0 ∨ z = 1 ∨ z = 2 ∨ z = 3) : ax (hP b id z).1 = true := by
 have hm := Gp hv e1 z hz
 rw [e2] at hm
 have emr : Jj b k (bD o z) z = gq b k (bD o z) z := by
  show oS (dD (AM b o.id) k _) o.owner z o.id = oS (dD (nb b o.id) k _) o.owner z o.id
  rw [Fg hv]
 rw [hm, emr]
 exact Ho hv e1 hz
section
variable {b : Bd} (hv : ax b = true) {n : Nat} (hsz : szB n b)
include hv hsz
theorem pf {r : Bd × Int} (h : r.2 ≠ 0) : ax (iT b r) = true ∧ szB (n + 1) (iT b r) := by
 rw [iT, if_neg h]; exact ⟨hv, szB.le hsz (by omega)⟩
theorem Jg (id : Int) : ax (iT b (hZ b id)) = true ∧ szB (n + 1) (iT b (hZ b id)) := by
 by_cases hb : (bt b id != 0) = true
 ·rw [hZ, if_pos hb]
  exact pf hv hsz (by simpa using hb)
 have hb' : (bt b id != 0) = false := by simpa using hb
 obtain ⟨_, k, o, e1, e2, e3, e4⟩ := jh hb'
 have hfo := th hb' e1 e3
 rw [hZ, if_neg hb, hfo]
 by_cases hc : ((dQ b id).2.1 != 1 || decide (o.card < 0)) = true
 ·rw [if_pos hc]; exact pf hv hsz (by show (8 : Int) ≠ 0; omega)
 rw [if_neg hc]
 by_cases hd : decide ((b.stack.length : Int) ≥ 200) = true
 ·rw [if_pos hd]; exact pf hv hsz (by show (7 : Int) ≠ 0; omega)
 rw [if_neg hd, iT, if_pos rfl]
 simp only [Bool.or_eq_true, not_or, bne_iff_ne, ne_eq, Decidable.not_not, decide_eq_true_eq] at hc hd
 obtain ⟨j, hj1, hj⟩ := Ao hb' hc.1 e1 e2
 rw [e3, hj1]
 exact ⟨HH hv e1 (by rw [e2]; exact hj) (by omega) (by omega), LV hsz k j o⟩
theorem Jf (x : It) : ax (iT b (gp b x)) = true ∧ szB (n + 1) (iT b (gp b x)) := by
 by_cases hc : (!ax b || (!tG x || decide ((x.tgs.length : Int) > 0))) = true
 ·rw [gp, if_pos hc]; exact pf hv hsz (by show (2 : Int) ≠ 0; omega)
 rw [gp, if_neg hc]
 by_cases hd : decide ((b.stack.length : Int) ≥ 200) = true
 ·rw [if_pos hd]; exact pf hv hsz (by show (7 : Int) ≠ 0; omega)
 rw [if_neg hd, iT, if_pos rfl]
 rw [hv] at hc
 simp only [Bool.not_true, Bool.false_or, Bool.or_eq_true, decide_eq_true_eq, not_or] at hc hd
 have ht : x.tgs = [] := List.length_eq_zero_iff.1 (by omega)
 exact ⟨GZ hv (by simpa using hc.1) ht (by omega), Cv hsz (by omega) (szI.app hsz.2.2.2.1 (by rw [ht]; exact Nat.zero_le _))⟩
theorem KF (cs : List CdX) (t : Tg) : ax (iT b (tH cs b t)) = true ∧ szB (n + 1) (iT b (tH cs b t)) := by
 by_cases h0 : kI cs b = 0
 ·rw [tH, if_pos h0]; exact pf hv hsz (by show (8 : Int) ≠ 0; omega)
 rw [tH, if_neg h0]
 by_cases hg : vx (cs.map CdX.base) b (Kh b) (kI cs b) t = true
 case neg => rw [if_neg hg]; exact pf hv hsz (by show (14 : Int) ≠ 0; omega)
 have hne : b.stack ≠ [] := fun e => h0 (oB e)
 obtain ⟨l, x, hl⟩ := uV hne
 rw [if_pos hg, iT, if_pos rfl, oi hl, hl, List.dropLast_concat]
 obtain ⟨y, hy, he⟩ := List.any_eq_true.1 hg
 have hty : t = y := by simpa using he
 have hat : eC t = true := by rw [hty]; exact HY hy
 rw [zz hl, Ej] at h0
 have hx : x.trig = -1 ∧ (x.tgs.length : Int) < min 4 ((hJ cs x).length : Int) := by
  refine Decidable.byContradiction fun hh => h0 (if_neg hh)
 refine ⟨JY hv hl (by omega) (by omega) hat, Cv hsz (by omega) ?_⟩
 have hst := hsz.2.2.2.1
 rw [hl] at hst
 refine szI.app (n := n) ⟨?_, fun q hq => hst.2 q (List.mem_append_left _ hq)⟩ ?_
 ·have := hst.1; rw [List.length_append] at this; omega
 ·have := hst.2 x (by simp)
  show (x.tgs ++ [t]).length ≤ n + 1
  rw [List.length_append, List.length_singleton]; omega
theorem KE : ax (iT b (uk b)) = true ∧ szB (n + 1) (iT b (uk b)) := by
 rw [uk, if_neg (by rw [hv]; simp)]
 by_cases hne : b.stack = []
 ·rw [if_pos hne]; exact pf hv hsz (by show (9 : Int) ≠ 0; omega)
 rw [if_neg hne]
 obtain ⟨l, x, hl⟩ := uV hne
 rw [oi hl]
 by_cases ht : x.trig = -1
 ·rw [if_pos ht, iT, if_pos rfl]
  obtain ⟨k, o, f1, f2, _⟩ := Lo hv (x := x) (by rw [hl]; simp) (by omega)
  exact ⟨Em hv f1 f2 (by omega), F2 hsz _ _⟩
 ·have hxf := ed hv (x := x) (by rw [hl]; simp)
  have htr : ¬ x.trig < 0 := by
   simp only [cd, Bool.and_eq_true] at hxf
   have := of_decide_eq_true hxf.2.2.2.1
   omega
  rw [if_neg ht, iT, if_pos rfl]
  have hst := hsz.2.2.2.1
  rw [hl] at hst
  rw [hl, List.dropLast_concat]
  refine ⟨I6 hv hl htr, Cv hsz (by omega) ⟨?_, fun q hq => by have := hst.2 q (List.mem_append_left _ hq); omega⟩⟩
  have := hst.1; rw [List.length_append] at this; omega
theorem En (id : Int) : ax (iT b (bT b id)) = true ∧ szB (n + 1) (iT b (bT b id)) := by
 have hn2 : ¬ (bt b id == 2) = true := by
  rcases DM hv id with e | e <;> rw [e] <;> decide
 rw [bT, if_neg hn2]
 by_cases hc : (bt b id != 0 || (dQ b id).2.1 != 4) = true
 ·rw [if_pos hc]; exact pf hv hsz (by show (9 : Int) ≠ 0; omega)
 rw [if_neg hc]
 have hc : (bt b id != 0 || (dQ b id).2.1 != 4) = false := by simpa using hc
 rw [Bool.or_eq_false_iff] at hc
 obtain ⟨_, k, o, e1, e2, e3, e4⟩ := jh hc.1
 have ez : (hP b id 3).2 = 0 := by rw [← e2, Gp hv e1 3 (by omega)]
 rw [iT, if_pos ez]
 exact ⟨Em hv e1 e2 (by omega), F2 hsz _ _⟩
theorem KG (cs : List CdX) (a : Ac) : ax (iT b (DF cs b a)) = true ∧ szB (n + 1) (iT b (DF cs b a)) := by
 rw [DF]
 split
 ·exact Jg hv hsz _
 split
 ·exact Jf hv hsz _
 split
 ·exact KF hv hsz _ _
 split
 ·exact KE hv hsz
 ·exact En hv hsz _
end
theorem Hc {H : Heap} {cv : Value} {cs : List CdX} (hk : CardsX H cv cs) {v : dG} {b : Bd} (h : BdS H v b) {av : Value} {l : List Ac} (ha : ActsS H av l) :
  Triple PP ib [cv, .agg (aq v b).toArray, av] H [] fun r _ O' => r = .bool true ∧ O' = [] := by
 refine mb (vs := cv :: (aq v b ++ [av])) (by kernel_rfl) ⟨hk.one, aL (au (h.r [])) ⟨ha.one, trivial⟩⟩ ?_
 simp only [dY]
 have alen := ha.len
 refine ah fun r0 => ?_
 refine aj (MI hk.base) rfl ⟨rfl, trivial⟩ fun H1 l1 => ab _ (aI _) (ak (fun _ => ?_) (fun hli => ?_))
 ·exact aj (vI _ _) rfl ⟨rfl, trivial⟩ fun _ _ => ai ⟨rfl, rfl⟩
 have hli : dT (cs.map CdX.base) = true := vq hli
 have h := h.le l1
 refine ae ?_
 refine aj (MA (h.r [])) rfl ⟨rfl, trivial⟩ fun H2 l2 => ab _ (aI _) (ak (fun _ => ?_) (fun hsm => ?_))
 ·exact aj (vI _ _) rfl ⟨rfl, trivial⟩ fun _ _ => ai ⟨rfl, rfl⟩
 have hsm : fP b = true := vq hsm
 have h := h.le l2
 have hsz := Km hsm
 refine ae ?_
 refine aj (IQ (h.r []) (Ln hsz (by omega))) rfl ⟨rfl, trivial⟩ fun H3 l3 => ?_
 have h := h.le l3
 have hk := hk.le (Heap.le_trans l1 (Heap.le_trans l2 l3))
 have ha := ha.le (Heap.le_trans l1 (Heap.le_trans l2 l3))
 rw [FZ]
 refine ab _ (aI _) ?_
 refine af ?_
 refine ab _ alen ?_
 refine af ?_
 refine ab _ (cZ _ _) ?_
 refine af ?_
 refine ab _ (aO _ _) (ak (fun _ => ?_) (fun hcc => ?_))
 ·exact aj (vI _ _) rfl ⟨rfl, trivial⟩ fun _ _ => ai ⟨rfl, rfl⟩
 have hcc : (!ax b || decide ((l.length : Int) > 12)) = false := hcc
 rw [Bool.or_eq_false_iff, decide_eq_false_iff_not] at hcc
 have hv : ax b = true := vq hcc.1
 have hl12 : l.length ≤ 12 := by omega
 refine kb (fun vs H' O' => ∃ (i : Nat) (w : dG) (c : Bd), vs = iV (i : Int) :: aq w c ∧ i ≤ l.length ∧ Heap.le H3 H' ∧ BdS H' w c ∧ ax c = true ∧ szB (40 + i) c ∧ O' = []) (fun vs _ _ => match g vs 0 with | .int _ k => l.length + 1 - k.toNat | _ => 0) ⟨0, v, b, rfl, Nat.zero_le _, Heap.le_refl _, h, hv, hsz, rfl⟩ ?_
 rintro _ H4 O4 _ _ _ ⟨i, w, c, rfl, hi, hle, hc, hcv, hcz, rfl⟩
 have hk := hk.le hle
 have ha := ha.le hle
 refine ab _ alen ?_
 refine ab _ (aC _ _) (ak (fun hlt => ?_) (fun _ => ?_))
 ·have hlt : i < l.length := by simpa using hlt
  obtain ⟨a, s, k1, hid, hs, k2, k3⟩ := MQ (O := []) ha (i := i) (x := l[i]) (List.getElem?_eq_getElem hlt)
  have hpa : aS (aS (.pointer (some a)) 2) 4 = aS (.pointer (some a)) 6 := by simp [aS, Addr.add]
  have tlen : al .len [s] = some (iV l[i].x.tgs.length) := by have := hs.len; rwa [aY] at this
  refine ab _ k1 ?_
  refine aD rfl (aD rfl ?_)
  rw [hpa]
  refine ap (k3 6 1 (by omega)) rfl ⟨hs.one, trivial⟩ ?_
  refine ab _ tlen ?_
  refine ab _ (cZ _ _) (ak (fun _ => ?_) (fun _ => ?_))
  ·exact aj (vI _ _) rfl ⟨rfl, trivial⟩ fun _ _ => ai ⟨rfl, rfl⟩
  refine ae ?_
  refine ab _ k1 (ap k2 rfl ⟨rfl, rfl, rfl, rfl, rfl, rfl, hs.one, rfl, rfl, trivial⟩ ?_)
  refine ay (NB hk hli hc hcv (OD hcz (by omega)) (Ln hcz (by omega)) l[i] hid hs) ?_
  rintro _ H5 _ ⟨⟨w5, rfl, h5⟩, rfl⟩ l5
  obtain ⟨hnv, hnz⟩ := KG hcv hcz cs l[i]
  have hnn : iT c ((DF cs c l[i]).1, (DF cs c l[i]).2) = iT c (DF cs c l[i]) := rfl
  rw [hnn] at h5 ⊢
  generalize iT c (DF cs c l[i]) = q at *
  refine ⟨aq w5 q ++ [.bool true], rfl, aL (au (h5.r [])) ⟨rfl, trivial⟩, ah fun r1 => ?_⟩
  have hk := hk.le l5
  refine ae ?_
  refine ab _ (aI _) (ak (fun hd => by cases hd) (fun _ => ?_))
  refine ae (ae ?_)
  refine aj (LK hk hli h5 hnv) rfl ⟨rfl, trivial⟩ fun H6 l6 => ?_
  refine aj (IV (hk.le l6) hli (h5.le l6) hnv) rfl ⟨rfl, trivial⟩ fun H7 l7 => ?_
  refine ab _ (bG _ _) (ak (fun hd => by simp at hd) (fun _ => ?_))
  refine ae (ae ?_)
  refine ab _ (az (by omega)) (eM (by simp [Eqs, E]) ⟨i + 1, w5, q, rfl, hlt, Heap.le_trans hle (Heap.le_trans l5 (Heap.le_trans l6 l7)), h5.le (Heap.le_trans l6 l7), hnv, hnz, rfl⟩ ?_)
  show l.length + 1 - ((i + 1 : Nat) : Int).toNat < l.length + 1 - (i : Int).toNat
  omega
 ·exact aj (vI _ _) rfl ⟨rfl, trivial⟩ fun _ _ => ai ⟨rfl, rfl⟩
end Go.Proofs.YtieaihgbjikggaaGreat
namespace Go.Proofs.YtieaihgbjikggaaGreat
open Go Go.Sx Go.ChangeShapes Go.WideShapes Go.ChangeAt Go.RowKit
set_option maxRecDepth 100000
set_option maxHeartbeats 1000000
theorem lJ : hU PP 8 45 = some [3, 3, 3, 3, 3, 3, 39, 3, 3] := by kernel_rfl
theorem IM {H : Heap} {v : Value} (h : Leaf PP H 35 v) : ∃ l, ActsS H v l := by
 obtain ⟨rows, hs, n, hw⟩ := h.slice Tryz.underlying35
 have hc : PP.cellsOf 45 = 9 := by kernel_rfl
 rw [hc] at hs
 obtain ⟨l, e1, e2⟩ := vm (R := fun r (a : Ac) => i64 a.id ∧ ∃ s, r = Ic a s ∧ Sl H 2 s (be a.x.tgs)) (rows := rows) fun r hr => by
  have hl := y3 hs hr
  have hw := hw r hr
  obtain ⟨x0, e0⟩ := ba (cU lJ hw 0 3 rfl)
  obtain ⟨x1, e1, b1, b2⟩ := (cU lJ hw 1 3 rfl).int Tryz.underlying3
  obtain ⟨x2, e2⟩ := ba (cU lJ hw 2 3 rfl)
  obtain ⟨x3, e3⟩ := ba (cU lJ hw 3 3 rfl)
  obtain ⟨x4, e4⟩ := ba (cU lJ hw 4 3 rfl)
  obtain ⟨x5, e5⟩ := ba (cU lJ hw 5 3 rfl)
  obtain ⟨trows, ts, m, tw⟩ := (cU lJ hw 6 39 rfl).slice Tryz.underlying39
  obtain ⟨x7, e7⟩ := ba (cU lJ hw 7 3 rfl)
  obtain ⟨x8, e8⟩ := ba (cU lJ hw 8 3 rfl)
  have hc2 : PP.cellsOf 43 = 2 := by kernel_rfl
  rw [hc2] at ts
  obtain ⟨tl, rfl⟩ := BR (f := Tg.row) (rows := trows) fun r hr => by
   obtain ⟨x, y, e⟩ := CI Gv (tw r hr) (y3 ts hr)
   exact ⟨⟨x, y⟩, e⟩
  match r, hl with
  | [_, _, _, _, _, _, s, _, _], _ =>
   refine ⟨⟨x0, x1, ⟨x2, x3, x4, x5, tl⟩, ⟨x7, x8⟩⟩, ⟨b1, b2⟩, s, ?_, ?_⟩
   ·simp only [g, List.getD_cons_zero, List.getD_cons_succ] at e0 e1 e2 e3 e4 e5 e7 e8
    rw [e0, e1, e2, e3, e4, e5, e7, e8]; rfl
   ·simpa [g, be] using ts
 exact ⟨l, rows, hs, e1, e2⟩
end Go.Proofs.YtieaihgbjikggaaGreat
