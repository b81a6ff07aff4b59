/- Cards are drawn: the program's. -/
import Derived.Test.YtdhobpmnkfmcfaaGreatDoorRW
import Derived.Test.YtdhobpmnkfmcfaaGreatDoorKN
import Derived.Test.YtdhobpmnkfmcfaaGreatDoorC8
namespace Go.Proofs.YtdhobpmnkfmcfaaGreatDoor
open Go Go.Sx
set_option maxRecDepth 100000
set_option maxHeartbeats 1000000
def gQ (b : Bd) (p id : Int) : Bd := du (Aw b p id) (oh b id).toNat (bm (b.objs.getD (oh b id).toNat zO) 1)
def dP : Nat → Bd → Int → Bd
 | 0, b, _ => b
 | n + 1, b, p => match (au b p).lib.getLast? with
  | none => aW b p { au b p with empty := true }
  | some id => dP n (gQ b p id) p
def kX (b : Bd) (p n : Int) : Bd × Int := if (!al b || (!ap p 0 1 || decide (n < 0))) = true then (zBd, 2) else (dP n.toNat b p, 0)
def wD (w : dr) (x1 x2 x3 x4 : Value) : dr := { w with l0 := x1, h0 := x2, l1 := x3, h1 := x4 }
def mkD (b : Bd) (os : List Ob) (a1 a2 a3 a4 : List Int) : Bd := { b with objs := os, s0 := { b.s0 with lib := a1, hand := a2 }, s1 := { b.s1 with lib := a3, hand := a4 } }
theorem sV {n : Nat} (h : n + 1 < 2 ^ 63) : aj (.bin .sub .int) [iV ((n + 1 : Nat) : Int), iV 1] = some (iV (n : Int)) := by
 simp only [aj, eh, dK, if_true]
 rw [fi (by omega) (by omega)]
 congr 3
 omega
theorem xn {b : Bd} (h : al b = true) {p : Int} (hp : p = 0 ∨ p = 1) {l : List Int} {id : Int} (hl : (au b p).lib = l ++ [id]) :
  ∃ (k : Nat) (o : Ob), b.objs[k]? = some o ∧ o.id = id ∧ o.owner = p ∧ oh b id = k ∧ al (Aw b p id) = true ∧ aU (Aw b p id) id = 0 ∧ uk (Aw b p id) id = k ∧ i64 id ∧ gQ b p id = du (Aw b p id) k (bm o 1) ∧ al (gQ b p id) = true := by
 obtain ⟨_, m2, _, m4⟩ := By hp hl
 have hpl := (aJ h).1
 obtain ⟨k, o, e1, e2, e3⟩ := EY hpl m4
 obtain ⟨v1, _, v3, _⟩ := dN hpl e1
 rw [e2] at v3
 have hmv := Ig h hp hl
 have hidx : oh (Aw b p id) id = k := by rw [oh, m2]; exact v3
 have hn : ¬ ((k : Int) < 0) := by omega
 have hid := rh v1
 have hd : gQ b p id = du (Aw b p id) k (bm o 1) := by
  simp only [gQ, v3, Int.toNat_natCast, List.getD_eq_getElem?_getD, e1, Option.getD_some]
 refine ⟨k, o, e1, e2, e3, v3, hmv, by simp [aU, hmv, hidx, hn], by rw [uk, if_pos hmv, hidx, if_neg hn], by rw [← e2]; omega, hd, ?_⟩
 rw [hd]
 exact AN (o := o) hmv (by rw [m2]; exact e1) rfl rfl rfl (tY 1 v1)
theorem LR {H : Heap} {v : dr} {b : Bd} (h : BdS H v b) (hB : bdB b) (p n : Int) (hn1000 : n ≤ 1000) : Triple PP uT [.agg (am v b).toArray, iV p, iV n] H [] fun r _ O' => ∃ w, r = .tuple #[.agg (am w (kX b p n).1).toArray, iV (kX b p n).2] ∧ OwnB tys w (kX b p n).1 O' := by
 refine yq (vs := am v b ++ [iV p, iV n]) (by kernel_rfl) (ar (an (h.r [])) ⟨rfl, rfl, trivial⟩) ?_
 simp only [uK]
 refine ae fun r0 => ae fun r1 => ?_
 refine aa ?_
 refine ai (cz (h.r [])) rfl ⟨rfl, trivial⟩ fun H1 l1 => ab _ (aB _) (ak (fun hb => ?_) (fun hb => ?_))
 ·have e : kX b p n = (zBd, 2) := by rw [kX, if_pos (by rw [rG hb]; rfl)]
  refine aa (aa ?_)
  exact ah ⟨sP, by rw [e]; rfl, by rw [e]; exact OwnB.zero tys⟩
 have hval : al b = true := sO hb
 replace h := h.le l1
 refine ai (cw p 0 1 H1 []) rfl ⟨rfl, trivial⟩ fun H2 l2 => ?_
 refine ab _ (aB _) (af (ab _ (aN _ _) (af (ab _ (aM _ _) ?_))))
 refine ak (fun hb => ?_) (fun hb => ?_)
 ·have e : kX b p n = (zBd, 2) := by
   have hb : (!ap p 0 1 || decide (n < 0)) = true := hb
   rw [kX, if_pos (by rw [hb]; simp)]
  refine aa (aa ?_)
  exact ah ⟨sP, by rw [e]; rfl, by rw [e]; exact OwnB.zero tys⟩
 have hb : (!ap p 0 1 || decide (n < 0)) = false := hb
 have e : kX b p n = (dP n.toNat b p, 0) := by rw [kX, if_neg (by rw [hb, hval]; simp)]
 simp only [Bool.or_eq_false_iff, Bool.not_eq_false', decide_eq_false_iff_not] at hb
 obtain ⟨hb1, hb2⟩ := hb
 have hp : p = 0 ∨ p = 1 := by simp only [ap, decide_eq_true_eq] at hb1; omega
 obtain ⟨n0, rfl⟩ : ∃ n0 : Nat, n = n0 := ⟨n.toNat, by omega⟩
 rw [Int.toNat_natCast] at e
 rw [e]
 clear e
 replace h := h.le l2
 refine aa ?_
 refine ao (CH h hB) ?_
 rintro _ H3 O3 ⟨w, rfl, ho⟩ l3
 refine ⟨am w b, rfl, aT H3 ho, ?_⟩
 rw [List.append_nil]
 obtain ⟨_, ⟨m2, m3, _, _⟩, ⟨m6, m7, _, _⟩, _⟩ := hB
 refine aa ?_
 rcases hp with rfl | rfl
 ·refine ⟨.i64, 0, rfl, fun _ => ?_, fun e => absurd rfl e⟩
  refine gI (fun vs H' O' => ∃ (m : Nat) (x1 x2 x3 x4 : Value) (os : List Ob) (a1 a2 a3 a4 : List Int), vs = [iV m, x1, x2, x3, x4] ∧ m ≤ 1000 ∧ OwnB tys (wD w x1 x2 x3 x4) (mkD b os a1 a2 a3 a4) O' ∧ al (mkD b os a1 a2 a3 a4) = true ∧ dP n0 b 0 = dP m (mkD b os a1 a2 a3 a4) 0 ∧ a1.length + a2.length ≤ 4000000)
   (fun vs _ _ => match g vs 0 with | .int _ k => k.toNat | _ => 0) ⟨n0, _, _, _, _, b.objs, b.s0.lib, b.s0.hand, b.s1.lib, b.s1.hand, rfl, by omega, ho, hval, rfl, by omega⟩ ?_
  rintro vs H' O' - - - ⟨m, x1, x2, x3, x4, os, a1, a2, a3, a4, rfl, hm, hown, hv, hgo, hlen⟩
  refine ab _ (eJ _ _) (ak (fun hb => ?_) (fun hb => ?_))
  ·have hb := of_decide_eq_true hb
   obtain ⟨m', rfl⟩ : ∃ m' : Nat, m = m' + 1 := ⟨m - 1, by omega⟩
   have hR := hown.r (fun p hp => hp) H'
   have hl1 : aj .len [x1] = some (iV a1.length) := by have := hR.s0.lib.len; rwa [aF, List.length_map] at this
   refine aa ?_
   refine ab _ hl1 (ab _ (aA _ _) (ak (fun hb => ?_) (fun hb => ?_)))
   ·have h0 : a1 = [] := by
     have : a1.length = 0 := by simpa using hb
     exact List.eq_nil_of_length_eq_zero this
    subst h0
    have e : dP n0 b 0 = aW (mkD b os [] a2 a3 a4) 0 { au (mkD b os [] a2 a3 a4) 0 with empty := true } := by rw [hgo]; rfl
    rw [e]
    refine aa (aa (aa (aa ?_)))
    refine ah ⟨wD w x1 x2 x3 x4, rfl, ?_⟩
    obtain ⟨Oo, A0, B0, C0, D0, A1, B1, C1, D1, Os, Oq, Oa, Obk, hq, hh⟩ := hown
    exact ⟨Oo, A0, B0, C0, D0, A1, B1, C1, D1, Os, Oq, Oa, Obk, hq, ⟨hh.objs, hh.l0, hh.h0, hh.f0, hh.g0, hh.l1, hh.h1, hh.f1, hh.g1, hh.stack, hh.queue, hh.att, hh.blocks⟩⟩
   ·obtain ⟨l, id, rfl⟩ : ∃ l id, a1 = l ++ [id] := by
     have hne : a1 ≠ [] := by rintro rfl; simp at hb
     exact ⟨a1.dropLast, a1.getLast hne, (List.dropLast_concat_getLast hne).symm⟩
    obtain ⟨k, ob, e1, e2, e3, e4, hmv, hE, hI, hid, hd, hdv⟩ := xn hv (p := 0) (.inl rfl) (l := l) (id := id) rfl
    have hll : (l ++ [id]).length = l.length + 1 := by simp
    rw [hll]
    have hls : l.length + 1 < 2 ^ 63 := by rw [hll] at hlen; omega
    refine aa ?_
    refine ab _ (sV hls) ?_
    obtain ⟨a, i1, i2, _, i3, i4⟩ := hR.s0.lib.idx .i64 l.length [iV id] (by show (aF (l ++ [id]))[l.length]? = _; simp [aF])
    refine ab _ i1 (ax i2 i3 i4 ?_)
    refine aa ?_
    refine ab _ (sV hls) ?_
    obtain ⟨A, R, hp1, hA, back⟩ := OwnB.pick_l0 hown
    have hA : OSl aG 1 x1 (aF (l ++ [id])) A := hA
    obtain ⟨u, su, hu⟩ := hA.upto (i := l.length) (by simp [aF])
    have hu : OSl aG 1 u (aF l) A := by
     have : (aF (l ++ [id])).take l.length = aF l := by simp [aF]
     rwa [this] at hu
    have ho1 := OwnB.perm (back u l A hu) hp1
    refine ab _ su ?_
    refine aa ?_
    refine ae fun r2 => ?_
    obtain ⟨A2, R2, hp2, hA2, back2⟩ := OwnB.pick_h0 ho1
    have hA2 : OSl aG 1 x2 (aF a2) A2 := hA2
    refine ay (rows := aF a2) (news := [[iV id]]) (O1 := A2) (O2 := R2) (e := aG) (size := 1) (bytes := 8) (by kernel_rfl) hp2 hA2 (fun Hf _ hf => Sl.block1 (hf _ List.mem_cons_self) rfl ⟨rfl, trivial⟩) (by simp [aF]; omega) (by simp [aF]; omega) ?_
    intro y A' H6 l6 hA'
    have hA3 : OSl aG 1 y (aF (a2 ++ [id])) A' := by rw [aF, List.map_append]; exact hA'
    have ho2 := back2 y (a2 ++ [id]) A' hA3
    have emid : Aw (mkD b os (l ++ [id]) a2 a3 a4) 0 id = mkD b os l (a2 ++ [id]) a3 a4 := by
     simp only [Aw, Ly, aW, au, mkD, if_true, List.dropLast_concat]
    rw [emid] at hmv hE hI hd
    have ho2 : OwnB tys (wD w u y x3 x4) (mkD b os l (a2 ++ [id]) a3 a4) (A' ++ R2) := ho2
    refine aa (aa (aa ?_))
    refine ai (tI (ho2.r (fun p hp => hp) H6) hid) rfl ⟨rfl, rfl, trivial⟩ fun H7 l7 => ?_
    rw [hI]
    refine aa (aa ?_)
    have e1' : (mkD b os l (a2 ++ [id]) a3 a4).objs[k]? = some ob := e1
    obtain ⟨a5, k1, k2, _, k3, k4⟩ := (ho2.r (fun p hp => hp) H7).objs.idx .i64 k (Ob.row ob) (by rw [List.getElem?_map, e1']; rfl)
    have k1 : aj (.idx 12) [w.o, iV k] = some (.pointer (some a5)) := k1
    refine ab _ k1 (ax k2 k3 k4 ?_)
    refine ai (D2 ob 1 H7 _) rfl (vs := (bm ob 1).row) (bj _) fun H8 l8 => ?_
    obtain ⟨a6, q1, O1, q2, O2, q3, q4⟩ := OwnB.store_ob ho2 (X := []) (O' := A' ++ R2) (by simp) e1' (bm ob 1)
    have q1 : aj (.idx 12) [w.o, iV k] = some (.pointer (some a6)) := q1
    rw [List.append_nil] at q3
    refine ab _ q1 ?_
    refine aH rfl ?_
    refine ⟨_, q2, ?_⟩
    refine ab _ (sV (by omega)) ?_
    refine cY (by simp [Eqs]) ⟨m', u, y, x3, x4, os.set k (bm ob 1), l, (a2 ++ [id]), a3, a4, rfl, by omega, OwnB.perm q4 q3, by rw [hd] at hdv; exact hdv, ?_, by rw [hll] at hlen; simp only [List.length_append, List.length_cons, List.length_nil]; omega⟩ ?_
    ·rw [hgo, dP]
     have egl : (au (mkD b os (l ++ [id]) a2 a3 a4) 0).lib.getLast? = some id := by
      show (l ++ [id]).getLast? = some id
      simp
     rw [egl]
     show dP m' (gQ _ 0 id) 0 = _
     rw [hd]; rfl
    ·show ((m' : Int)).toNat < (((m' + 1 : Nat) : Int)).toNat
     omega
  ·have hm0 : m = 0 := by have := of_decide_eq_false hb; omega
   subst hm0
   have e : dP n0 b 0 = mkD b os a1 a2 a3 a4 := by rw [hgo]; rfl
   rw [e]
   refine aa (aa (aa ?_))
   exact ah ⟨wD w x1 x2 x3 x4, rfl, hown⟩
 ·refine ⟨.i64, 1, rfl, fun e => absurd e (by omega), fun _ => ⟨.i64, 1, rfl, fun _ => ?_, fun e => absurd rfl e⟩⟩
  refine gI (fun vs H' O' => ∃ (m : Nat) (x1 x2 x3 x4 : Value) (os : List Ob) (a1 a2 a3 a4 : List Int), vs = [iV m, x1, x2, x3, x4] ∧ m ≤ 1000 ∧ OwnB tys (wD w x1 x2 x3 x4) (mkD b os a1 a2 a3 a4) O' ∧ al (mkD b os a1 a2 a3 a4) = true ∧ dP n0 b 1 = dP m (mkD b os a1 a2 a3 a4) 1 ∧ a3.length + a4.length ≤ 4000000)
   (fun vs _ _ => match g vs 0 with | .int _ k => k.toNat | _ => 0) ⟨n0, _, _, _, _, b.objs, b.s0.lib, b.s0.hand, b.s1.lib, b.s1.hand, rfl, by omega, ho, hval, rfl, by omega⟩ ?_
  rintro vs H' O' - - - ⟨m, x1, x2, x3, x4, os, a1, a2, a3, a4, rfl, hm, hown, hv, hgo, hlen⟩
  refine ab _ (eJ _ _) (ak (fun hb => ?_) (fun hb => ?_))
  ·have hb := of_decide_eq_true hb
   obtain ⟨m', rfl⟩ : ∃ m' : Nat, m = m' + 1 := ⟨m - 1, by omega⟩
   have hR := hown.r (fun p hp => hp) H'
   have hl1 : aj .len [x3] = some (iV a3.length) := by have := hR.s1.lib.len; rwa [aF, List.length_map] at this
   refine aa ?_
   refine ab _ hl1 (ab _ (aA _ _) (ak (fun hb => ?_) (fun hb => ?_)))
   ·have h0 : a3 = [] := by
     have : a3.length = 0 := by simpa using hb
     exact List.eq_nil_of_length_eq_zero this
    subst h0
    have e : dP n0 b 1 = aW (mkD b os a1 a2 [] a4) 1 { au (mkD b os a1 a2 [] a4) 1 with empty := true } := by rw [hgo]; rfl
    rw [e]
    refine aa (aa (aa (aa ?_)))
    refine ah ⟨wD w x1 x2 x3 x4, rfl, ?_⟩
    obtain ⟨Oo, A0, B0, C0, D0, A1, B1, C1, D1, Os, Oq, Oa, Obk, hq, hh⟩ := hown
    exact ⟨Oo, A0, B0, C0, D0, A1, B1, C1, D1, Os, Oq, Oa, Obk, hq, ⟨hh.objs, hh.l0, hh.h0, hh.f0, hh.g0, hh.l1, hh.h1, hh.f1, hh.g1, hh.stack, hh.queue, hh.att, hh.blocks⟩⟩
   ·obtain ⟨l, id, rfl⟩ : ∃ l id, a3 = l ++ [id] := by
     have hne : a3 ≠ [] := by rintro rfl; simp at hb
     exact ⟨a3.dropLast, a3.getLast hne, (List.dropLast_concat_getLast hne).symm⟩
    obtain ⟨k, ob, e1, e2, e3, e4, hmv, hE, hI, hid, hd, hdv⟩ := xn hv (p := 1) (.inr rfl) (l := l) (id := id) rfl
    have hll : (l ++ [id]).length = l.length + 1 := by simp
    rw [hll]
    have hls : l.length + 1 < 2 ^ 63 := by rw [hll] at hlen; omega
    refine aa ?_
    refine ab _ (sV hls) ?_
    obtain ⟨a, i1, i2, _, i3, i4⟩ := hR.s1.lib.idx .i64 l.length [iV id] (by show (aF (l ++ [id]))[l.length]? = _; simp [aF])
    refine ab _ i1 (ax i2 i3 i4 ?_)
    refine aa ?_
    refine ab _ (sV hls) ?_
    obtain ⟨A, R, hp1, hA, back⟩ := OwnB.pick_l1 hown
    have hA : OSl aG 1 x3 (aF (l ++ [id])) A := hA
    obtain ⟨u, su, hu⟩ := hA.upto (i := l.length) (by simp [aF])
    have hu : OSl aG 1 u (aF l) A := by
     have : (aF (l ++ [id])).take l.length = aF l := by simp [aF]
     rwa [this] at hu
    have ho1 := OwnB.perm (back u l A hu) hp1
    refine ab _ su ?_
    refine aa ?_
    refine ae fun r2 => ?_
    obtain ⟨A2, R2, hp2, hA2, back2⟩ := OwnB.pick_h1 ho1
    have hA2 : OSl aG 1 x4 (aF a4) A2 := hA2
    refine ay (rows := aF a4) (news := [[iV id]]) (O1 := A2) (O2 := R2) (e := aG) (size := 1) (bytes := 8) (by kernel_rfl) hp2 hA2 (fun Hf _ hf => Sl.block1 (hf _ List.mem_cons_self) rfl ⟨rfl, trivial⟩) (by simp [aF]; omega) (by simp [aF]; omega) ?_
    intro y A' H6 l6 hA'
    have hA3 : OSl aG 1 y (aF (a4 ++ [id])) A' := by rw [aF, List.map_append]; exact hA'
    have ho2 := back2 y (a4 ++ [id]) A' hA3
    have emid : Aw (mkD b os a1 a2 (l ++ [id]) a4) 1 id = mkD b os a1 a2 l (a4 ++ [id]) := by
     simp only [Aw, Ly, aW, au, mkD, show ¬ ((1 : Int) = 0) by omega, if_false, List.dropLast_concat]
    rw [emid] at hmv hE hI hd
    have ho2 : OwnB tys (wD w x1 x2 u y) (mkD b os a1 a2 l (a4 ++ [id])) (A' ++ R2) := ho2
    refine aa (aa (aa ?_))
    refine ai (tI (ho2.r (fun p hp => hp) H6) hid) rfl ⟨rfl, rfl, trivial⟩ fun H7 l7 => ?_
    rw [hI]
    refine aa (aa ?_)
    have e1' : (mkD b os a1 a2 l (a4 ++ [id])).objs[k]? = some ob := e1
    obtain ⟨a5, k1, k2, _, k3, k4⟩ := (ho2.r (fun p hp => hp) H7).objs.idx .i64 k (Ob.row ob) (by rw [List.getElem?_map, e1']; rfl)
    have k1 : aj (.idx 12) [w.o, iV k] = some (.pointer (some a5)) := k1
    refine ab _ k1 (ax k2 k3 k4 ?_)
    refine ai (D2 ob 1 H7 _) rfl (vs := (bm ob 1).row) (bj _) fun H8 l8 => ?_
    obtain ⟨a6, q1, O1, q2, O2, q3, q4⟩ := OwnB.store_ob ho2 (X := []) (O' := A' ++ R2) (by simp) e1' (bm ob 1)
    have q1 : aj (.idx 12) [w.o, iV k] = some (.pointer (some a6)) := q1
    rw [List.append_nil] at q3
    refine ab _ q1 ?_
    refine aH rfl ?_
    refine ⟨_, q2, ?_⟩
    refine ab _ (sV (by omega)) ?_
    refine cY (by simp [Eqs]) ⟨m', x1, x2, u, y, os.set k (bm ob 1), a1, a2, l, (a4 ++ [id]), rfl, by omega, OwnB.perm q4 q3, by rw [hd] at hdv; exact hdv, ?_, by rw [hll] at hlen; simp only [List.length_append, List.length_cons, List.length_nil]; omega⟩ ?_
    ·rw [hgo, dP]
     have egl : (au (mkD b os a1 a2 (l ++ [id]) a4) 1).lib.getLast? = some id := by
      show (l ++ [id]).getLast? = some id
      simp
     rw [egl]
     show dP m' (gQ _ 1 id) 1 = _
     rw [hd]; rfl
    ·show ((m' : Int)).toNat < (((m' + 1 : Nat) : Int)).toNat
     omega
  ·have hm0 : m = 0 := by have := of_decide_eq_false hb; omega
   subst hm0
   have e : dP n0 b 1 = mkD b os a1 a2 a3 a4 := by rw [hgo]; rfl
   rw [e]
   refine aa (aa (aa ?_))
   exact ah ⟨wD w x1 x2 x3 x4, rfl, hown⟩
theorem vO {b : Bd} (h : zr b = true) : bdB b := by
 simp only [zr, zp, vB, Bool.and_eq_true, Bool.not_eq_true', decide_eq_true_eq, decide_eq_false_iff_not, List.all_eq_true] at h
 obtain ⟨⟨a1, a2, a3, a4⟩, ⟨a5, a6, a7, a8⟩, ⟨a9, a10⟩, ⟨a11, a12⟩, ⟨a13, a14⟩, a15⟩ := h
 refine ⟨by omega, ⟨by omega, by omega, by omega, by omega⟩, ⟨by omega, by omega, by omega, by omega⟩, ⟨by omega, fun x hx => ?_⟩, ⟨by omega, fun x hx => ?_⟩, by omega, by omega⟩
 ·have := a10 x hx; omega
 ·have := a12 x hx; omega
theorem Le (H : Heap) : BdS H sP zBd :=
 ⟨Sl.nil H 12, ⟨Sl.nil H 1, Sl.nil H 1, Sl.nil H 1, Sl.nil H 1⟩, ⟨Sl.nil H 1, Sl.nil H 1, Sl.nil H 1, Sl.nil H 1⟩, ⟨[], Sl.nil H 5, rfl, fun i r x h => by simp at h⟩, ⟨[], Sl.nil H 5, rfl, fun i r x h => by simp at h⟩, Sl.nil H 1, Sl.nil H 2⟩
def JB (b : Bd) (o : Ob) : Bd := if 0 ≤ oh b o.id then du b (oh b o.id).toNat o else b
theorem Ov {H : Heap} {v : dr} {b : Bd} (h : BdS H v b) (hB : bdB b) (o : Ob) : Triple PP gY [.agg (am v b).toArray, .agg o.row.toArray] H [] fun r _ O' => ∃ w, r = .agg (am w (JB b o)).toArray ∧ OwnB tys w (JB b o) O' := by
 refine pu (vs := am v b ++ o.row) (by kernel_rfl) (ar (an (h.r [])) (bj o)) ?_
 simp only [kC]
 refine ae fun r0 => ae fun r1 => ae fun r2 => ?_
 refine aa ?_
 refine ao (Lq h hB) ?_
 rintro _ H3 O3 ⟨w, rfl, ho⟩ l3
 refine ⟨am w b, rfl, aT H3 ho, ?_⟩
 refine aa (aa (aa ?_))
 refine ai (HE (ho.r (fun p hp => List.mem_append_left _ hp) H3) o.id) rfl ⟨rfl, trivial⟩ fun H4 l4 => ab _ (eK _ _) (ak (fun hb => ?_) (fun hb => ?_))
 ·have hb := of_decide_eq_true hb
  obtain ⟨k, x, e1, e2, e3⟩ := BJ (b := b) (id := o.id) (by omega)
  have e : JB b o = du b k o := by simp [JB, e3]
  rw [e, e3]
  obtain ⟨a', q1, O1, q2, O2, q3, q4⟩ := OwnB.store_ob ho (X := []) (O' := O3 ++ []) (by simp) e1 o
  refine aa (aa ?_)
  refine ab _ q1 (aH rfl ⟨_, q2, ?_⟩)
  refine aa (aa (aa ?_))
  exact ah ⟨w, rfl, OwnB.perm q4 (by simpa using q3)⟩
 ·have hb := of_decide_eq_false hb
  have e : JB b o = b := by rw [JB, if_neg (by omega)]
  rw [e]
  refine aa (aa (aa ?_))
  exact ah ⟨w, rfl, OwnB.perm ho (by simp)⟩
theorem PT {H : Heap} {v : dr} {b : Bd} (h : BdS H v b) (hB : bdB b) (o : Ob) : Triple PP gY [.agg (am v b).toArray, .agg o.row.toArray] H [] fun r H' O' => (∃ w, r = .agg (am w (JB b o)).toArray ∧ BdS H' w (JB b o)) ∧ O' = [] :=
 Triple.frozen (Ov h hB o)
theorem J4 {b : Bd} (h : al b = true) (id : Int) : ∀ x ∈ b.stack, onR id x = iQ id x := by
 intro x hx
 have hf := List.all_eq_true.1 (aJ h).2.2.2 x hx
 have ht := IS hf
 simp only [onR, iQ]
 by_cases hn : x.trig < 0
 ·simp [ht hn]
 ·have : ¬ x.trig = -1 := by omega
  simp [hn, this]
theorem Oy (o : Ob) (H : Heap) (O : Own) : RetO PP ki [.agg o.row.toArray] H O (.agg (JW o).row.toArray) := by
 refine nH (vs := o.row) (by kernel_rfl) (bj o) ?_
 simp only [ka]
 refine ae fun r0 => ae fun r1 => ?_
 repeat (first | refine aa ?_ | refine af ?_)
 exact ah ⟨rfl, rfl⟩
theorem MJ (o : Ob) (z : Int) (H : Heap) (O : Own) : RetO PP ji [.agg o.row.toArray, iV z] H O (.agg (bm o z).row.toArray) := by
 refine nl (vs := o.row ++ [iV z]) (by kernel_rfl) (ar (bj o) ⟨rfl, trivial⟩) ?_
 simp only [iW]
 refine ae fun r0 => ae fun r1 => ?_
 refine aa ?_
 refine ai (Oy o H O) rfl (vs := (JW o).row) (bj _) fun H1 l1 => ?_
 refine aa ?_
 refine ab _ (aA _ _) ?_
 repeat (first | refine aa ?_ | refine af ?_)
 exact ah ⟨rfl, rfl⟩
theorem tW {l : List Int} {i : Nat} (h : i < l.length) (id : Int) : bW (l.take (i + 1)) id = bW (l.take i) id ++ (if l[i] != id then [l[i]] else []) := by
 rw [List.take_add_one, List.getElem?_eq_getElem h, bW, List.filter_append]
 congr 1
 simp only [Option.toList_some, List.filter_cons, List.filter_nil]
theorem CZ (l : List Int) (id : Int) : (bW l id).length ≤ l.length := List.length_filter_le _ _
theorem FG {H : Heap} {v : Value} {l : List Int} (h : Sl H 1 v (aF l)) (hl : l.length ≤ 1000000) (id : Int) : Triple PP eS [v, iV id] H [] fun v' _ O' => OSl aG 1 v' (aF (bW l id)) O' := by
 refine lm (vs := [v, iV id]) (by kernel_rfl) ⟨h.one, rfl, trivial⟩ ?_
 simp only [ib]
 have hlen : aj .len [v] = some (iV l.length) := by have := h.len; rwa [aF, List.length_map] at this
 refine iq l.length (fun i x H' O' => Heap.le H H' ∧ OSl aG 1 x (aF (bW (l.take i) id)) O') ⟨Heap.le_refl _, OSl.nil _ _⟩ ?_
 rintro i x H' O' hi - ⟨hle, hx⟩
 refine ab _ hlen (ab _ (aN _ _) (ak (fun hb => ?_) (fun hb => ?_)))
 ·have hlt : i < l.length := by simpa using hb
  obtain ⟨a, h1, h2, h3, h4⟩ := (h.le hle).idx (k := .i64) (i := i) (r := [iV l[i]]) (by simp [aF, hlt])
  refine ab _ h1 (fL h2 h3 h4 (ab _ (aV _ _) (ak (fun hc => ?_) (fun hc => ?_))))
  ·refine ab _ h1 (fL h2 h3 h4 (ae fun r0 => ?_))
   have hw : (bW (l.take i) id).length ≤ 1000000 := Nat.le_trans (CZ _ _) (by rw [List.length_take]; omega)
   refine ay (rows := aF (bW (l.take i) id)) (news := [[iV l[i]]]) (O1 := O') (O2 := []) (e := aG) (size := 1) (bytes := 8) (by kernel_rfl) (by simp) hx (fun Hf _ hf => Sl.block1 (hf _ List.mem_cons_self) rfl ⟨rfl, trivial⟩) (by simp [aF]; omega) (by simp [aF]; omega) ?_
   intro v' A' H6 l6 hA'
   refine ab _ (aD (by omega)) (bf (by simp [Eqs]) hlt ⟨Heap.le_trans hle l6, ?_⟩)
   rw [List.append_nil, tW hlt, if_pos hc, aF, List.map_append]; exact hA'
  ·refine ab _ (aD (by omega)) (bf (by simp [Eqs]) hlt ⟨hle, ?_⟩)
   have hc : (l[i] != id) = false := hc
   rw [tW hlt, if_neg (by rw [hc]; simp), List.append_nil]; exact hx
 ·have hge : l.length ≤ i := by simpa using hb
  rw [List.take_of_length_le hge] at hx
  exact ah hx
theorem Triple.frozenS {P : Program} {f : FuncId} {args : List Value} {H : Heap} {e : TypeId} {size : Nat} {rows : List (List Value)} (h : Triple P f args H [] fun v _ O' => OSl e size v rows O') :
  Triple P f args H [] fun v H' O' => Sl H' size v rows ∧ O' = [] := by
 refine h.ghost ?_
 intro v H' O' _ hc ho
 obtain ⟨H'', g, k, _⟩ := ho.freeze (X := []) (by simpa using hc)
 exact ⟨H'', [], by simpa using g, k, rfl⟩
theorem gA {H : Heap} {v : Value} {l : List Int} (h : Sl H 1 v (aF l)) (hl : l.length ≤ 1000000) (id : Int) : Triple PP eS [v, iV id] H [] fun v' H' O' => Sl H' 1 v' (aF (bW l id)) ∧ O' = [] :=
 Triple.frozenS (FG h hl id)
def EL (b : Bd) (id : Int) : Bd := { kl b id with stack := b.stack.filter fun x => !onR id x }
def prR (id : Int) (row : List Value) : Bool := (asI (g row 3) == some (-1)) && asI (g row 1) == some id
theorem Dq {b : Bd} (h : al b = true) (id : Int) : EL b id = kl b id := by
 have : (b.stack.filter fun x => !onR id x) = b.stack.filter fun x => !iQ id x := List.filter_congr fun x hx => by rw [J4 h id x hx]
 simp only [EL, kl, this]
theorem jQ {α : Type} {p : α → Bool} {l : List α} {i : Nat} (h : i < l.length) : (l.take (i + 1)).filter p = (l.take i).filter p ++ (if p l[i] then [l[i]] else []) := by
 rw [List.take_add_one, List.getElem?_eq_getElem h, List.filter_append]
 congr 1
 simp only [Option.toList_some, List.filter_cons, List.filter_nil]
theorem DT {P : Program} {lab key : Nat} {x0 : Value} {body : (List Value → Heap → Own → Prop) → List Value → Tree} {H : Heap} {O : Own} {Q : Value → Heap → Own → Prop} (n : Nat) (R : Nat → Value → Heap → Own → Prop)
  (h0 : Cons H O → ∃ H1 O1, Ghost H O H1 O1 ∧ R 0 x0 H1 O1) (step : ∀ i x H' O', i ≤ n → Heap.le H H' → R i x H' O' → (body (Jz (IY n R) (MY n) (n - i)) [x, iV i]).den P Q H' O') :
  (Tree.loop lab key [x0, iV 0] body).den P Q H O := by
 refine ⟨IY n R, MY n, fun hc => ?_, ?_⟩
 ·obtain ⟨H1, O1, g, r⟩ := h0 hc
  exact ⟨H1, O1, g, 0, x0, rfl, Nat.zero_le _, r⟩
 ·rintro vs H' O' _ _ hle ⟨i, x, rfl, hi, hr⟩
  exact step i x H' O' hi hle hr
theorem PV {H : Heap} {v : dr} {b : Bd} (h : BdS H v b) (hB : bdB b) (id : Int) : Triple PP kL [.agg (am v b).toArray, iV id] H [] fun r H' O' => (∃ w, r = .agg (am w (EL b id)).toArray ∧ BdS H' w (EL b id)) ∧ O' = [] := by
 refine pz (vs := am v b ++ [iV id]) (by kernel_rfl) (ar (an (h.r [])) ⟨rfl, trivial⟩) ?_
 simp only [kE]
 have hB' := hB
 obtain ⟨b1, ⟨b2, b3, b4, b5⟩, ⟨b6, b7, b8, b9⟩, ⟨b10, b10'⟩, b11, b12, b13⟩ := hB
 refine ae fun r0 => ae fun r1 => ?_
 refine aa ?_
 refine ao (Triple.frozen (Lq h hB')) ?_
 rintro _ H1 _ ⟨⟨w, rfl, hw⟩, rfl⟩ l1
 refine ⟨am w b, rfl, an (hw.r []), ?_⟩
 repeat (first | refine aa ?_ | refine af ?_)
 refine ao (gA hw.s0.lib b2 id) ?_
 rintro x0 K0 _ ⟨z0, rfl⟩ j0
 refine ⟨[x0], rfl, ⟨z0.one, trivial⟩, ?_⟩
 replace hw := hw.le j0
 refine ao (gA hw.s0.hand b3 id) ?_
 rintro x1 K1 _ ⟨z1, rfl⟩ j1
 refine ⟨[x1], rfl, ⟨z1.one, trivial⟩, ?_⟩
 replace hw := hw.le j1
 replace z0 := z0.le j1
 refine ao (gA hw.s0.field b4 id) ?_
 rintro x2 K2 _ ⟨z2, rfl⟩ j2
 refine ⟨[x2], rfl, ⟨z2.one, trivial⟩, ?_⟩
 replace hw := hw.le j2
 replace z0 := z0.le j2
 replace z1 := z1.le j2
 refine ao (gA hw.s0.grave b5 id) ?_
 rintro x3 K3 _ ⟨z3, rfl⟩ j3
 refine ⟨[x3], rfl, ⟨z3.one, trivial⟩, ?_⟩
 replace hw := hw.le j3
 replace z0 := z0.le j3
 replace z1 := z1.le j3
 replace z2 := z2.le j3
 repeat (first | refine aa ?_ | refine af ?_)
 refine ao (gA hw.s1.lib b6 id) ?_
 rintro x4 K4 _ ⟨z4, rfl⟩ j4
 refine ⟨[x4], rfl, ⟨z4.one, trivial⟩, ?_⟩
 replace hw := hw.le j4
 replace z0 := z0.le j4
 replace z1 := z1.le j4
 replace z2 := z2.le j4
 replace z3 := z3.le j4
 refine ao (gA hw.s1.hand b7 id) ?_
 rintro x5 K5 _ ⟨z5, rfl⟩ j5
 refine ⟨[x5], rfl, ⟨z5.one, trivial⟩, ?_⟩
 replace hw := hw.le j5
 replace z0 := z0.le j5
 replace z1 := z1.le j5
 replace z2 := z2.le j5
 replace z3 := z3.le j5
 replace z4 := z4.le j5
 refine ao (gA hw.s1.field b8 id) ?_
 rintro x6 K6 _ ⟨z6, rfl⟩ j6
 refine ⟨[x6], rfl, ⟨z6.one, trivial⟩, ?_⟩
 replace hw := hw.le j6
 replace z0 := z0.le j6
 replace z1 := z1.le j6
 replace z2 := z2.le j6
 replace z3 := z3.le j6
 replace z4 := z4.le j6
 replace z5 := z5.le j6
 refine ao (gA hw.s1.grave b9 id) ?_
 rintro x7 K7 _ ⟨z7, rfl⟩ j7
 refine ⟨[x7], rfl, ⟨z7.one, trivial⟩, ?_⟩
 replace hw := hw.le j7
 replace z0 := z0.le j7
 replace z1 := z1.le j7
 replace z2 := z2.le j7
 replace z3 := z3.le j7
 replace z4 := z4.le j7
 replace z5 := z5.le j7
 replace z6 := z6.le j7
 have hsl := ItsR.len (hw.r []).stack
 have hsone := ItsR.one (hw.r []).stack
 obtain ⟨rows, hs, hrl, hit⟩ := hw.stack
 refine aa (aa (aa (aa ?_)))
 refine iq b.stack.length (fun i x H' O' => Heap.le K7 H' ∧ OSl bc 5 x ((rows.take i).filter fun r => !prR id r) O') ⟨Heap.le_refl _, OSl.nil _ _⟩ ?_
 rintro i x H' O' hi - ⟨hle, hx⟩
 refine aa ?_
 refine ab _ hsl (ab _ (aN _ _) (ak (fun hb => ?_) (fun hb => ?_)))
 ·have hlt : i < b.stack.length := by simpa using hb
  have hlt2 : i < rows.length := by omega
  obtain ⟨s, hrow, hst⟩ := hit i rows[i] b.stack[i] (List.getElem?_eq_getElem hlt2) (List.getElem?_eq_getElem hlt)
  obtain ⟨a, h1, h2, h3, h4⟩ := (hs.le hle).idx (k := .i64) (i := i) (List.getElem?_eq_getElem hlt2)
  have hpr : prR id rows[i] = onR id b.stack[i] := by
   rw [hrow]
   show ((some b.stack[i].trig == some (-1)) && (some b.stack[i].id == some id)) = onR id b.stack[i]
   simp [onR]
  have hft := jQ (p := fun r => !prR id r) hlt2
  simp only [hpr] at hft
  rw [hrow] at h2 h3 h4
  refine aa ?_
  refine ab _ h1 (fL h2 h3 h4 (ae fun r2 => ?_))
  refine aa (aa (ab _ (aV _ _) (aa (af (af (af (ab _ (aV _ _) (af (ab _ (aM _ _) ?_)))))))))
  have hcond : (b.stack[i].trig != -1 || b.stack[i].id != id) = !onR id b.stack[i] := by
   simp only [onR, bne, Bool.not_and]
  refine ak (fun hc => ?_) (fun hc => ?_)
  ·have hc : (b.stack[i].trig != -1 || b.stack[i].id != id) = true := hc
   rw [hcond] at hc
   have hw1 : ((rows.take i).filter fun r => !prR id r).length ≤ 1000000 := Nat.le_trans (List.length_filter_le _ _) (by rw [List.length_take]; omega)
   refine aa ?_
   refine ae fun r3 => ?_
   refine ay (rows := (rows.take i).filter fun r => !prR id r) (news := [[iV b.stack[i].player, iV b.stack[i].id, iV b.stack[i].card, iV b.stack[i].trig, s]]) (O1 := O') (O2 := []) (e := bc) (size := 5) (bytes := 56) (by kernel_rfl) (by simp) hx
    (fun Hf _ hf => Sl.block1 (hf _ List.mem_cons_self) rfl h4) (by simp; omega) (by simp; omega) ?_
   intro v' A' H6 l6 hA'
   refine ab _ (aD (by omega)) (bf (by simp [Eqs]) hlt ⟨Heap.le_trans hle l6, ?_⟩)
   rw [List.append_nil, hft, if_pos hc, hrow]; exact hA'
  ·have hc : (b.stack[i].trig != -1 || b.stack[i].id != id) = false := hc
   rw [hcond] at hc
   refine ab _ (aD (by omega)) (bf (by simp [Eqs]) hlt ⟨hle, ?_⟩)
   rw [hft, if_neg (by rw [hc]; simp), List.append_nil]; exact hx
 have hge : b.stack.length ≤ i := by simpa using hb
 rw [List.take_of_length_le (by omega)] at hx
 clear hb
 have hbl : aj .len [w.b] = some (iV b.blocks.length) := by have := hw.blocks.len; rwa [List.length_map] at this
 refine DT b.blocks.length (fun j y H2 O2 => Heap.le H' H2 ∧ Sl H2 5 x (rows.filter fun r => !prR id r) ∧ OSl ba 2 y (((b.blocks.take j).filter fun x => !ee id x).map Bl.row) O2) (fun hc => ?_) ?_
 ·obtain ⟨H2, g, k, l2⟩ := hx.freeze (X := []) (by simpa using hc)
  exact ⟨H2, [], by simpa using g, l2, k, OSl.nil _ _⟩
 rintro j y H2 O2 hj - ⟨hle2, hxs, hy⟩
 refine aa ?_
 refine ab _ hbl (ab _ (aN _ _) (ak (fun hb => ?_) (fun hb => ?_)))
 ·have hlt : j < b.blocks.length := by simpa using hb
  obtain ⟨a, h1, h2, h3, h4⟩ := (hw.blocks.le (Heap.le_trans hle hle2)).idx (k := .i64) (i := j) (r := Bl.row b.blocks[j]) (by simp [hlt])
  have hft := jQ (p := fun x => !ee id x) hlt
  refine aa ?_
  refine ab _ h1 (fL h2 h3 h4 (ae fun r2 => ?_))
  refine aa (aa (ab _ (aV _ _) (aa (af (af (af (ab _ (aV _ _) (af (ab _ (bA _ _) ?_)))))))))
  have hcond : (b.blocks[j].blocker != id && b.blocks[j].attacker != id) = !ee id b.blocks[j] := by
   simp only [ee, bne, Bool.not_or]
  refine ak (fun hc => ?_) (fun hc => ?_)
  ·have hc : (b.blocks[j].blocker != id && b.blocks[j].attacker != id) = true := hc
   rw [hcond] at hc
   have hw1 : ((b.blocks.take j).filter fun x => !ee id x).length ≤ 1000000 := Nat.le_trans (List.length_filter_le _ _) (by rw [List.length_take]; omega)
   refine aa ?_
   refine ae fun r3 => ?_
   refine ay (rows := ((b.blocks.take j).filter fun x => !ee id x).map Bl.row) (news := [Bl.row b.blocks[j]]) (O1 := O2) (O2 := []) (e := ba) (size := 2) (bytes := 16) (by kernel_rfl) (by simp) hy
    (fun Hf _ hf => Sl.block1 (hf _ List.mem_cons_self) rfl h4) (by simp; omega) (by simp; omega) ?_
   intro v' A' H6 l6 hA'
   refine ab _ (aD (by omega)) (bf (by simp [Eqs]) hlt ⟨Heap.le_trans hle2 l6, hxs.le l6, ?_⟩)
   rw [List.append_nil, hft, if_pos hc, List.map_append]; exact hA'
  ·have hc : (b.blocks[j].blocker != id && b.blocks[j].attacker != id) = false := hc
   rw [hcond] at hc
   refine ab _ (aD (by omega)) (bf (by simp [Eqs]) hlt ⟨hle2, hxs, ?_⟩)
   rw [hft, if_neg (by rw [hc]; simp), List.append_nil]; exact hy
 have hge2 : b.blocks.length ≤ j := by simpa using hb
 rw [List.take_of_length_le hge2] at hy
 have lz := Heap.le_trans hle hle2
 refine aa ?_
 refine ao (gA (hw.att.le lz) b12 id) ?_
 rintro x8 K8 _ ⟨z8, rfl⟩ j8
 refine ⟨[x8], rfl, ⟨z8.one, trivial⟩, ?_⟩
 have lz8 := Heap.le_trans lz j8
 repeat (first | refine aa ?_ | refine af ?_)
 intro hc
 obtain ⟨H9, g9, k9, l9⟩ := hy.freeze (X := []) (hc.perm (by simp))
 have lz9 := Heap.le_trans lz8 l9
 obtain ⟨f1, f2⟩ := IT (p := fun r => !prR id r) (q := fun x => !onR id x) (R := fun r (x : It) => ∃ s, r = [iV x.player, iV x.id, iV x.card, iV x.trig, s] ∧ Sl H9 2 s (x.tgs.map Tg.row)) (fun r x ⟨s, e, _⟩ => by
  rw [e]
  show (!((some x.trig == some (-1)) && (some x.id == some id))) = !onR id x
  simp [onR]) rows b.stack hrl fun i r x a c => by
   obtain ⟨s, e, k⟩ := hit i r x a c
   exact ⟨s, e, k.le lz9⟩
 refine ⟨H9, [], (Ghost.perm (by simp)).trans g9, ⟨⟨w.o, x0, x1, x2, x3, x4, x5, x6, x7, x, w.q, x8, y⟩, rfl, ?_⟩, rfl⟩
 exact ⟨hw.objs.le lz9, ⟨z0.le lz9, z1.le lz9, z2.le lz9, z3.le lz9⟩, ⟨z4.le lz9, z5.le lz9, z6.le lz9, z7.le lz9⟩, ⟨_, hxs.le (Heap.le_trans j8 l9), f1, f2⟩, hw.queue.le lz9, z8.le l9, k9⟩
theorem PU {H : Heap} {v : dr} {b : Bd} (h : BdS H v b) (hB : bdB b) (o : Ob) (ho : o.owner = 0 ∨ o.owner = 1) (z : Int) : Triple PP kK [.agg (am v b).toArray, .agg o.row.toArray, iV z] H [] fun r H' O' => (∃ w, r = .agg (am w (jM b o.owner z o.id)).toArray ∧ BdS H' w (jM b o.owner z o.id)) ∧ O' = [] := by
 refine py (vs := am v b ++ (o.row ++ [iV z])) (by kernel_rfl) (ar (an (h.r [])) (ar (bj o) ⟨rfl, trivial⟩)) ?_
 simp only [kD]
 obtain ⟨b1, ⟨b2, b3, b4, b5⟩, ⟨b6, b7, b8, b9⟩, _⟩ := hB
 refine ae fun r0 => ae fun r1 => ae fun r2 => ?_
 refine aa ?_
 have el : g (am v b ++ (o.row ++ [iV z])) 40 = iV o.owner := rfl
 rw [el]
 rcases ho with ho | ho
 ·rw [ho]
  refine ⟨.i64, 0, rfl, fun _ => ?_, fun e => absurd rfl e⟩
  refine ab _ (aA _ _) (ak (fun hb => ?_) (fun n0 => ?_))
  ·have hz : z = 0 := by simpa using hb
   subst hz
   refine aa (aa ?_)
   refine ei (e := aG) (size := 1) (bytes := 8) (by kernel_rfl) h.s0.lib (by simp [aF]; omega) (by simp [aF]; omega) fun xa Oa H1 lA pa => ?_
   refine ae fun r3 => ?_
   refine ay (rows := aF b.s0.lib) (news := [[iV o.id]]) (O1 := Oa) (O2 := []) (e := aG) (size := 1) (bytes := 8) (by kernel_rfl) (by simp) pa (fun Hf _ hf => Sl.block1 (hf _ List.mem_cons_self) rfl ⟨rfl, trivial⟩) (by simp [aF]; omega) (by simp [aF]; omega) ?_
   intro v' A' H6 l6 hA'
   have hA2 : OSl aG 1 v' (aF (b.s0.lib ++ [o.id])) A' := by rw [aF, List.map_append]; exact hA'
   refine aa (aa (aa (aa ?_)))
   intro hc
   obtain ⟨H9, g9, kz, l9⟩ := hA2.freeze (X := []) (hc.perm (by simp))
   have lz := Heap.le_trans lA (Heap.le_trans l6 l9)
   exact ⟨H9, [], (Ghost.perm (by simp)).trans g9, ⟨{ v with l0 := v' }, rfl, ⟨(h.le lz).objs, ⟨kz, (h.le lz).s0.hand, (h.le lz).s0.field, (h.le lz).s0.grave⟩, (h.le lz).s1, (h.le lz).stack, (h.le lz).queue, (h.le lz).att, (h.le lz).blocks⟩⟩, rfl⟩
  refine ab _ (aA _ _) (ak (fun hb => ?_) (fun n1 => ?_))
  ·have hz : z = 1 := by simpa using hb
   subst hz
   refine aa (aa ?_)
   refine ei (e := aG) (size := 1) (bytes := 8) (by kernel_rfl) h.s0.hand (by simp [aF]; omega) (by simp [aF]; omega) fun xa Oa H1 lA pa => ?_
   refine ae fun r3 => ?_
   refine ay (rows := aF b.s0.hand) (news := [[iV o.id]]) (O1 := Oa) (O2 := []) (e := aG) (size := 1) (bytes := 8) (by kernel_rfl) (by simp) pa (fun Hf _ hf => Sl.block1 (hf _ List.mem_cons_self) rfl ⟨rfl, trivial⟩) (by simp [aF]; omega) (by simp [aF]; omega) ?_
   intro v' A' H6 l6 hA'
   have hA2 : OSl aG 1 v' (aF (b.s0.hand ++ [o.id])) A' := by rw [aF, List.map_append]; exact hA'
   refine aa (aa (aa (aa ?_)))
   intro hc
   obtain ⟨H9, g9, kz, l9⟩ := hA2.freeze (X := []) (hc.perm (by simp))
   have lz := Heap.le_trans lA (Heap.le_trans l6 l9)
   exact ⟨H9, [], (Ghost.perm (by simp)).trans g9, ⟨{ v with h0 := v' }, rfl, ⟨(h.le lz).objs, ⟨(h.le lz).s0.lib, kz, (h.le lz).s0.field, (h.le lz).s0.grave⟩, (h.le lz).s1, (h.le lz).stack, (h.le lz).queue, (h.le lz).att, (h.le lz).blocks⟩⟩, rfl⟩
  refine ab _ (aA _ _) (ak (fun hb => ?_) (fun n2 => ?_))
  ·have hz : z = 2 := by simpa using hb
   subst hz
   refine aa (aa ?_)
   refine ei (e := aG) (size := 1) (bytes := 8) (by kernel_rfl) h.s0.field (by simp [aF]; omega) (by simp [aF]; omega) fun xa Oa H1 lA pa => ?_
   refine ae fun r3 => ?_
   refine ay (rows := aF b.s0.field) (news := [[iV o.id]]) (O1 := Oa) (O2 := []) (e := aG) (size := 1) (bytes := 8) (by kernel_rfl) (by simp) pa (fun Hf _ hf => Sl.block1 (hf _ List.mem_cons_self) rfl ⟨rfl, trivial⟩) (by simp [aF]; omega) (by simp [aF]; omega) ?_
   intro v' A' H6 l6 hA'
   have hA2 : OSl aG 1 v' (aF (b.s0.field ++ [o.id])) A' := by rw [aF, List.map_append]; exact hA'
   refine aa (aa (aa (aa ?_)))
   intro hc
   obtain ⟨H9, g9, kz, l9⟩ := hA2.freeze (X := []) (hc.perm (by simp))
   have lz := Heap.le_trans lA (Heap.le_trans l6 l9)
   exact ⟨H9, [], (Ghost.perm (by simp)).trans g9, ⟨{ v with f0 := v' }, rfl, ⟨(h.le lz).objs, ⟨(h.le lz).s0.lib, (h.le lz).s0.hand, kz, (h.le lz).s0.grave⟩, (h.le lz).s1, (h.le lz).stack, (h.le lz).queue, (h.le lz).att, (h.le lz).blocks⟩⟩, rfl⟩
  refine ab _ (aA _ _) (ak (fun hb => ?_) (fun n3 => ?_))
  ·have hz : z = 3 := by simpa using hb
   subst hz
   refine aa (aa ?_)
   refine ei (e := aG) (size := 1) (bytes := 8) (by kernel_rfl) h.s0.grave (by simp [aF]; omega) (by simp [aF]; omega) fun xa Oa H1 lA pa => ?_
   refine ae fun r3 => ?_
   refine ay (rows := aF b.s0.grave) (news := [[iV o.id]]) (O1 := Oa) (O2 := []) (e := aG) (size := 1) (bytes := 8) (by kernel_rfl) (by simp) pa (fun Hf _ hf => Sl.block1 (hf _ List.mem_cons_self) rfl ⟨rfl, trivial⟩) (by simp [aF]; omega) (by simp [aF]; omega) ?_
   intro v' A' H6 l6 hA'
   have hA2 : OSl aG 1 v' (aF (b.s0.grave ++ [o.id])) A' := by rw [aF, List.map_append]; exact hA'
   refine aa (aa (aa (aa ?_)))
   intro hc
   obtain ⟨H9, g9, kz, l9⟩ := hA2.freeze (X := []) (hc.perm (by simp))
   have lz := Heap.le_trans lA (Heap.le_trans l6 l9)
   exact ⟨H9, [], (Ghost.perm (by simp)).trans g9, ⟨{ v with g0 := v' }, rfl, ⟨(h.le lz).objs, ⟨(h.le lz).s0.lib, (h.le lz).s0.hand, (h.le lz).s0.field, kz⟩, (h.le lz).s1, (h.le lz).stack, (h.le lz).queue, (h.le lz).att, (h.le lz).blocks⟩⟩, rfl⟩
  refine aa (aa (aa ?_))
  have e : jM b 0 z o.id = b := by
   have n0 : ¬ z = 0 := by simpa using n0
   have n1 : ¬ z = 1 := by simpa using n1
   have n2 : ¬ z = 2 := by simpa using n2
   have n3 : ¬ z = 3 := by simpa using n3
   simp only [jM, Do, n0, n1, n2, n3, if_false]
   rfl
  rw [e]
  exact ah ⟨⟨v, rfl, h⟩, rfl⟩
 ·rw [ho]
  refine ⟨.i64, 1, rfl, fun e => absurd e (by omega), fun _ => ⟨.i64, 1, rfl, fun _ => ?_, fun e => absurd rfl e⟩⟩
  refine ab _ (aA _ _) (ak (fun hb => ?_) (fun n0 => ?_))
  ·have hz : z = 0 := by simpa using hb
   subst hz
   refine aa (aa ?_)
   refine ei (e := aG) (size := 1) (bytes := 8) (by kernel_rfl) h.s1.lib (by simp [aF]; omega) (by simp [aF]; omega) fun xa Oa H1 lA pa => ?_
   refine ae fun r3 => ?_
   refine ay (rows := aF b.s1.lib) (news := [[iV o.id]]) (O1 := Oa) (O2 := []) (e := aG) (size := 1) (bytes := 8) (by kernel_rfl) (by simp) pa (fun Hf _ hf => Sl.block1 (hf _ List.mem_cons_self) rfl ⟨rfl, trivial⟩) (by simp [aF]; omega) (by simp [aF]; omega) ?_
   intro v' A' H6 l6 hA'
   have hA2 : OSl aG 1 v' (aF (b.s1.lib ++ [o.id])) A' := by rw [aF, List.map_append]; exact hA'
   refine aa (aa (aa (aa ?_)))
   intro hc
   obtain ⟨H9, g9, kz, l9⟩ := hA2.freeze (X := []) (hc.perm (by simp))
   have lz := Heap.le_trans lA (Heap.le_trans l6 l9)
   exact ⟨H9, [], (Ghost.perm (by simp)).trans g9, ⟨{ v with l1 := v' }, rfl, ⟨(h.le lz).objs, (h.le lz).s0, ⟨kz, (h.le lz).s1.hand, (h.le lz).s1.field, (h.le lz).s1.grave⟩, (h.le lz).stack, (h.le lz).queue, (h.le lz).att, (h.le lz).blocks⟩⟩, rfl⟩
  refine ab _ (aA _ _) (ak (fun hb => ?_) (fun n1 => ?_))
  ·have hz : z = 1 := by simpa using hb
   subst hz
   refine aa (aa ?_)
   refine ei (e := aG) (size := 1) (bytes := 8) (by kernel_rfl) h.s1.hand (by simp [aF]; omega) (by simp [aF]; omega) fun xa Oa H1 lA pa => ?_
   refine ae fun r3 => ?_
   refine ay (rows := aF b.s1.hand) (news := [[iV o.id]]) (O1 := Oa) (O2 := []) (e := aG) (size := 1) (bytes := 8) (by kernel_rfl) (by simp) pa (fun Hf _ hf => Sl.block1 (hf _ List.mem_cons_self) rfl ⟨rfl, trivial⟩) (by simp [aF]; omega) (by simp [aF]; omega) ?_
   intro v' A' H6 l6 hA'
   have hA2 : OSl aG 1 v' (aF (b.s1.hand ++ [o.id])) A' := by rw [aF, List.map_append]; exact hA'
   refine aa (aa (aa (aa ?_)))
   intro hc
   obtain ⟨H9, g9, kz, l9⟩ := hA2.freeze (X := []) (hc.perm (by simp))
   have lz := Heap.le_trans lA (Heap.le_trans l6 l9)
   exact ⟨H9, [], (Ghost.perm (by simp)).trans g9, ⟨{ v with h1 := v' }, rfl, ⟨(h.le lz).objs, (h.le lz).s0, ⟨(h.le lz).s1.lib, kz, (h.le lz).s1.field, (h.le lz).s1.grave⟩, (h.le lz).stack, (h.le lz).queue, (h.le lz).att, (h.le lz).blocks⟩⟩, rfl⟩
  refine ab _ (aA _ _) (ak (fun hb => ?_) (fun n2 => ?_))
  ·have hz : z = 2 := by simpa using hb
   subst hz
   refine aa (aa ?_)
   refine ei (e := aG) (size := 1) (bytes := 8) (by kernel_rfl) h.s1.field (by simp [aF]; omega) (by simp [aF]; omega) fun xa Oa H1 lA pa => ?_
   refine ae fun r3 => ?_
   refine ay (rows := aF b.s1.field) (news := [[iV o.id]]) (O1 := Oa) (O2 := []) (e := aG) (size := 1) (bytes := 8) (by kernel_rfl) (by simp) pa (fun Hf _ hf => Sl.block1 (hf _ List.mem_cons_self) rfl ⟨rfl, trivial⟩) (by simp [aF]; omega) (by simp [aF]; omega) ?_
   intro v' A' H6 l6 hA'
   have hA2 : OSl aG 1 v' (aF (b.s1.field ++ [o.id])) A' := by rw [aF, List.map_append]; exact hA'
   refine aa (aa (aa (aa ?_)))
   intro hc
   obtain ⟨H9, g9, kz, l9⟩ := hA2.freeze (X := []) (hc.perm (by simp))
   have lz := Heap.le_trans lA (Heap.le_trans l6 l9)
   exact ⟨H9, [], (Ghost.perm (by simp)).trans g9, ⟨{ v with f1 := v' }, rfl, ⟨(h.le lz).objs, (h.le lz).s0, ⟨(h.le lz).s1.lib, (h.le lz).s1.hand, kz, (h.le lz).s1.grave⟩, (h.le lz).stack, (h.le lz).queue, (h.le lz).att, (h.le lz).blocks⟩⟩, rfl⟩
  refine ab _ (aA _ _) (ak (fun hb => ?_) (fun n3 => ?_))
  ·have hz : z = 3 := by simpa using hb
   subst hz
   refine aa (aa ?_)
   refine ei (e := aG) (size := 1) (bytes := 8) (by kernel_rfl) h.s1.grave (by simp [aF]; omega) (by simp [aF]; omega) fun xa Oa H1 lA pa => ?_
   refine ae fun r3 => ?_
   refine ay (rows := aF b.s1.grave) (news := [[iV o.id]]) (O1 := Oa) (O2 := []) (e := aG) (size := 1) (bytes := 8) (by kernel_rfl) (by simp) pa (fun Hf _ hf => Sl.block1 (hf _ List.mem_cons_self) rfl ⟨rfl, trivial⟩) (by simp [aF]; omega) (by simp [aF]; omega) ?_
   intro v' A' H6 l6 hA'
   have hA2 : OSl aG 1 v' (aF (b.s1.grave ++ [o.id])) A' := by rw [aF, List.map_append]; exact hA'
   refine aa (aa (aa (aa ?_)))
   intro hc
   obtain ⟨H9, g9, kz, l9⟩ := hA2.freeze (X := []) (hc.perm (by simp))
   have lz := Heap.le_trans lA (Heap.le_trans l6 l9)
   exact ⟨H9, [], (Ghost.perm (by simp)).trans g9, ⟨{ v with g1 := v' }, rfl, ⟨(h.le lz).objs, (h.le lz).s0, ⟨(h.le lz).s1.lib, (h.le lz).s1.hand, (h.le lz).s1.field, kz⟩, (h.le lz).stack, (h.le lz).queue, (h.le lz).att, (h.le lz).blocks⟩⟩, rfl⟩
  refine aa (aa (aa ?_))
  have e : jM b 1 z o.id = b := by
   have n0 : ¬ z = 0 := by simpa using n0
   have n1 : ¬ z = 1 := by simpa using n1
   have n2 : ¬ z = 2 := by simpa using n2
   have n3 : ¬ z = 3 := by simpa using n3
   simp only [jM, Do, n0, n1, n2, n3, if_false]
   rfl
  rw [e]
  exact ah ⟨⟨v, rfl, h⟩, rfl⟩
theorem OE {b : Bd} (h : bdB b) (id : Int) : bdB (EL b id) := by
 have := Lr h id
 exact ⟨this.1, this.2.1, this.2.2.1, ⟨Nat.le_trans (List.length_filter_le _ _) h.2.2.2.1.1, fun x hx => h.2.2.2.1.2 x (List.mem_filter.1 hx).1⟩, this.2.2.2.2⟩
theorem MA {b : Bd} (h : bdB b) (k : Nat) (o : Ob) : bdB (du b k o) := ⟨by simpa [du] using h.1, h.2⟩
def F2 (b : Bd) (k : Nat) (o : Ob) (z : Int) : Bd := jM (du (EL b o.id) k o) o.owner z o.id
theorem OA {H : Heap} {v : dr} {b : Bd} (h : BdS H v b) (hB : bdB b) {k : Nat} {o : Ob} (hk : b.objs[k]? = some o) (hidx : oh b o.id = k) (ho : o.owner = 0 ∨ o.owner = 1) (z : Int) :
  Triple PP gq [.agg (am v b).toArray, iV o.id, iV z] H [] fun r H' O' => (∃ w, r = .agg (am w (F2 b k (bm o z) z)).toArray ∧ BdS H' w (F2 b k (bm o z) z)) ∧ O' = [] := by
 refine nE (vs := am v b ++ [iV o.id, iV z]) (by kernel_rfl) (ar (an (h.r [])) ⟨rfl, rfl, trivial⟩) ?_
 simp only [jX]
 refine ae fun r0 => ae fun r1 => ?_
 refine aa (aa ?_)
 refine ai (HE (h.r []) o.id) rfl ⟨rfl, trivial⟩ fun H1 l1 => ?_
 rw [hidx]
 replace h := h.le l1
 obtain ⟨a, h1, h2, _, h3, h4⟩ := (h.r []).objs.idx .i64 k (Ob.row o) (by rw [List.getElem?_map, hk]; rfl)
 refine ab _ h1 (ax h2 h3 h4 ?_)
 refine ai (MJ o z H1 []) rfl (vs := (bm o z).row) (bj _) fun H2 l2 => ae fun r2 => ?_
 replace h := h.le l2
 refine aa (aa (aa (aa ?_)))
 refine ao (PV h hB o.id) ?_
 rintro _ H3 _ ⟨⟨w1, rfl, hw1⟩, rfl⟩ l3
 refine ⟨am w1 (EL b o.id), rfl, an (hw1.r []), ?_⟩
 have hB1 := OE hB o.id
 refine ao (PT hw1 hB1 (bm o z)) ?_
 have hset : JB (EL b o.id) (bm o z) = du (EL b o.id) k (bm o z) := by
  have : oh (EL b o.id) (bm o z).id = k := hidx
  simp only [JB, this, Int.toNat_natCast]
  rw [if_pos (by omega)]
 rw [hset]
 rintro _ H4 _ ⟨⟨w2, rfl, hw2⟩, rfl⟩ l4
 refine ⟨am w2 (du (EL b o.id) k (bm o z)), rfl, an (hw2.r []), ?_⟩
 refine ao (PU hw2 (MA hB1 _ _) (bm o z) ho z) ?_
 rintro _ H5 _ ⟨⟨w3, rfl, hw3⟩, rfl⟩ l5
 refine ⟨am w3 _, rfl, an (hw3.r []), ?_⟩
 refine aa (aa ?_)
 exact ah ⟨⟨w3, rfl, hw3⟩, rfl⟩
theorem Kw {H : Heap} {O : Own} {v : Value} {ks : List Int} (h : KindS H v ks) (c : Int) :
  (∃ x : Bool, (x = true ↔ (c < 0 ∨ c ≥ (ks.length : Int))) ∧ aj .len [v] = some (iV ks.length) ∧ x = (decide (c < 0) || decide (c ≥ (ks.length : Int)))) ∧
  (¬ (c < 0 ∨ c ≥ (ks.length : Int)) → ∃ a r, aj (.idx 14) [v, iV c] = some (.pointer (some a)) ∧ H.read (.pointer (some a)) 14 = some r ∧ r.length = 14 ∧ Ones r ∧ g r 1 = iV (BD ks c)) := by
 obtain ⟨rows, h1, h2, h3⟩ := h
 refine ⟨⟨_, ?_, ?_, rfl⟩, fun hn => ?_⟩
 ·simp
 ·have := h1.len; rw [this, h2]
 ·have hlt : c.toNat < rows.length := by omega
  obtain ⟨a, k1, k2, k3, k4⟩ := h1.idx (k := .i64) (i := c.toNat) (List.getElem?_eq_getElem hlt)
  have hk : ks[c.toNat]? = some (ks.getD c.toNat 0) := by
   rw [List.getD_eq_getElem?_getD, List.getElem?_eq_getElem (by omega)]; rfl
  have e := h3 c.toNat _ _ (List.getElem?_eq_getElem hlt) hk
  refine ⟨a, _, ?_, k2, k3, k4, ?_⟩
  ·rw [show iV c = iV (c.toNat : Int) by rw [Int.toNat_of_nonneg (by omega)]]; exact k1
  ·rw [e, BD, if_neg hn]
theorem zB {r : List Value} (h : r.length = 14) : ([g r 0, g r 1, g r 2, g r 3, g r 4, g r 5, g r 6, g r 7, g r 8, g r 9, g r 10, g r 11, g r 12, g r 13] : List Value) = r := Ez h
abbrev GO : List Value := [.string ⟨#[]⟩, iV 0, iV 0, iV 0, iV 0, iV 0, iV 0, iV 0, iV 0, iV 0, iV 0, .slice none 0 0, .slice none 0 0, iV 0]
def Qq (ks : List Int) (c : Int) (r : Value) (_ : Heap) : Prop := ∃ cells : List Value, r = .agg cells.toArray ∧ cells.length = 14 ∧ Ones cells ∧ g cells 1 = iV (BD ks c)
theorem OS {H : Heap} {O : Own} {v : Value} {ks : List Int} (h : KindS H v ks) (o : Ob) : Triple PP jz [v, .agg o.row.toArray] H O fun r H' O' => Qq ks o.card r H' ∧ O' = O := by
 refine jK (vs := v :: o.row) (by kernel_rfl) ⟨h.one, bj o⟩ ?_
 simp only [jw]
 obtain ⟨⟨x, hx, hlen, ex⟩, hlook⟩ := Kw (O := O) h o.card
 refine ae fun r0 => ae fun r1 => ?_
 refine aa ?_
 refine ab _ (aN _ _) ?_
 refine aa (af (af ?_))
 refine ab _ hlen ?_
 refine af (af (ab _ (og _ _) (af (ab _ (aM _ _) ?_))))
 refine ak (fun hb => ?_) (fun hb => ?_)
 ·have hb : (decide (o.card < 0) || decide (o.card ≥ (ks.length : Int))) = true := hb
  rw [← ex] at hb
  refine aa (aa ?_)
  refine ah ⟨⟨GO, rfl, rfl, ⟨rfl, rfl, rfl, rfl, rfl, rfl, rfl, rfl, rfl, rfl, rfl, rfl, rfl, rfl, trivial⟩, ?_⟩, rfl⟩
  rw [BD, if_pos (hx.1 hb)]; rfl
 ·have hb : (decide (o.card < 0) || decide (o.card ≥ (ks.length : Int))) = false := hb
  rw [← ex] at hb
  obtain ⟨a, r, k1, k2, k3, k4, k5⟩ := hlook (fun e => by rw [hx.2 e] at hb; cases hb)
  refine aa ?_
  refine ab _ k1 (ax (iC k2) k3 k4 ?_)
  refine aa (aa ?_)
  exact ah ⟨⟨r, by rw [← zB k3]; rfl, k3, k4, k5⟩, rfl⟩
theorem zb {H : Heap} {O : Own} {v : Value} {ks : List Int} (h : KindS H v ks) (o : Ob) : RetO PP lW [v, .agg o.row.toArray] H O (.bool (rO ks o)) := by
 refine qI (vs := v :: o.row) (by kernel_rfl) ⟨h.one, bj o⟩ ?_
 simp only [lR]
 refine ae fun r0 => ?_
 refine aa ?_
 refine ab _ (aA _ _) (ak (fun hb => ah ⟨?_, rfl⟩) (fun hb => ?_))
 ·have hb : (o.card == -1) = true := hb
  rw [rO, hb]; rfl
 ·have hb : (o.card == -1) = false := hb
  refine aa ?_
  refine xx (OS h o) ?_
  rintro _ H1 ⟨cells, rfl, k1, k2, k3⟩ l1
  refine ⟨cells, by simp [Shp.open, k1], k2, ?_⟩
  dsimp only
  rw [k3]
  refine ab _ (aA _ _) ?_
  refine ah ⟨?_, rfl⟩
  rw [rO, hb]; rfl
def vn (ks : List Int) (b : Bd) (p : Int) (o : Ob) : Bool := o.owner == p && (rO ks o && (au b p).field.contains o.id)
def ia (ks : List Int) (b : Bd) (p : Int) : List Int := if (ap p 0 1 && al b) = true then (b.objs.filter (vn ks b p)).map (·.id) else []
theorem CE {H : Heap} {cv : Value} {ks : List Int} (hk : KindS H cv ks) {v : dr} {b : Bd} (h : BdS H v b) (p : Int) :
  Triple PP iu [cv, .agg (am v b).toArray, iV p] H [] fun r _ O' => OSl aG 1 r (aF (ia ks b p)) O' := by
 refine qL (vs := cv :: (am v b ++ [iV p])) (by kernel_rfl) ⟨hk.one, ar (an (h.r [])) ⟨rfl, trivial⟩⟩ ?_
 simp only [lU]
 refine ae fun r0 => ?_
 refine ai (cw p 0 1 H []) rfl ⟨rfl, trivial⟩ fun H1 l1 => ab _ (aB _) (ak (fun hb => ?_) (fun hb => ?_))
 ·have e : ia ks b p = [] := by rw [ia, if_neg]; rw [show ap p 0 1 = false from rG hb]; simp
  rw [e]
  exact ah (OSl.nil _ _)
 have hw : ap p 0 1 = true := sO hb
 replace h := h.le l1
 replace hk := hk.le l1
 refine aa ?_
 refine ai (cz (h.r [])) rfl ⟨rfl, trivial⟩ fun H2 l2 => ab _ (aB _) (ak (fun hb => ?_) (fun hb => ?_))
 ·have e : ia ks b p = [] := by rw [ia, if_neg]; rw [show al b = false from rG hb]; simp
  rw [e]
  exact ah (OSl.nil _ _)
 have hv : al b = true := sO hb
 have hobl := rf hv
 have e : ia ks b p = (b.objs.filter (vn ks b p)).map (·.id) := by rw [ia, if_pos (by rw [hw, hv]; rfl)]
 rw [e]
 clear hb e
 replace h := h.le l2
 replace hk := hk.le l2
 have lo := h.objs.len
 rw [List.length_map] at lo
 have hp : p = 0 ∨ p = 1 := by simp only [ap, decide_eq_true_eq] at hw; omega
 refine aa ?_
 refine ab _ lo ?_
 refine iq b.objs.length (fun i x H' O' => Heap.le H2 H' ∧ OSl aG 1 x (aF (((b.objs.take i).filter (vn ks b p)).map (·.id))) O') ⟨Heap.le_refl _, OSl.nil _ _⟩ ?_
 rintro i x H' O' hi - ⟨hle, hx⟩
 refine ab _ (aN _ _) (ak (fun hb => ?_) (fun hb => ?_))
 ·have hlt : i < b.objs.length := by simpa using hb
  obtain ⟨a, i1, i2, i3, i4⟩ := (h.objs.le hle).idx (k := .i64) (i := i) (r := Ob.row b.objs[i]) (by simp [hlt])
  have hft := jQ (p := vn ks b p) hlt
  have hnot : vn ks b p b.objs[i] = false → ∀ H3, Heap.le H' H3 → (Heap.le H2 H3 ∧ OSl aG 1 x (aF (((b.objs.take (i + 1)).filter (vn ks b p)).map (·.id))) O') := fun hn H3 l3 => by
   rw [hft, if_neg (by rw [hn]; simp), List.append_nil]; exact ⟨Heap.le_trans hle l3, hx⟩
  refine ab _ i1 (fL i2 i3 i4 (ae fun r1 => ?_))
  refine aa (aa ?_)
  refine ab _ (aA _ _) ?_
  refine ak (fun h1 => ?_) (fun h1 => ?_)
  ·have h1 : (b.objs[i].owner == p) = true := h1
   refine aa ?_
   refine ai (zb (hk.le hle) b.objs[i]) rfl ⟨rfl, trivial⟩ fun H3 l3 => ak (fun h2 => ?_) (fun h2 => ?_)
   ·have lz := Heap.le_trans hle l3
    rcases hp with rfl | rfl
    ·refine ⟨.i64, 0, rfl, fun _ => ?_, fun e => absurd rfl e⟩
     refine aa (aa ?_)
     refine ai (dU (((h.s0.field).le lz).rsl O') b.objs[i].id) rfl ⟨rfl, trivial⟩ fun H4 l4 => ak (fun h3 => ?_) (fun h3 => ?_)
     ·have hcr : vn ks b 0 b.objs[i] = true := by rw [vn, h1, h2]; exact h3
      have hlen : ((b.objs.take i).filter (vn ks b 0)).length ≤ 1000000 := Nat.le_trans (List.length_filter_le _ _) (by rw [List.length_take]; omega)
      refine aa ?_
      refine ae fun r2 => ?_
      refine ay (rows := aF (((b.objs.take i).filter (vn ks b 0)).map fun o : Ob => o.id)) (news := [[iV b.objs[i].id]]) (O1 := O') (O2 := []) (e := aG) (size := 1) (bytes := 8) (by kernel_rfl) (by simp) hx (fun Hf _ hf => Sl.block1 (hf _ List.mem_cons_self) rfl ⟨rfl, trivial⟩) (by simp [aF]; omega) (by simp [aF]; omega) ?_
      intro v' A' H6 l6 hA'
      refine ab _ (aD (by omega)) (bf (by simp [Eqs]) hlt ⟨Heap.le_trans lz (Heap.le_trans l4 l6), ?_⟩)
      rw [List.append_nil, hft, if_pos hcr, List.map_append, aF, List.map_append]; exact hA'
     ·have hcr : vn ks b 0 b.objs[i] = false := by rw [vn, h1, h2]; exact h3
      exact ab _ (aD (by omega)) (bf (by simp [Eqs]) hlt (hnot hcr _ (Heap.le_trans l3 l4)))
    ·refine ⟨.i64, 1, rfl, fun e => absurd e (by omega), fun _ => ⟨.i64, 1, rfl, fun _ => ?_, fun e => absurd rfl e⟩⟩
     refine aa (aa ?_)
     refine ai (dU (((h.s1.field).le lz).rsl O') b.objs[i].id) rfl ⟨rfl, trivial⟩ fun H4 l4 => ak (fun h3 => ?_) (fun h3 => ?_)
     ·have hcr : vn ks b 1 b.objs[i] = true := by rw [vn, h1, h2]; exact h3
      have hlen : ((b.objs.take i).filter (vn ks b 1)).length ≤ 1000000 := Nat.le_trans (List.length_filter_le _ _) (by rw [List.length_take]; omega)
      refine aa ?_
      refine ae fun r2 => ?_
      refine ay (rows := aF (((b.objs.take i).filter (vn ks b 1)).map fun o : Ob => o.id)) (news := [[iV b.objs[i].id]]) (O1 := O') (O2 := []) (e := aG) (size := 1) (bytes := 8) (by kernel_rfl) (by simp) hx (fun Hf _ hf => Sl.block1 (hf _ List.mem_cons_self) rfl ⟨rfl, trivial⟩) (by simp [aF]; omega) (by simp [aF]; omega) ?_
      intro v' A' H6 l6 hA'
      refine ab _ (aD (by omega)) (bf (by simp [Eqs]) hlt ⟨Heap.le_trans lz (Heap.le_trans l4 l6), ?_⟩)
      rw [List.append_nil, hft, if_pos hcr, List.map_append, aF, List.map_append]; exact hA'
     ·have hcr : vn ks b 1 b.objs[i] = false := by rw [vn, h1, h2]; exact h3
      exact ab _ (aD (by omega)) (bf (by simp [Eqs]) hlt (hnot hcr _ (Heap.le_trans l3 l4)))
   ·have hcr : vn ks b p b.objs[i] = false := by rw [vn, h1, h2]; rfl
    exact ab _ (aD (by omega)) (bf (by simp [Eqs]) hlt (hnot hcr _ l3))
  ·have h1 : (b.objs[i].owner == p) = false := h1
   have hcr : vn ks b p b.objs[i] = false := by rw [vn, h1]; rfl
   exact ab _ (aD (by omega)) (bf (by simp [Eqs]) hlt (hnot hcr _ (Heap.le_refl _)))
 ·have hge : b.objs.length ≤ i := by simpa using hb
  rw [List.take_of_length_le hge] at hx
  exact ah hx
theorem D3 {H : Heap} {cv : Value} {ks : List Int} (hk : KindS H cv ks) {v : dr} {b : Bd} (h : BdS H v b) (p : Int) :
  Triple PP iu [cv, .agg (am v b).toArray, iV p] H [] fun r H' O' => Sl H' 1 r (aF (ia ks b p)) ∧ O' = [] := Triple.frozenS (CE hk h p)
theorem ku : ∀ {l : List Ob} {prev : Option Int}, Au prev l = true → (l.map (·.id)).Pairwise (· < ·)
 | [], _, _ => List.Pairwise.nil
 | a :: l, prev, h => by
  simp only [Au, Bool.and_eq_true] at h
  rw [List.map_cons, List.pairwise_cons]
  refine ⟨fun x hx => ?_, ku h.2⟩
  obtain ⟨o, ho, rfl⟩ := List.mem_map.1 hx
  exact (nW h.2).1 o ho _ rfl
theorem QA (H : Heap) : CdR H GO zCd := ⟨rfl, EffsS.nil H, TrigsS.nil H⟩
theorem Ik {H : Heap} {v : Value} {cs : List Cd} (h : CardsS H v cs) (c : Int) (hn : ¬ (c < 0 ∨ c ≥ (cs.length : Int))) :
  ∃ a r, aj (.idx 14) [v, iV c] = some (.pointer (some a)) ∧ H.read (.pointer (some a)) 14 = some r ∧ r.length = 14 ∧ Ones r ∧ CdR H r (B9 cs c) := by
 obtain ⟨rows, h1, h2, h3⟩ := h
 have hlt : c.toNat < rows.length := by omega
 obtain ⟨a, k1, k2, k3, k4⟩ := h1.idx (k := .i64) (i := c.toNat) (List.getElem?_eq_getElem hlt)
 have hk : cs[c.toNat]? = some (B9 cs c) := by
  rw [B9, if_neg hn, List.getD_eq_getElem?_getD, List.getElem?_eq_getElem (by omega)]; rfl
 refine ⟨a, _, ?_, k2, k3, k4, h3 c.toNat _ _ (List.getElem?_eq_getElem hlt) hk⟩
 rw [show iV c = iV (c.toNat : Int) by rw [Int.toNat_of_nonneg (by omega)]]; exact k1
def Qr (cs : List Cd) (c : Int) (v : Value) (H : Heap) : Prop := ∃ cells : List Value, v = .agg cells.toArray ∧ cells.length = 14 ∧ Ones cells ∧ CdR H cells (B9 cs c)
theorem NN {H : Heap} {O : Own} {v : Value} {cs : List Cd} (h : CardsS H v cs) (o : Ob) : Triple PP jz [v, .agg o.row.toArray] H O fun r H' O' => Qr cs o.card r H' ∧ O' = O := by
 refine jK (vs := v :: o.row) (by kernel_rfl) ⟨h.one, bj o⟩ ?_
 simp only [jw]
 refine ae fun r0 => ae fun r1 => ?_
 refine aa ?_
 refine ab _ (aN _ _) ?_
 refine aa (af (af ?_))
 refine ab _ h.len ?_
 refine af (af (ab _ (og _ _) (af (ab _ (aM _ _) ?_))))
 refine ak (fun hb => ?_) (fun hb => ?_)
 ·have hb : (decide (o.card < 0) || decide (o.card ≥ (cs.length : Int))) = true := hb
  refine aa (aa ?_)
  refine ah ⟨⟨GO, rfl, rfl, ⟨rfl, rfl, rfl, rfl, rfl, rfl, rfl, rfl, rfl, rfl, rfl, rfl, rfl, rfl, trivial⟩, ?_⟩, rfl⟩
  rw [B9, if_pos (by simpa using hb)]; exact QA H
 ·have hb : (decide (o.card < 0) || decide (o.card ≥ (cs.length : Int))) = false := hb
  obtain ⟨a, r, k1, k2, k3, k4, k5⟩ := Ik h o.card (by simpa [Bool.or_eq_false_iff] using hb)
  refine aa ?_
  refine ab _ k1 (ax (iC k2) k3 k4 ?_)
  refine aa (aa ?_)
  exact ah ⟨⟨r, by rw [← zB k3]; rfl, k3, k4, k5⟩, rfl⟩
theorem vG {H : Heap} {v : Value} {l : List (List Value)} (h : Sl H 5 v l) (hb : l.length ≤ 2 ^ 30) : Triple PP dq [v] H [] fun v' H' O' => OSl dQ 5 v' l O' := by
 refine fK (vs := [v]) (by kernel_rfl) ⟨h.one, trivial⟩ ?_
 simp only [dj]
 obtain ⟨a, cap, rfl, h1, h2, h3⟩ := h
 have hev : aj (.bin .eql .slice) [.slice a l.length cap, .slice none 0 0] = some (.bool a.isNone) := by cases a <;> rfl
 refine ab _ hev (ak (fun hn => ah ?_) (fun hn => fun r0 => ?_))
 ·have hl : l = [] := by
   by_cases hl : l = []
   ·exact hl
   ·obtain ⟨ad, rfl, _⟩ := h3 hl; cases hn
  subst hl
  exact OSl.nil dQ 5
 ·refine ay (rows := []) (news := l) (O1 := []) (O2 := []) (e := dQ) (size := 5) (bytes := 40) (by kernel_rfl) (List.Perm.refl _) (.inl ⟨⟨_, rfl⟩, rfl, rfl⟩) (fun Hf hl _ => Sl.le hl ⟨a, cap, rfl, h1, h2, h3⟩) (by simp; omega) (by simp; omega) ?_
  intro v' O1' H' _ ho
  refine ah ?_
  rw [List.append_nil]
  exact ho
theorem E9 {H : Heap} {v : Value} {l : List (List Value)} (h : Sl H 2 v l) (hb : l.length ≤ 2 ^ 30) : Triple PP cN [v] H [] fun v' H' O' => OSl eM 2 v' l O' := by
 refine fg (vs := [v]) (by kernel_rfl) ⟨h.one, trivial⟩ ?_
 simp only [cL]
 obtain ⟨a, cap, rfl, h1, h2, h3⟩ := h
 have hev : aj (.bin .eql .slice) [.slice a l.length cap, .slice none 0 0] = some (.bool a.isNone) := by cases a <;> rfl
 refine ab _ hev (ak (fun hn => ah ?_) (fun hn => fun r0 => ?_))
 ·have hl : l = [] := by
   by_cases hl : l = []
   ·exact hl
   ·obtain ⟨ad, rfl, _⟩ := h3 hl; cases hn
  subst hl
  exact OSl.nil eM 2
 ·refine ay (rows := []) (news := l) (O1 := []) (O2 := []) (e := eM) (size := 2) (bytes := 32) (by kernel_rfl) (List.Perm.refl _) (.inl ⟨⟨_, rfl⟩, rfl, rfl⟩) (fun Hf hl _ => Sl.le hl ⟨a, cap, rfl, h1, h2, h3⟩) (by simp; omega) (by simp; omega) ?_
  intro v' O1' H' _ ho
  refine ah ?_
  rw [List.append_nil]
  exact ho
def Pv (c : Cd) (v : Value) (H : Heap) : Prop := ∃ cells : List Value, v = .agg cells.toArray ∧ cells.length = 14 ∧ Ones cells ∧ g cells 1 = iV c.kind ∧ EffsS H (g cells 11) c.tg
theorem cX {l : List Value} (h : Ones l) {i : Nat} (hi : i < l.length) : (g l i).oneCell' = true := by
 rw [g, List.getD_eq_getElem?_getD, List.getElem?_eq_getElem hi]
 exact iw h _ (List.getElem_mem hi)
theorem Gz {H : Heap} {cells : List Value} {c : Cd} (h : CdR H cells c) (hl : cells.length = 14) (ho : Ones cells) (hli : mF c = true) :
  Triple PP qY [.agg cells.toArray] H [] fun r H' O' => Pv c r H' ∧ O' = [] := by
 simp only [mF, Bool.and_eq_true, Bool.not_eq_true', Bool.or_eq_false_iff, decide_eq_false_iff_not, List.all_eq_true] at hli
 obtain ⟨⟨b1, b2⟩, b3⟩ := hli
 obtain ⟨hk, ⟨erows, e1, e2, e3⟩, ⟨trows, t1, t2, t3⟩⟩ := h
 refine rz (vs := cells) (by rw [← zB hl]; kernel_rfl) ho ?_
 simp only [qX]
 refine ae fun r0 => ae fun r1 => ?_
 refine aa (aa ?_)
 refine ao (Triple.frozenS (vG e1 (by omega))) ?_
 rintro x H1 _ ⟨hx, rfl⟩ l1
 refine ⟨[x], rfl, ⟨hx.one, trivial⟩, ?_⟩
 refine ao (E9 (t1.le l1) (by omega)) fun y H2 O2 hy l2 => ⟨[y], rfl, ⟨hy.one, trivial⟩, ?_⟩
 have ylen := hy.len
 rw [t2] at ylen
 refine aa (aa (aa ?_))
 refine ab _ ylen ?_
 refine bh c.tr.length (fun i H' O' => Heap.le H2 H' ∧ ∃ rows' A, O'.Perm A ∧ OSl eM 2 y rows' A ∧ rows'.length = c.tr.length ∧ ∀ j, i ≤ j → rows'[j]? = trows[j]?) ⟨Heap.le_refl _, trows, O2, by simp, hy, t2, fun _ _ => rfl⟩ ?_
 rintro i H' O' hi - ⟨hle, rows', A, hp, hA, hrl, hrest⟩
 refine ab _ (aN _ _) (ak (fun hb => ?_) (fun hb => ?_))
 ·have hlt : i < c.tr.length := by simpa using hb
  have hri : rows'[i]? = some trows[i] := by rw [hrest i (Nat.le_refl _)]; exact List.getElem?_eq_getElem (by omega)
  obtain ⟨er, k1, k2⟩ := t3 i trows[i] c.tr[i] (List.getElem?_eq_getElem (by omega)) (List.getElem?_eq_getElem hlt)
  have hb3 := b3 _ (List.getElem_mem hlt)
  obtain ⟨a, i1, i2, i3, i4⟩ := hA.idx (fun p h => hp.mem_iff.2 h) H' (k := .i64) hri
  obtain ⟨w1, w2⟩ := hA.rows_ok hri
  refine ab _ i1 (ax i3 w1 w2 (ae fun r2 => ?_))
  refine aa (aa (aa ?_))
  refine ao (Triple.frozenS (vG (k1.le (Heap.le_trans l1 (Heap.le_trans l2 hle))) (by rw [k2]; omega))) ?_
  rintro z H3 _ ⟨hz, rfl⟩ l3
  refine ⟨[z], rfl, ⟨hz.one, trivial⟩, ?_⟩
  obtain ⟨a2, j1, j2⟩ := hA.store (O := [] ++ O') (O2 := []) (by simpa using hp) (k := .i64) hri
  obtain ⟨A', hst, hA'⟩ := j2 1 [z] (by simp [w1]) ⟨hz.one, trivial⟩
  refine ab _ j1 ?_
  refine aH rfl (aH rfl ?_)
  refine ⟨_, hst, ?_⟩
  refine ab _ (aD (by omega)) (aS (by simp [Eqs]) hlt ⟨Heap.le_trans hle l3, _, A', by simp, hA', by simp [hrl], fun j hj => ?_⟩)
  rw [List.getElem?_set_ne (by omega)]
  exact hrest j (by omega)
 ·refine aa (aa (aa ?_))
  refine mh ⟨⟨[g cells 0, g cells 1, g cells 2, g cells 3, g cells 4, g cells 5, g cells 6, g cells 7, g cells 8, g cells 9, g cells 10, x, y, g cells 13], rfl, rfl, ?_, hk, ⟨erows, hx.le (Heap.le_trans l2 hle), e2, e3⟩⟩, rfl⟩
  exact ⟨cX ho (by omega), cX ho (by omega), cX ho (by omega), cX ho (by omega), cX ho (by omega), cX ho (by omega), cX ho (by omega), cX ho (by omega), cX ho (by omega), cX ho (by omega), cX ho (by omega), hx.one, hy.one, cX ho (by omega), trivial⟩
theorem Jf {H : Heap} {v : Value} {cs : List Cd} (h : CardsS H v cs) (hli : fu cs = true) (o : Ob) : Triple PP jA [v, .agg o.row.toArray] H [] fun r H' O' => Pv (B9 cs o.card) r H' ∧ O' = [] := by
 refine nL (vs := v :: o.row) (by kernel_rfl) ⟨h.one, bj o⟩ ?_
 simp only [mL]
 refine ae fun r0 => ae fun r1 => ?_
 refine aa ?_
 refine ao (NN (O := []) h o) ?_
 rintro _ H1 _ ⟨⟨cells, rfl, k1, k2, k3⟩, rfl⟩ l1
 refine ⟨cells, by simp [Shp.open, k1], k2, ?_⟩
 have hrow := zB k1
 refine ao (Gz (cells := [g cells 0, g cells 1, g cells 2, g cells 3, g cells 4, g cells 5, g cells 6, g cells 7, g cells 8, g cells 9, g cells 10, g cells 11, g cells 12, g cells 13]) (by rw [hrow]; exact k3) rfl (by rw [hrow]; exact k2) (vz hli _)) ?_
 rintro _ H2 _ ⟨⟨cells2, rfl, m1, m2, m3, m4⟩, rfl⟩ l2
 refine ⟨cells2, by simp [Shp.open, m1], m2, ?_⟩
 refine aa (aa ?_)
 exact ah ⟨⟨cells2, by rw [← zB m1]; rfl, m1, m2, m3, m4⟩, rfl⟩
theorem BW {α : Type} {p : α → Bool} {l : List α} {i : Nat} (h : i < l.length) : ((l.take (i + 1)).filter p).length = ((l.take i).filter p).length + if p l[i] then 1 else 0 := by
 rw [List.take_add_one, List.getElem?_eq_getElem h, List.filter_append, List.length_append]
 congr 1
 by_cases hp : p l[i] <;> simp [hp]
theorem I1 {H : Heap} {O : Own} {v : Value} {tg : List Int} (h : EffsS H v tg) {i : Nat} (hi : i < tg.length) :
  ∃ a r, aj (.idx 5) [v, iV i] = some (.pointer (some a)) ∧ H.read (.pointer (some a)) 5 = some r ∧ r.length = 5 ∧ Ones r ∧ g r 1 = iV tg[i] ∧ Reads H O (bz (.pointer (some a)) 1) 1 [iV tg[i]] := by
 obtain ⟨rows, h1, h2, h3⟩ := h
 have hlt : i < rows.length := by omega
 obtain ⟨a, k1, k2, k3, k4⟩ := h1.idx (k := .i64) (i := i) (List.getElem?_eq_getElem hlt)
 have hg := h3 i _ _ (List.getElem?_eq_getElem hlt) (List.getElem?_eq_getElem hi)
 obtain ⟨a2, j1, _, j3, _⟩ := (h1.rsl O).idx .i64 i rows[i] (by simp [hlt])
 obtain rfl : a2 = a := by rw [j1] at k1; simpa using k1
 have hr := j3 1 1 (by omega)
 refine ⟨_, _, k1, k2, k3, k4, hg, ?_⟩
 have e : ((rows[i]).drop 1).take 1 = [iV tg[i]] := by
  match hm : rows[i], k3 with
  | [_, b, _, _, _], _ => rw [hm] at hg; simpa [g] using hg
 rw [e] at hr
 exact hr
theorem Jn {H : Heap} {O : Own} {v : Value} {tg : List Int} (h : EffsS H v tg) (hb : tg.length ≤ 1000000) : RetO PP ng [v] H O (iV (fS tg).length) := by
 refine ry (vs := [v]) (by kernel_rfl) ⟨h.one, trivial⟩ ?_
 simp only [mW]
 refine ab _ h.len ?_
 refine iq tg.length (fun i x H' O' => O' = O ∧ Heap.le H H' ∧ x = iV (fS (tg.take i)).length) ⟨rfl, Heap.le_refl _, rfl⟩ ?_
 rintro i x H' O' hi - ⟨rfl, hle, rfl⟩
 refine ab _ (aN _ _) (ak (fun hb => ?_) (fun hb => ?_))
 ·have hlt : i < tg.length := by simpa using hb
  obtain ⟨a, r, k1, k2, k3, k4, k5, _⟩ := I1 (O := O') (h.le hle) hlt
  refine ab _ k1 (ax (iC k2) k3 k4 (ae fun r0 => ?_))
  refine aa (aa ?_)
  rw [k5]
  refine ab _ (aV _ _) ?_
  have hft := BW (p := fun t : Int => t != 0) hlt
  have hfl : ((tg.take i).filter fun t : Int => t != 0).length ≤ tg.length := Nat.le_trans (List.length_filter_le _ _) (by rw [List.length_take]; omega)
  refine ak (fun hc => ?_) (fun hc => ?_)
  ·have hc : (tg[i] != 0) = true := hc
   rw [if_pos hc] at hft
   refine ab _ (aD (by rw [fS]; omega)) (ab _ (aD (by omega)) (bf (by simp [Eqs]) hlt ⟨rfl, hle, ?_⟩))
   rw [fS, fS, hft]
  ·have hc : (tg[i] != 0) = false := hc
   rw [if_neg (by rw [hc]; simp)] at hft
   refine ab _ (aD (by omega)) (bf (by simp [Eqs]) hlt ⟨rfl, hle, ?_⟩)
   rw [fS, fS, hft]; rfl
 ·have hge : tg.length ≤ i := by simpa using hb
  rw [List.take_of_length_le hge]
  exact ah ⟨rfl, rfl⟩
def Py (c : Int) : Ob := ⟨0, c, 0, 0, 0, 0, 0, 0, 0, false, false, false⟩
def PZ (k : Int) : Bool := k == 3 || k == 4
def lj (cs : List Cd) (x : It) : Bool := (PZ (B9 cs x.card).kind && decide (x.trig < 0)) && decide ((x.tgs.length : Int) ≥ ((fS (B9 cs x.card).tg).length : Int))
theorem Ky {cs : List Cd} (h : fu cs = true) (c : Int) : (B9 cs c).tg.length ≤ 5 := by
 have := vz h c
 simp only [mF, Bool.and_eq_true, Bool.not_eq_true', Bool.or_eq_false_iff, decide_eq_false_iff_not] at this
 omega
theorem NI {H : Heap} {v : Value} {cs : List Cd} (h : CardsS H v cs) (hli : fu cs = true) {row : List Value} {x : It} (hx : ItR H [] row x) : RetO PP qt [v, .agg row.toArray] H [] (.bool (lj cs x)) := by
 obtain ⟨s, rfl, hs⟩ := hx
 refine uW (vs := [v, iV x.player, iV x.id, iV x.card, iV x.trig, s]) (by kernel_rfl) ⟨h.one, rfl, rfl, rfl, rfl, hs.one, trivial⟩ ?_
 simp only [qb]
 refine ae fun r0 => ?_
 refine aa ?_
 refine ao (Jf h hli (Py x.card)) ?_
 rintro _ H1 _ ⟨⟨cells, rfl, k1, k2, k3, k4⟩, rfl⟩ l1
 refine ⟨cells, by simp [Shp.open, k1], k2, ae fun r1 => ?_⟩
 have k3 : g cells 1 = iV (B9 cs x.card).kind := k3
 have k4 : EffsS H1 (g cells 11) (B9 cs x.card).tg := k4
 refine aa (aa ?_)
 rw [k3]
 have hsl : aj .len [s] = some (iV x.tgs.length) := by have := hs.len; rwa [List.length_map] at this
 refine ab _ (aA _ _) (aa (af (af (ab _ (aA _ _) (af (ab _ (aM _ _) (aa (af (af (ab _ (aN _ _) (af (ab _ (bA _ _) ?_))))))))))))
 refine ak (fun hb => ?_) (fun hb => ?_)
 ·have hb : (PZ (B9 cs x.card).kind && decide (x.trig < 0)) = true := hb
  refine aa ?_
  refine ab _ hsl ?_
  refine aa ?_
  refine ai (Jn k4 (by have := Ky hli x.card; omega)) rfl ⟨rfl, trivial⟩ fun H2 l2 => ?_
  refine ab _ (eK _ _) (ah ⟨?_, rfl⟩)
  rw [lj, hb, Bool.true_and]
 ·have hb : (PZ (B9 cs x.card).kind && decide (x.trig < 0)) = false := hb
  refine ah ⟨?_, rfl⟩
  rw [lj, hb, Bool.false_and]
end Go.Proofs.YtdhobpmnkfmcfaaGreatDoor
