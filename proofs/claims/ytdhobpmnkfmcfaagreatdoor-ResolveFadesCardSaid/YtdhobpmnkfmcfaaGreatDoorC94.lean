/- resolve.Top. -/
import Derived.Test.YtdhobpmnkfmcfaaGreatDoorC84
import Derived.Test.YtdhobpmnkfmcfaaGreatDoorC51
namespace Go.Proofs.YtdhobpmnkfmcfaaGreatDoor
open Go Go.Sx
set_option maxRecDepth 100000
set_option maxHeartbeats 1000000
def Ax (cs : List CdX) (x : It) (most : Int) (b : Bd) (e : Eff) (t : Tg) : Bd := if uw e = true then tB cs b x.player x.id e t most else b
def qF (cs : List CdX) (x : It) (most : Int) : List Eff → List Tg → Bd → Bd
 | [], _, b => b
 | e :: l, ts, b => if e.target = 0 then qF cs x most l ts (Ax cs x most b e ⟨0, 0⟩) else if ts = [] then qF cs x most l ts b else qF cs x most l ts.tail (Ax cs x most b e (ts.headD ⟨0, 0⟩))
theorem Fp (cs : List CdX) (x : It) (most : Int) (e : Eff) (l : List Eff) (ts : List Tg) (b : Bd) : qF cs x most (e :: l) ts b = if e.target = 0 then qF cs x most l ts (Ax cs x most b e ⟨0, 0⟩) else if ts = [] then qF cs x most l ts b else qF cs x most l ts.tail (Ax cs x most b e (ts.headD ⟨0, 0⟩)) := rfl
def CL (cs : List CdX) (x : It) (b : Bd) : Bd := if x.trig < 0 ∧ (cdX cs x.card).kind = 2 then (dJ b x.id 2).1 else b
def QK (cs : List CdX) (b : Bd) (most : Int) : Bd := qF cs (gj b) most (GK cs (gj b).card (gj b).trig) (gj b).tgs (CL cs (gj b) (nU b).1)
def Da (cs : List CdX) (b : Bd) : Int := if al b = false then 2 else if b.stack = [] then 9 else if Bj cs b ≠ 0 then 8 else 0
def Fo (cs : List CdX) (b : Bd) (most : Int) : Bd := if Da cs b = 0 then QK cs b most else zBd
def Lm (cs : List CdX) (b : Bd) : It := if Da cs b = 0 then gj b else zIt
theorem Pi {cs : List CdX} {x : It} (most : Int) {b : Bd} (e : Eff) (t : Tg) {n : Nat} (hp : x.player = 0 ∨ x.player = 1) (hs : i64 x.id) (hv : al b = true) (hz : szB n b) : al (Ax cs x most b e t) = true ∧ szB (n + 100) (Ax cs x most b e t) := by
 rw [Ax]
 split
 ·rename_i he
  exact ⟨(IK most hv hp hs he).valid, L9 hz cs _ _ (ky he).2.1 _ _⟩
 ·exact ⟨hv, szB.le hz (by omega)⟩
theorem Ei {b : Bd} (hv : al b = true) (hne : b.stack ≠ []) : gj b ∈ b.stack ∧ ((gj b).player = 0 ∨ (gj b).player = 1) ∧ i64 (gj b).id ∧ -1 ≤ (gj b).trig := by
 obtain ⟨l, x, hl⟩ := Eh hne
 rw [vJ hl]
 have hm : x ∈ b.stack := by rw [hl]; simp
 have hxf := jD hv hm
 simp only [jr, ap, Bool.and_eq_true, decide_eq_true_eq] at hxf
 exact ⟨hm, by omega, by constructor <;> omega, by omega⟩
theorem OC {b : Bd} (hv : al b = true) (hne : b.stack ≠ []) {n : Nat} (hz : szB n b) : (nU b).2 = 0 ∧ al (nU b).1 = true ∧ szB (n + 1) (nU b).1 ∧ ((gj b).trig < 0 → ∃ (k : Nat) (o : Ob), (nU b).1.objs[k]? = some o ∧ o.id = (gj b).id) := by
 have h2 : (nU b).2 = 0 := by
  rw [nU, if_neg (by rw [hv]; simp), if_neg hne]; split <;> rfl
 obtain ⟨n1, n2⟩ := Ko hv hz
 rw [Br, if_pos h2] at n1 n2
 refine ⟨h2, n1, n2, fun ht => ?_⟩
 obtain ⟨i1, _, _, i4⟩ := Ei hv hne
 obtain ⟨k, o, f1, f2, f3⟩ := Ln hv i1 ht
 have hm1 : (gj b).trig = -1 := by omega
 have hmv := Ic hv f1 3 (by omega)
 have emr : F2 b k (bm o 3) 3 = eo b k (bm o 3) 3 := by
  show jM (du (EL b o.id) k _) o.owner 3 o.id = jM (du (kl b o.id) k _) o.owner 3 o.id
  rw [Dq hv]
 rw [emr, f2] at hmv
 refine ⟨k, bm o 3, ?_, f2⟩
 rw [nU, if_neg (by rw [hv]; simp), if_neg hne, if_pos hm1, hmv]
 show (eo b k (bm o 3) 3).objs[k]? = _
 rw [rH, List.getElem?_set]
 have hlt := (List.getElem?_eq_some_iff.1 f1).1
 simp [hlt]
def BG (x : It) (s : Value) : List Value := [iV x.player, iV x.id, iV x.card, iV x.trig, s]
theorem LO {H : Heap} {v : dr} {b : Bd} (h : BdS H v b) (hB : bdB b) :
  Triple PP mM [.agg (am v b).toArray] H [] fun r H' O' => ∃ w s, r = .tuple #[.agg (am w (nU b).1).toArray, .agg (BG (zG b) s).toArray, iV (nU b).2] ∧ OwnB tys w (nU b).1 O' ∧ Sl H' 2 s (cO (zG b).tgs) := by
 refine Triple.ghost (Pe h hB) ?_
 rintro r H' O' _ hc ⟨w, s, A, T, rfl, hp, ho, hs⟩
 have hp' := hp.trans List.perm_append_comm
 have hc := hc.perm hp'
 obtain ⟨H1, g1, k1, l1⟩ := hs.freeze hc
 exact ⟨H1, A, (Ghost.perm hp').trans g1, w, s, rfl, ho, k1⟩
theorem Gy {H : Heap} {v : Value} {cs : List CdX} (h : CardsX H v cs) (hli : fu (cs.map CdX.base) = true) (c : Int) : Triple PP jA [v, .agg (Py c).row.toArray] H [] fun r _ O' => (∃ cells : List Value, r = .agg cells.toArray ∧ cells.length = 14 ∧ Ones cells ∧ g cells 1 = iV (cdX cs c).kind) ∧ O' = [] := by
 refine Triple.ghost (y9 h hli (Py c)) ?_
 rintro r H' O' _ _ ⟨cells, A, B, rfl, k1, k2, k3, _⟩
 exact ⟨H', [], Ghost.drop _ _, ⟨cells, rfl, k1, k2, k3⟩, rfl⟩
def N7 (x : Bd) (it : It) (e : Int) (r : Value) (H' : Heap) (O' : Own) : Prop := ∃ w s, r = .tuple #[.agg (am w x).toArray, .agg (BG it s).toArray, iV e] ∧ OwnB tys w x O' ∧ Sl H' 2 s (cO it.tgs)
theorem zl {H : Heap} {O : Own} {cv : Value} {cs : List CdX} (hgl : GlobOk tC H) (hk : CardsX H cv cs) (hli : fu (cs.map CdX.base) = true) {x : It} (hp : x.player = 0 ∨ x.player = 1) (hid : i64 x.id) {s : Value} (hs : Sl H 2 s (cO x.tgs)) {w : dr} {c : Bd} (ho : OwnB tys w c O) (hv : al c = true) {n : Nat} (hz : szB n c) (hn : n ≤ 20000) (most : Int)
  {l0 l1 l2 : List Value} (q0 : g l0 0 = cv) (q39 : g l0 39 = iV most) (q5 : G5 l1 38 = BG x s) (q1 : g l1 38 = iV x.player) (q2 : g l1 39 = iV x.id) (q3 : g l1 42 = s) (q4 : G38 l2 0 = am w c) {r1 r2 r3 r4 lab : Nat} :
  (fD r1 l0 l1 lab l2 r2 r3 r4).den PP (N7 (qF cs x most (GK cs x.card x.trig) x.tgs c) x 0) H O := by
 simp only [fD]
 rw [q0, q39, q5, q1, q2, q3, q4]
 have hL5 := zZ hli x.card x.trig
 refine aa (aa ?_)
 refine ao (Triple.frozenS (za hk hli x.player x.id x.card x.trig hs.one)) ?_
 rintro ev H1 _ ⟨hev, rfl⟩ l1
 rw [List.nil_append]
 refine ⟨[ev], rfl, ⟨hev.one, trivial⟩, ?_⟩
 obtain ⟨elen, _⟩ := NE hev
 generalize hL : GK cs x.card x.trig = L at *
 generalize hfin : qF cs x most L x.tgs c = fin
 refine ab _ elen ?_
 refine gI (fun vs H' O' => ∃ (i : Nat) (sv : Value) (ts : List Tg) (w : dr) (c : Bd), vs = sv :: iV (i : Int) :: am w c ∧ i ≤ L.length ∧ Heap.le H1 H' ∧ Sl H' 2 sv (cO ts) ∧ OwnB tys w c O' ∧ al c = true ∧ szB (n + 100 * i) c ∧ qF cs x most (L.drop i) ts c = fin) (fun vs _ _ => match g vs 1 with | .int _ k => L.length + 1 - k.toNat | _ => 0) ⟨0, s, x.tgs, w, c, rfl, Nat.zero_le _, Heap.le_refl _, hs.le l1, ho, hv, hz, hfin⟩ ?_
 rintro _ H2 O2 _ _ _ ⟨i, sv, ts, w2, c2, rfl, hi, hle, hsv, ho2, hv2, hz2, hg⟩
 have hgl := hgl.le (Heap.le_trans l1 hle)
 have hk := hk.le (Heap.le_trans l1 hle)
 have hev := hev.le hle
 have hs2 := hs.le (Heap.le_trans l1 hle)
 refine ab _ (aN _ _) (ak (fun hlt => ?_) (fun hge => ?_))
 ·have hlt : i < L.length := by have := of_decide_eq_true hlt; omega
  rw [List.drop_eq_getElem_cons hlt, Fp] at hg
  obtain ⟨a, k1, k2, _, k4, k5⟩ := (hev.rsl O2).idx .i64 i _ (y3 hlt)
  generalize L[i] = e at *
  have nxt : ∀ {H3 : Heap} {O3 : Own} {sv3 : Value} {ts3 : List Tg} {w3 : dr} {c3 : Bd}, Heap.le H2 H3 → Sl H3 2 sv3 (cO ts3) → OwnB tys w3 c3 O3 → (al c3 = true ∧ szB (n + 100 * i + 100) c3) → qF cs x most (L.drop (i + 1)) ts3 c3 = fin →
    (∃ (j : Nat) (sv : Value) (ts : List Tg) (w : dr) (c : Bd), sv3 :: iV ((i + 1 : Nat) : Int) :: am w3 c3 = sv :: iV (j : Int) :: am w c ∧ j ≤ L.length ∧ Heap.le H1 H3 ∧ Sl H3 2 sv (cO ts) ∧ OwnB tys w c O3 ∧ al c = true ∧ szB (n + 100 * j) c ∧ qF cs x most (L.drop j) ts c = fin) ∧
     (L.length + 1 - ((i + 1 : Nat) : Int).toNat < L.length + 1 - (i : Int).toNat) := by
   intro H3 O3 sv3 ts3 w3 c3 h1 h2 h3 h4 h5
   refine ⟨⟨i + 1, sv3, ts3, w3, c3, rfl, hlt, Heap.le_trans hle h1, h2, h3, h4.1, by rw [Nat.mul_add, ← Nat.add_assoc]; exact h4.2, h5⟩, ?_⟩
   omega
  refine ab _ k1 (ax k2 k4 k5 (ae fun b4 => aa (ae fun b5 => ?_)))
  have val : ∀ {H3}, RetO PP lh [.agg e.row.toArray] H3 O2 (.bool (uw e)) := fun {H3} => by simpa using (pn e H3).frame O2
  have act : ∀ t, al (Ax cs x most c2 e t) = true ∧ szB (n + 100 * i + 100) (Ax cs x most c2 e t) := fun t => Pi most e t hp hid hv2 hz2
  refine aa ?_
  refine ab _ (aV _ _) (ak (fun h0 => ?_) (fun h0 => ?_))
  ·have h0 : e.target ≠ 0 := by simpa using h0
   rw [if_neg h0] at hg
   have tlen : aj .len [sv] = some (iV ts.length) := by have := hsv.len; rwa [cA] at this
   refine ab _ tlen ?_
   refine ab _ (aA _ _) (ak (fun hz0 => ?_) (fun hz0 => ?_))
   ·have hts : ts = [] := List.length_eq_zero_iff.1 (by have : (ts.length : Int) = 0 := (by simpa using hz0); omega)
    subst hts
    rw [if_pos rfl] at hg
    obtain ⟨n1, n2⟩ := nxt (Heap.le_refl _) hsv ho2 ⟨hv2, szB.le hz2 (by omega)⟩ hg
    exact ab _ (aD (by omega)) (cY (by simp [Eqs, E]) n1 n2)
   cases ts with
   | nil => exact absurd hz0 (by simp)
   | cons t ts =>
   rw [if_neg (by simp)] at hg
   have hg : qF cs x most (L.drop (i + 1)) ts (Ax cs x most c2 e t) = fin := hg
   obtain ⟨a2, m1, m2, _, m4, m5⟩ := (hsv.rsl O2).idx .i64 0 t.row rfl
   obtain ⟨u, u1, u2⟩ := hsv.from (i := 1) (by rw [cA, List.length_cons]; omega)
   have u2 : Sl H2 2 u (cO ts) := by simpa [cO] using u2
   refine ab _ m1 (ax m2 m4 m5 ?_)
   refine ab _ u1 ?_
   refine aa (aa ?_)
   refine ai val rfl ⟨rfl, trivial⟩ fun H3 l3 => ak (fun he => ?_) (fun he => ?_)
   ·have he : uw e = true := he
    have ea : Ax cs x most c2 e t = tB cs c2 x.player x.id e t most := by rw [Ax, if_pos he]
    have act := act t
    rw [ea] at hg act
    refine aa (aa (aa (aa (aa ?_))))
    refine lO (O1 := O2) (O2 := []) (List.Perm.of_eq (by simp)) (Ah (hgl.le l3) (hk.le l3) hli ho2 hv2 (Px hz2 (by omega)) hp hid he) ?_
    rintro _ H4 O4 ⟨w4, rfl, h4⟩ l4
    refine ⟨am w4 _, rfl, aT H4 h4, ?_⟩
    rw [List.append_nil]
    have l34 := Heap.le_trans l3 l4
    obtain ⟨n1, n2⟩ := nxt l34 (u2.le l34) h4 act hg
    refine aa ?_
    exact ab _ (aD (by omega)) (cY (by simp [Eqs, E]) n1 n2)
   ·have he : uw e = false := he
    have ea : Ax cs x most c2 e t = c2 := by rw [Ax, if_neg (by rw [he]; simp)]
    rw [ea] at hg
    obtain ⟨n1, n2⟩ := nxt l3 (u2.le l3) ho2 ⟨hv2, szB.le hz2 (by omega)⟩ hg
    exact ab _ (aD (by omega)) (cY (by simp [Eqs, E]) n1 n2)
  ·have h0 : e.target = 0 := by simpa using h0
   rw [if_pos h0] at hg
   refine aa ?_
   refine ai val rfl ⟨rfl, trivial⟩ fun H3 l3 => ak (fun he => ?_) (fun he => ?_)
   ·have he : uw e = true := he
    have ea : Ax cs x most c2 e ⟨0, 0⟩ = tB cs c2 x.player x.id e ⟨0, 0⟩ most := by rw [Ax, if_pos he]
    have act := act ⟨0, 0⟩
    rw [ea] at hg act
    refine aa (aa (aa (aa (aa ?_))))
    refine lO (O1 := O2) (O2 := []) (List.Perm.of_eq (by simp)) (Ah (t := ⟨0, 0⟩) (hgl.le l3) (hk.le l3) hli ho2 hv2 (Px hz2 (by omega)) hp hid he) ?_
    rintro _ H4 O4 ⟨w4, rfl, h4⟩ l4
    refine ⟨am w4 _, rfl, aT H4 h4, ?_⟩
    rw [List.append_nil]
    have l34 := Heap.le_trans l3 l4
    obtain ⟨n1, n2⟩ := nxt l34 (hsv.le l34) h4 act hg
    refine aa ?_
    exact ab _ (aD (by omega)) (cY (by simp [Eqs, E]) n1 n2)
   ·have he : uw e = false := he
    have ea : Ax cs x most c2 e ⟨0, 0⟩ = c2 := by rw [Ax, if_neg (by rw [he]; simp)]
    rw [ea] at hg
    obtain ⟨n1, n2⟩ := nxt l3 (hsv.le l3) ho2 ⟨hv2, szB.le hz2 (by omega)⟩ hg
    exact ab _ (aD (by omega)) (cY (by simp [Eqs, E]) n1 n2)
 ·have hge : L.length ≤ i := by have := of_decide_eq_false hge; omega
  rw [List.drop_of_length_le hge] at hg
  have hg : c2 = fin := hg
  subst hg
  refine aa (aa (aa (aa (aa (aa ?_)))))
  exact ah ⟨w2, s, rfl, ho2, hs2⟩
theorem Qd {H : Heap} {cv : Value} {cs : List CdX} (hgl : GlobOk tC H) (hk : CardsX H cv cs) (hli : fu (cs.map CdX.base) = true) {v : dr} {b : Bd} (h : BdS H v b) {n : Nat} (hz : szB n b) (hn : n ≤ 19000) (most : Int) :
  Triple PP jy [cv, .agg (am v b).toArray, iV most] H [] (N7 (Fo cs b most) (Lm cs b) (Da cs b)) := by
 refine nJ (vs := cv :: (am v b ++ [iV most])) (by kernel_rfl) ⟨hk.one, ar (an (h.r [])) ⟨rfl, trivial⟩⟩ ?_
 simp only [mJ]
 have hB := Px hz (by omega)
 refine ae fun r0 => ae fun r1 => ae fun r2 => ?_
 have bad : ∀ {e : Int}, Da cs b = e → e ≠ 0 → N7 (Fo cs b most) (Lm cs b) (Da cs b) = N7 zBd zIt e := fun he hne => by
  rw [Fo, Lm, he, if_neg hne, if_neg hne]
 by_cases hv : al b = true
 case neg =>
  have hv : al b = false := by simpa using hv
  have e2 : (nU b) = (zBd, 2) := by rw [nU, if_pos hv]
  have e3 : zG b = zIt := by rw [zG, if_pos hv]
  rw [bad (e := 2) (by rw [Da, if_pos hv]) (by omega)]
  refine aa ?_
  refine ai (J1 hk.one h hv) rfl ⟨rfl, trivial⟩ fun H1 l1 => ?_
  refine ab _ (aV _ _) (ak (fun hd => by cases hd) (fun _ => ?_))
  refine aa ?_
  refine ao (LO (h.le l1) hB) ?_
  rintro _ H2 O2 ⟨w, s, rfl, ho, hs⟩ l2
  rw [e2, e3] at *
  refine ⟨am w zBd ++ (BG zIt s ++ [iV 2]), rfl, ar (aT H2 ho) (ar ⟨rfl, rfl, rfl, rfl, hs.one, trivial⟩ ⟨rfl, trivial⟩), ae fun r3 => ?_⟩
  refine aa (aa ?_)
  refine ab _ (aV _ _) (ak (fun _ => ?_) (fun hd => by cases hd))
  refine aa (aa (aa (aa ?_)))
  exact mh ⟨sP, .slice none 0 0, rfl, OwnB.zero tys, Sl.nil _ _⟩
 refine aa ?_
 refine ai (LP hk hli h hv) rfl ⟨rfl, trivial⟩ fun H1 l1 => ?_
 have h := h.le l1
 refine ab _ (aV _ _) (ak (fun ho => ?_) (fun ho => ?_))
 ·have ho : Bj cs b ≠ 0 := by simpa using ho
  have hne : b.stack ≠ [] := fun e => ho (ww e)
  rw [bad (e := 8) (by rw [Da, if_neg (by rw [hv]; simp), if_neg hne, if_pos ho]) (by omega)]
  refine aa (aa (aa (aa ?_)))
  exact ah ⟨sP, .slice none 0 0, rfl, OwnB.zero tys, Sl.nil _ _⟩
 have ho : Bj cs b = 0 := by simpa using ho
 refine aa ?_
 refine ao (LO h hB) ?_
 rintro _ H2 O2 ⟨w, s, rfl, ho2, hs⟩ l2
 rw [List.append_nil]
 have e3 : zG b = gj b := by rw [zG, if_neg (by rw [hv]; simp)]
 rw [e3] at hs ⊢
 refine ⟨am w (nU b).1 ++ (BG (gj b) s ++ [iV (nU b).2]), rfl, ar (aT H2 ho2) (ar ⟨rfl, rfl, rfl, rfl, hs.one, trivial⟩ ⟨rfl, trivial⟩), ae fun r3 => ?_⟩
 by_cases hne : b.stack = []
 ·have e2 : (nU b) = (zBd, 9) := by rw [nU, if_neg (by rw [hv]; simp), if_pos hne]
  rw [bad (e := 9) (by rw [Da, if_neg (by rw [hv]; simp), if_pos hne]) (by omega)]
  rw [e2] at *
  refine aa (aa ?_)
  refine ab _ (aV _ _) (ak (fun _ => ?_) (fun hd => by cases hd))
  refine aa (aa (aa (aa ?_)))
  exact mh ⟨sP, .slice none 0 0, rfl, OwnB.zero tys, Sl.nil _ _⟩
 have hE : Da cs b = 0 := by rw [Da, if_neg (by rw [hv]; simp), if_neg hne, if_neg (by rw [ho]; simp)]
 obtain ⟨p1, p2, p3, p4⟩ := OC hv hne hz
 obtain ⟨i1, i2, i3, i4⟩ := Ei hv hne
 have hq : N7 (Fo cs b most) (Lm cs b) (Da cs b) = N7 (qF cs (gj b) most (GK cs (gj b).card (gj b).trig) (gj b).tgs (CL cs (gj b) (nU b).1)) (gj b) 0 := by
  rw [Fo, Lm, if_pos hE, if_pos hE, hE]; rfl
 rw [hq, p1]
 have hgl := hgl.le (Heap.le_trans l1 l2)
 have hk := hk.le (Heap.le_trans l1 l2)
 clear hq bad hE
 generalize nU b = pb at *
 generalize gj b = x at *
 refine aa (aa ?_)
 refine ab _ (aV _ _) (ak (fun hd => by cases hd) (fun _ => ?_))
 refine aa ?_
 refine ab _ (aN _ _) (ak (fun ht => ?_) (fun ht => ?_))
 ·have ht : x.trig < 0 := of_decide_eq_true ht
  refine aa ?_
  refine ao (Gy hk hli x.card) ?_
  rintro _ H3 _ ⟨⟨cells, rfl, c1, c2, c3⟩, rfl⟩ l3
  rw [List.nil_append]
  refine ⟨cells, by simp [Shp.open, c1], c2, ?_⟩
  have hke : aj (.bin .eql .int) [g cells 1, iV 2] = some (.bool ((cdX cs x.card).kind == 2)) := by rw [c3]; exact aA _ _
  refine ab _ hke (ak (fun hc => ?_) (fun hc => ?_))
  ·have hc : (cdX cs x.card).kind = 2 := by simpa using hc
   have eb : CL cs x pb.1 = (dJ pb.1 x.id 2).1 := by rw [CL, if_pos ⟨ht, hc⟩]
   obtain ⟨k, o, f1, f2⟩ := p4 ht
   have hv3 : al (dJ pb.1 x.id 2).1 = true := Bq p2 f1 f2 (by omega)
   rw [eb]
   refine aa (aa ?_)
   refine gR ho2 (fun Hf lf hf => CB hf (Px p3 (by omega)) i3 2) ?_
   rintro _ H4 O4 ⟨w4, rfl, h4⟩ l4
   refine ⟨am w4 (dJ pb.1 x.id 2).1 ++ [iV (dJ pb.1 x.id 2).2], rfl, ar (aT H4 h4) ⟨rfl, trivial⟩, ?_⟩
   have l34 := Heap.le_trans l3 l4
   refine aa ?_
   exact zl (hgl.le l34) (hk.le l34) hli i2 i3 (hs.le l34) h4 hv3 (o6 p3 _ _) (by omega) most rfl rfl rfl rfl rfl rfl rfl
  ·have hc : (cdX cs x.card).kind ≠ 2 := by simpa using hc
   have eb : CL cs x pb.1 = pb.1 := by rw [CL, if_neg (fun h => hc h.2)]
   rw [eb]
   exact zl (hgl.le l3) (hk.le l3) hli i2 i3 (hs.le l3) ho2 p2 p3 (by omega) most rfl rfl rfl rfl rfl rfl rfl
 ·have ht : ¬ x.trig < 0 := of_decide_eq_false ht
  have eb : CL cs x pb.1 = pb.1 := by rw [CL, if_neg (fun h => ht h.1)]
  rw [eb]
  exact zl hgl hk hli i2 i3 hs ho2 p2 p3 (by omega) most rfl rfl rfl rfl rfl rfl rfl
def QY (x : Bd) (it : It) (e : Int) (r : Value) (H' : Heap) (O' : Own) : Prop := (∃ w s, r = .tuple #[.agg (am w x).toArray, .agg (BG it s).toArray, iV e] ∧ BdS H' w x ∧ Sl H' 2 s (cO it.tgs)) ∧ O' = []
end Go.Proofs.YtdhobpmnkfmcfaaGreatDoor
